/- Walks of the program's functions and plain facts, packed; proved: the lemmas below; no conditions but those that each states. -/
import Derived.Test.YtoflcheopfppoaaGreatDoorI6
import Derived.Laws.EntriesVeiled
import Derived.Test.YtoflcheopfppoaaGreatDoorI1
import Derived.Test.YtoflcheopfppoaaGreatDoorI5
set_option maxRecDepth 100000
set_option maxHeartbeats 4000000
namespace Go.Proofs.YtoflcheopfppoaaGreatDoor
section
open Go Go.RowKit Go.Shelf
attribute [local go_sem] Zx
def Vw (x : Lt) : Prop:=-1099511627776 ≤ x.n ∧ x.n ≤ 1099511627776
def lenOf : Value → Nat
 | .slice _ n _ => n
 | _ => 0
theorem U5 {w : World} {base base' size n : Nat} {e : TypeId} {v : Value} {xs : List Value} (h : w.ownsRow base e size v n xs) (hb : base' ≤ base) : w.ownsRow base' e size v n xs :=
 ⟨h.1,h.2.elim Or.inl (fun ⟨g,cap,cur,hv,hg,r⟩ => Or.inr ⟨g,cap,cur,hv,Nat.le_trans hb hg,r⟩)⟩
theorem Mw (f : Nat → Lt) (n : Nat) : Jr f (n + 1) = f 0 :: Jr (fun t => f (t + 1)) n:=by
 unfold Jr;rw [List.range_succ_eq_map,List.map_cons,List.map_map];rfl
theorem Rb {w : World} {b off n : Nat} {f : Nat → Lt} (h : Qs w (some ⟨b,off,none⟩) (n + 1) 2 (Zw f)) : Qs w (some ⟨b,off + 2,none⟩) n 2 (Zw (fun t => f (t + 1))):=fun _ => by
 obtain ⟨b',off',hA,hb,hc⟩:=h Qa;obtain ⟨rfl,rfl⟩ : b = b' ∧ off = off':=by simpa using hA
 exact ⟨b,off + 2,rfl,hb,fun i j v hi hv => by
  have:=hc (i + 1) j v Qa hv;rw [show off + 2 + i * 2 + j = off + (i + 1) * 2 + j by omega];exact this⟩
theorem Qc5 {q n m : Nat} {f g : Nat → Lt} (h : m = 0 ∨ Jf (f 0).g (g 0).g = true) : Jb (q + 1) (Jr f (n + 1)) (Jr g m) = (f 0,Yt) :: Jb q (Jr (fun t => f (t + 1)) n) (Jr g m):=by
 rw [Mw]
 cases m with
 | zero => rfl
 | succ m => rw [Mw g m,Jb,if_pos (h.resolve_left Qa)]
theorem Qc6 {q n m : Nat} {f g : Nat → Lt} (h : n = 0 ∨ (Jf (f 0).g (g 0).g = false ∧ Jf (g 0).g (f 0).g = true)) : Jb (q + 1) (Jr f n) (Jr g (m + 1)) = (Yt,g 0) :: Jb q (Jr f n) (Jr (fun t => g (t + 1)) m):=by
 rw [Mw]
 cases n with
 | zero => rfl
 | succ n =>
  have h2:=h.resolve_left Qa;rw [Mw f n,Jb,if_neg (by rw [h2.1];decide),if_pos h2.2]
theorem step_b {q n m : Nat} {f g : Nat → Lt} (h1 : Jf (f 0).g (g 0).g = false) (h2 : Jf (g 0).g (f 0).g = false) : Jb (q + 1) (Jr f (n + 1)) (Jr g (m + 1)) = (f 0,g 0) :: Jb q (Jr (fun t => f (t + 1)) n) (Jr (fun t => g (t + 1)) m):=by
 rw [Mw,Mw,Jb,if_neg (by rw [h1];decide),if_neg (by rw [h2];decide)]
theorem Ow {sg : Int} {p : Lt × Lt} {L T : List (Lt × Lt)} {xs : List Value} (h : xs ++ (Y7 sg (p :: L)).flatMap Jw = (Y7 sg T).flatMap Jw) : (xs ++ (Ug sg p).flatMap Jw) ++ (Y7 sg L).flatMap Jw = (Y7 sg T).flatMap Jw:=by
 rw [← h];unfold Y7;rw [List.flatMap_cons,List.flatMap_append,List.append_assoc]
theorem Nz {sg : Int} {p : Lt × Lt} {L T : List (Lt × Lt)} (h : Xc sg (p :: L) = Xc sg T) (hp : Xy sg p.1 p.2 = true) : Xc sg L = Xc sg T:=by
 rw [← h];unfold Xc;rw [List.all_cons,hp,Bool.true_and]
theorem Ny {sg : Int} {p : Lt × Lt} {L T : List (Lt × Lt)} (h : Xc sg (p :: L) = Xc sg T) (hp : Xy sg p.1 p.2 = false) : Xc sg T = false:=by
 rw [← h];unfold Xc;rw [List.all_cons,hp,Bool.false_and]
theorem Ol (sg : Int) (p : Lt × Lt) : ((Ug sg p).flatMap Jw).length ≤ 2:=by
 unfold Ug;split <;> simp [Jw]
theorem sg_bd {sg n : Int} (hs : sg = 1 ∨ sg = -1) (h1 : -1099511627776 ≤ n) (h2 : n ≤ 1099511627776) : -1099511627776 ≤ sg * n ∧ sg * n ≤ 1099511627776:=by
 rcases hs with rfl | rfl <;> omega
theorem Oi {W : World} {b b' : Nat} {t t' : TypeId} {cs cs' : Array Value} (h : Qc W b t cs) (h' : Qc W b' t' cs') (hne : t ≠ t') : b ≠ b':=fun e => by
 subst e;have e:=(show W.heap[b]? = _ from h).symm.trans h';simp at e;exact hne e.2
theorem Oz (sg : Int) (hs : sg = 1 ∨ sg = -1) (x y : Lt) (hx : Vw x) (hy : Vw y) (B0 bs bo : Nat) (F : Option Addr) (k cap : Nat) (xs : List Value) (w : World) (HS : Qc w bs 3 #[.int .i64 sg]) (HO : Qc w bo 52 #[.slice F k cap]) (hO : w.ownsRow B0 85 2 (.slice F k cap) k xs) (hk : k ≤ 1000) (hb0 : B0 ≤ w.heap.size) :
  Calls Tryz.prog 113 #[.agg #[.string x.g,.int .i64 x.n],.agg #[.string y.g,.int .i64 y.n],.pointer (some ⟨bs,0,none⟩),.pointer (some ⟨bo,0,none⟩)] w fun e w' => e = .returned (.bool (Xy sg x y)) ∧ Wj B0 bo w w' ∧ (Xy sg x y = true → ∃ F' k' cap',Qc w' bo 52 #[.slice F' k' cap'] ∧ w'.ownsRow B0 85 2 (.slice F' k' cap') k' (xs ++ (Ug sg (x,y)).flatMap Jw)):=by
 have h1:=sg_bd hs hy.1 hy.2;have h2:=hx.1;have h3:=hx.2;exact Qlo sg x y B0 bs bo F k cap xs w HS HO hO hk hO.1 hb0 Qa Qa Qa Qa
theorem Rv : Vw ⟨⟨#[]⟩,0⟩:=by unfold Vw;decide
theorem Qln (m : Nat) : Jb m [] [] = []:=by cases m <;> rfl
def Av (A : Nat → Nat → Nat → Nat → Act) (S : World → Nat → Nat → Nat → Nat → Prop) : Exit → Act → World → Prop:=fun e a' w' => e = .normal ∧ ∃ p q r s,S w' p q r s ∧ a' = A p q r s
theorem Gu {A : Nat → Nat → Nat → Nat → Act} {S : World → Nat → Nat → Nat → Nat → Prop} {w' : World} (p q r s : Nat) {a' : Act} (h : S w' p q r s) (ha : a' = A p q r s) : Av A S .normal a' w':=⟨rfl,p,q,r,s,h,ha⟩
theorem Qn4 {P : Program} {c : Code} {Q : Exit → Act → World → Prop} {a : Act} {w : World} {A : Nat → Nat → Nat → Nat → Act} (S : World → Nat → Nat → Nat → Nat → Prop) (h1 : c.wp P (Av A S) a w) (h2 : ∀ p q r s w',S w' p q r s → Q .normal (A p q r s) w') : c.wp P Q a w :=
 Code.wp_mono (fun e a' w' ⟨he,p,q,r,s,hs,ha⟩ => by subst he;subst ha;exact h2 p q r s w' hs) h1
def Aq (A : Nat → Nat → Act) (S : World → Nat → Nat → Prop) : Exit → Act → World → Prop:=fun e a' w' => e = .normal ∧ ∃ p q,S w' p q ∧ a' = A p q
theorem Jm {A : Nat → Nat → Act} {S : World → Nat → Nat → Prop} {w' : World} (p q : Nat) {a' : Act} (h : S w' p q) (ha : a' = A p q) : Aq A S .normal a' w':=⟨rfl,p,q,h,ha⟩
theorem Kf {P : Program} {c : Code} {Q : Exit → Act → World → Prop} {a : Act} {w : World} {A : Nat → Nat → Act} (S : World → Nat → Nat → Prop) (h1 : c.wp P (Aq A S) a w) (h2 : ∀ p q w',S w' p q → Q .normal (A p q) w') : c.wp P Q a w :=
 Code.wp_mono (fun e a' w' ⟨he,p,q,hs,ha⟩ => by subst he;subst ha;exact h2 p q w' hs) h1
theorem Qj4 (W0 : World) (A B : Option Addr) (n m ca cb : Nat) (f g : Nat → Lt) (sg : Int) (hsg : sg = 1 ∨ sg = -1) (hf : ∀ i,i < n → Vw (f i)) (hg : ∀ i,i < m → Vw (g i)) (hn : n ≤ 64) (hm : m ≤ 64) (hca : n ≤ ca) (hcb : m ≤ cb) (hA : Qs W0 A n 2 (Zw f)) (hB : Qs W0 B m 2 (Zw g)) (bs bo : Nat) (w : World) (hE : Qb W0 w) (hbo : W0.heap.size ≤ bo) (HS : Qc w bs 3 #[.int .i64 sg]) (HO : Qc w bo 52 #[.slice none 0 0]) :
  Calls Tryz.prog 111 #[.slice A n ca,.slice B m cb,.func (.func 112) #[] #[],.func (.func 113) #[] #[.pointer (some ⟨bs,0,none⟩),.pointer (some ⟨bo,0,none⟩)]] w fun e w' => e = .returned (.bool (Xc sg (W4 f n g m))) ∧ Qb W0 w' ∧ (Xc sg (W4 f n g m) = true → ∃ F k cap,Qc w' bo 52 #[.slice F k cap] ∧ w'.ownsRow W0.heap.size 85 2 (.slice F k cap) k ((Y7 sg (W4 f n g m)).flatMap Jw)):=by
 obtain ⟨T,hT0⟩:=Qf (W4 f n g m);rw [← hT0];replace hT0:=Lib.hid hT0;replace hf:=Lib.hid hf;replace hg:=Lib.hid hg
 go_enter Tryz.func111,Tryz.ntmps111
 go_upto_region 2 with (fail)
 obtain ⟨v,b1,E,B9,hbr,hv,hb1⟩:=Yi w 85 #[.string ⟨#[]⟩,.int .i64 0];rw [← hv,← hb1];clear hv hb1;have hE0:=hE.trans E;have hbs0:=HS.lt;have hbo0:=HO.lt;replace HS:=HS.ext E;replace HO:=HO.ext E;have hW9 : W0.heap.size ≤ b1:=by have:=hE.size;omega
 have hbs : bs < b1 + 1:=by omega
 have hbo9' : bo < b1:=by omega
 clear E;obtain ⟨b9,hb9⟩:=Qf b1;rw [← hb9] at B9 hW9 hbs hbo9' ⊢;clear hb9
 go_loopw [0,1] (fun av bv wr => ∃ (n' m' q : Nat) (f' g' : Nat → Lt) (A' B' : Option Addr) (ca' cb' : Nat),av = .slice A' n' ca' ∧ bv = .slice B' m' cb' ∧ n' + m' ≤ q ∧ n' ≤ ca' ∧ m' ≤ cb' ∧ Qs W0 A' n' 2 (Zw f') ∧ Qs W0 B' m' 2 (Zw g') ∧ Hid (∀ i,i < n' → Vw (f' i)) ∧ Hid (∀ i,i < m' → Vw (g' i)) ∧ Qb W0 wr ∧ Qc wr b9 85 #[.string ⟨#[]⟩,.int .i64 0] ∧ Qc wr bs 3 #[.int .i64 sg] ∧ b9 < wr.heap.size ∧ bs < b9 + 1 ∧ ∃ (F : Option Addr) (k cap : Nat) (xs : List Value),Qc wr bo 52 #[.slice F k cap] ∧ wr.ownsRow (b9 + 1) 85 2 (.slice F k cap) k xs ∧ xs.length = k * 2 ∧ k + n' + m' ≤ 128 ∧ Hid (xs ++ (Y7 sg (Jb q (Jr f' n') (Jr g' m'))).flatMap Jw = (Y7 sg T).flatMap Jw) ∧ Hid (Xc sg (Jb q (Jr f' n') (Jr g' m')) = Xc sg T)) (fun av bv _ => lenOf av + lenOf bv)
 case atStart => exact ⟨n,m,n + m,f,g,A,B,ca,cb,rfl,rfl,Nat.le_refl _,hca,hcb,hA,hB,hf,hg,hE0,B9,HS,B9.lt,by omega,none,0,0,[],HO,World.ownsRow_nil _ _ _ _,rfl,by omega,by rw [List.nil_append];unfold Hid;rw [hT0.out];rfl,by unfold Hid;rw [hT0.out];rfl⟩
 case round =>
  clear hE0 B9 HS HO hf hg hA hB;obtain ⟨n',m',q,f',g',A',B',ca',cb',rfl,rfl,hq,hca',hcb',hA,hB,hf,hg,hE,H9,HS,l9,hbs9,F,k,cap,xs,HO,hO,hlen,hk,hout,hall⟩:=hrel;obtain ⟨wo,rfl⟩:=Qf wr;by_cases h0 : n' + m' = 0
  ·obtain ⟨rfl, rfl⟩ : n' = 0 ∧ m' = 0 := by omega
   go_wp2;go_ret;have e1 : Jb q (Jr f' 0) (Jr g' 0) = []:=Qln q;refine ⟨Yn (by rw [← hall.out,e1];rfl),hE,fun _ => ⟨F,k,cap,HO,?_⟩⟩;have h2:=hout.out;rw [e1] at h2;rw [← h2,show (Y7 sg ([] : List (Lt × Lt))).flatMap Jw = [] from rfl,List.append_nil];exact U5 hO Qa
  ·obtain ⟨q, rfl⟩ : ∃ j, q = j + 1 := ⟨q - 1, by omega⟩;have hlen := hO.1;by_cases hm0 : m' = 0
   ·subst hm0;obtain ⟨n', rfl⟩ : ∃ j, n' = j + 1 := ⟨n' - 1, by omega⟩;rw [Qc5 (.inl rfl), show Yt = ⟨⟨#[]⟩, 0⟩ from rfl] at hout hall;obtain ⟨b, off, rfl, hb, hc⟩ := hA Qa;have hA2 := Rb hA;have a0 : W0.cell? ⟨b, off, none⟩ = some (.string (f' 0).g) := by simpa using hc 0 0 _ Qa rfl
    have a1 : W0.cell? ⟨b,off + 1,none⟩ = some (.int .i64 (f' 0).n):=by simpa using hc 0 1 _ Qa rfl
    clear hc;go_upto_region 3 with (fail)
    apply Kf (S:=fun w' p1 p2 => Qb wo w' ∧ wo.heap.size ≤ p1 ∧ wo.heap.size ≤ p2 ∧ p1 ≠ p2 ∧ Qc w' p1 85 #[.string ⟨#[]⟩,.int .i64 0] ∧ Qc w' p2 85 #[.string ⟨#[]⟩,.int .i64 0])
    ·refine Q5 6 [5] (fun x => Qb wo x) mixed rfl ?_;intro vz hvz;have HC:=hvz;refine Qr (g:=4) [0,1] HC ?_
     constructor
     refine ⟨fun u hu => ?_,?_⟩
     ·obtain ⟨q0,q1⟩:=(H9.ext hu).c2;have lq:=(H9.ext hu).lt;exact Qj
     refine Zp 2 3 ?_ ?_
     ·go_wp2;obtain ⟨p1, wb, hbq, hwb, H10, HC', hx, gp1⟩ := Qp HC 85 #[.string ⟨#[]⟩, .int .i64 0];rw [← hbq, ← hwb];try have ne : p2 < p1 := by have := H11.lt; omega
      replace HC:=HC';try replace H11:=H11.ext hx
      clear hbq hwb hx HC';refine Qe HC ?_;refine Qk 3 ?_;go_wp2;obtain ⟨p2,wb,hbq,hwb,H11,HC',hx,gp2⟩:=Qp HC 85 #[.string ⟨#[]⟩,.int .i64 0];rw [← hbq,← hwb];try have ne : p1 < p2:=by have:=H10.lt;omega
      replace HC:=HC';try replace H10:=H10.ext hx
      clear hbq hwb hx HC';refine Qe HC ?_;refine Qk 4 ?_;have z0:=H10.frozen 0;have z1:=H10.frozen 1;obtain ⟨x0,x1⟩:=H10.c2;have lx:=H10.lt;go_wp2;have H10':=Qo H10 (.string ⟨#[]⟩) (.int .i64 0);have H11':=Qg (Qg H11 (show p2 ≠ p1 by omega) 0 (.string ⟨#[]⟩)) (show p2 ≠ p1 by omega) 1 (.int .i64 0);replace HC:=(HC.setCell (p:=⟨p1,0,none⟩) gp1 (.string ⟨#[]⟩)).setCell (p:=⟨p1,1,none⟩) gp1 (.int .i64 0);clear H10 H11 z0 z1 x0 x1 lx;generalize World.setCell _ _ _ = wq at *;refine Qe HC ?_;refine Qn 5 ?_;have z0:=H11'.frozen 0;have z1:=H11'.frozen 1;obtain ⟨x0,x1⟩:=H11'.c2;have lx:=H11'.lt;go_wp2;have H11:=Qo H11' (.string ⟨#[]⟩) (.int .i64 0)
      have H10:=Qg (Qg H10' (show p1 ≠ p2 by omega) 0 (.string ⟨#[]⟩)) (show p1 ≠ p2 by omega) 1 (.int .i64 0);replace HC:=(HC.setCell (p:=⟨p2,0,none⟩) gp2 (.string ⟨#[]⟩)).setCell (p:=⟨p2,1,none⟩) gp2 (.int .i64 0);clear H10' H11' z0 z1 x0 x1 lx;generalize World.setCell _ _ _ = wq at *;refine Qm ?_;refine Qt ?_;exact Jm p1 p2 ⟨HC,gp1,gp2,by omega,H10,H11⟩ rfl
     ·go_wp2;obtain ⟨p2, wb, hbq, hwb, H11, HC', hx, gp2⟩ := Qp HC 85 #[.string ⟨#[]⟩, .int .i64 0];rw [← hbq, ← hwb];try have ne : p1 < p2 := by have := H10.lt; omega
      replace HC:=HC';try replace H10:=H10.ext hx
      clear hbq hwb hx HC';refine Qe HC ?_;refine Qk 2 ?_;go_wp2;obtain ⟨p1,wb,hbq,hwb,H10,HC',hx,gp1⟩:=Qp HC 85 #[.string ⟨#[]⟩,.int .i64 0];rw [← hbq,← hwb];try have ne : p2 < p1:=by have:=H11.lt;omega
      replace HC:=HC';try replace H11:=H11.ext hx
      clear hbq hwb hx HC';refine Qe HC ?_;refine Qk 4 ?_;have z0:=H10.frozen 0;have z1:=H10.frozen 1;obtain ⟨x0,x1⟩:=H10.c2;have lx:=H10.lt;go_wp2;have H10':=Qo H10 (.string ⟨#[]⟩) (.int .i64 0);have H11':=Qg (Qg H11 (show p2 ≠ p1 by omega) 0 (.string ⟨#[]⟩)) (show p2 ≠ p1 by omega) 1 (.int .i64 0);replace HC:=(HC.setCell (p:=⟨p1,0,none⟩) gp1 (.string ⟨#[]⟩)).setCell (p:=⟨p1,1,none⟩) gp1 (.int .i64 0);clear H10 H11 z0 z1 x0 x1 lx;generalize World.setCell _ _ _ = wq at *;refine Qe HC ?_;refine Qn 5 ?_;have z0:=H11'.frozen 0;have z1:=H11'.frozen 1;obtain ⟨x0,x1⟩:=H11'.c2;have lx:=H11'.lt;go_wp2;have H11:=Qo H11' (.string ⟨#[]⟩) (.int .i64 0)
      have H10:=Qg (Qg H10' (show p1 ≠ p2 by omega) 0 (.string ⟨#[]⟩)) (show p1 ≠ p2 by omega) 1 (.int .i64 0);replace HC:=(HC.setCell (p:=⟨p2,0,none⟩) gp2 (.string ⟨#[]⟩)).setCell (p:=⟨p2,1,none⟩) gp2 (.int .i64 0);clear H10' H11' z0 z1 x0 x1 lx;generalize World.setCell _ _ _ = wq at *;refine Qm ?_;refine Qt ?_;exact Jm p1 p2 ⟨HC,gp1,gp2,by omega,H10,H11⟩ rfl
    rintro p1 p2 w3 ⟨h3,gp1,gp2,ne,H10,H11⟩;go_upto_region 5 with (fail)
    refine Zo w3 ?_;intro w5 h5;obtain ⟨hcbw5,hfbw5,hzbw5,hzw5⟩:=Zn w3 h5;replace H10:=H10.ext h5;replace H11:=H11.ext h5;replace h5:=h3.trans h5;go_upto_region 6 with (fail)
    apply Kf (S:=fun w' o2 c2 => Qb wo w' ∧ Qc w' p1 85 #[.string (f' 0).g,.int .i64 (f' 0).n] ∧ Qc w' p2 85 #[.string ⟨#[]⟩,.int .i64 0] ∧ Qs W0 (some ⟨b,o2,none⟩) n' 2 (Zw (fun t => f' (t + 1))) ∧ n' ≤ c2)
    ·by_cases hc1 : ca' = 1;rotate_left
     ·refine Q5 7 [6] (fun x => Qb wo x) mixed rfl ?_;intro vz hvz;have HC:=h5.trans hvz;replace H10:=H10.ext hvz;replace H11:=H11.ext hvz;refine Qr (g:=3) [0,1,2,3] HC ?_
      constructor
      refine ⟨fun u hu => ?_,?_⟩
      ·have a0':=((hE.trans hu).cell (p:=⟨b,off,none⟩) hb).trans a0;have a1':=((hE.trans hu).cell (p:=⟨b,off + 1,none⟩) hb).trans a1;have lb:=Nat.lt_of_lt_of_le hb (hE.trans hu).size;exact Qj
      refine Zp 4 5 ?_ ?_
      ·go_wp2;refine Qe HC ?_;refine Qk 5 ?_;have z0:=H10.frozen 0;have z1:=H10.frozen 1;obtain ⟨x0,x1⟩:=H10.c2;have lx:=H10.lt;go_wp2;have H10':=Qo H10 (.string (f' 0).g) (.int .i64 (f' 0).n);replace H11:=Qg (Qg H11 (Ne.symm ne) 0 (.string (f' 0).g)) (Ne.symm ne) 1 (.int .i64 (f' 0).n);replace HC:=(HC.setCell (p:=⟨p1,0,none⟩) gp1 (.string (f' 0).g)).setCell (p:=⟨p1,1,none⟩) gp1 (.int .i64 (f' 0).n);clear H10 z0 z1 x0 x1 lx;generalize World.setCell _ _ _ = wq at *;refine Qe HC ?_;refine Qn 6 ?_;go_wp2;refine Qm ?_;refine Qt ?_
       (obtain ⟨oo,hoo⟩ : ∃ x,x = off + 2:=⟨_,rfl⟩;obtain ⟨cc,hcc⟩ : ∃ x,x = ca' - 1:=⟨_,rfl⟩;rw [← hoo] at hA2;rw [← hoo,← hcc];exact Jm oo cc ⟨HC,H10',H11,hA2,by omega⟩ rfl)
      ·have z0:=H10.frozen 0;have z1:=H10.frozen 1;obtain ⟨x0,x1⟩:=H10.c2;have lx:=H10.lt;go_wp2;have H10':=Qo H10 (.string (f' 0).g) (.int .i64 (f' 0).n);replace H11:=Qg (Qg H11 (Ne.symm ne) 0 (.string (f' 0).g)) (Ne.symm ne) 1 (.int .i64 (f' 0).n);replace HC:=(HC.setCell (p:=⟨p1,0,none⟩) gp1 (.string (f' 0).g)).setCell (p:=⟨p1,1,none⟩) gp1 (.int .i64 (f' 0).n);clear H10 z0 z1 x0 x1 lx;generalize World.setCell _ _ _ = wq at *;refine Qe HC ?_;refine Qk 4 ?_;go_wp2;refine Qe HC ?_;refine Qn 6 ?_;go_wp2;refine Qm ?_;refine Qt ?_
       (obtain ⟨oo,hoo⟩ : ∃ x,x = off + 2:=⟨_,rfl⟩;obtain ⟨cc,hcc⟩ : ∃ x,x = ca' - 1:=⟨_,rfl⟩;rw [← hoo] at hA2;rw [← hoo,← hcc];exact Jm oo cc ⟨HC,H10',H11,hA2,by omega⟩ rfl)
     ·subst hc1;obtain rfl : n' = 0 := by omega
      refine Q5 7 [6] (fun x => Qb wo x) mixed rfl ?_;intro vz hvz;have HC:=h5.trans hvz;replace H10:=H10.ext hvz;replace H11:=H11.ext hvz;refine Qr (g:=3) [0,1,2,3] HC ?_
      constructor
      refine ⟨fun u hu => ?_,?_⟩
      ·have a0':=((hE.trans hu).cell (p:=⟨b,off,none⟩) hb).trans a0;have a1':=((hE.trans hu).cell (p:=⟨b,off + 1,none⟩) hb).trans a1;have lb:=Nat.lt_of_lt_of_le hb (hE.trans hu).size;exact Qj
      refine Zp 4 5 ?_ ?_
      ·go_wp2;refine Qe HC ?_;refine Qk 5 ?_;have z0:=H10.frozen 0;have z1:=H10.frozen 1;obtain ⟨x0,x1⟩:=H10.c2;have lx:=H10.lt;go_wp2;have H10':=Qo H10 (.string (f' 0).g) (.int .i64 (f' 0).n);replace H11:=Qg (Qg H11 (Ne.symm ne) 0 (.string (f' 0).g)) (Ne.symm ne) 1 (.int .i64 (f' 0).n);replace HC:=(HC.setCell (p:=⟨p1,0,none⟩) gp1 (.string (f' 0).g)).setCell (p:=⟨p1,1,none⟩) gp1 (.int .i64 (f' 0).n);clear H10 z0 z1 x0 x1 lx;generalize World.setCell _ _ _ = wq at *;refine Qe HC ?_;refine Qn 6 ?_;go_wp2;refine Qm ?_;refine Qt ?_;exact Jm off 0 ⟨HC,H10',H11,Qs.nil,Nat.le_refl _⟩ rfl
      ·have z0:=H10.frozen 0;have z1:=H10.frozen 1;obtain ⟨x0,x1⟩:=H10.c2;have lx:=H10.lt;go_wp2;have H10':=Qo H10 (.string (f' 0).g) (.int .i64 (f' 0).n);replace H11:=Qg (Qg H11 (Ne.symm ne) 0 (.string (f' 0).g)) (Ne.symm ne) 1 (.int .i64 (f' 0).n);replace HC:=(HC.setCell (p:=⟨p1,0,none⟩) gp1 (.string (f' 0).g)).setCell (p:=⟨p1,1,none⟩) gp1 (.int .i64 (f' 0).n);clear H10 z0 z1 x0 x1 lx;generalize World.setCell _ _ _ = wq at *;refine Qe HC ?_;refine Qk 4 ?_;go_wp2;refine Qe HC ?_;refine Qn 6 ?_;go_wp2;refine Qm ?_;refine Qt ?_;exact Jm off 0 ⟨HC,H10',H11,Qs.nil,Nat.le_refl _⟩ rfl
    rintro o2 c2 w6 ⟨h6,H10,H11,hA3,hc3⟩;clear hA hA2 a0 a1;have NP:=Oz sg hsg (f' 0) ⟨⟨#[]⟩,0⟩ (hf.out 0 Qa) (Rv) (b9 + 1) bs bo F k cap xs w6 (HS.ext h6) (HO.ext h6) (Yo hO h6) Qa (by have:=h6.size;omega);obtain ⟨x0,x1⟩:=H10.c2;have lx:=H10.lt;obtain ⟨y0,y1⟩:=H11.c2;have ly:=H11.lt;have hkl:=Ol sg ((f' 0),⟨⟨#[]⟩,0⟩);cases hr : Xy sg (f' 0) ⟨⟨#[]⟩,0⟩
    ·rw [hr] at NP;have hno:=Ny hall.out hr;clear hall hout hr;go_wp2_with (first | (go_at_call 113;(with_reducible refine zc (NP) ?_);rintro e w9 ⟨rfl,HP,HQ⟩) | (go_at_fn 113;(with_reducible refine zc (NP) ?_);rintro e w9 ⟨rfl,HP,HQ⟩));go_ret;exact ⟨Yn hno.symm,HP.ext W0 (hE.trans h6) hbo Qa,fun h => by rw [hno] at h;cases h⟩
    ·rw [hr] at NP;have hyes:=Lib.hid (Nz hall.out hr);have hout2:=Lib.hid (Ow hout.out);clear hall hout hr;go_wp2_with (first | (go_at_call 113;(with_reducible refine zc (NP) ?_);rintro e w9 ⟨rfl,HP,HQ⟩) | (go_at_fn 113;(with_reducible refine zc (NP) ?_);rintro e w9 ⟨rfl,HP,HQ⟩));obtain ⟨F2,k2,cap2,HO2,hO2⟩:=HQ (by trivial);have hl2:=hO2.1;rw [List.length_append] at hl2;have hE9:=HP.ext W0 (hE.trans h6) hbo Qa;exact ⟨⟨n',0,q,(fun t => f' (t + 1)),g',some ⟨b,o2,none⟩,B',c2,cb',rfl,rfl,by omega,by omega,by omega,hA3,hB,Lib.hid (fun i hi => hf.out (i + 1) Qa),hg,hE9,HP.held _ _ _ (H9.ext h6) Qa Qa,HP.held _ _ _ (HS.ext h6) (Oi (HS.ext h6) (HO.ext h6) (by decide)) hbs9,(HP.held _ _ _ (H9.ext h6) Qa Qa).lt,hbs9,F2,k2,cap2,_,HO2,hO2,hO2.1,by omega,hout2,hyes⟩,by simp [lenOf] <;> omega⟩
   ·obtain ⟨m', rfl⟩ : ∃ j, m' = j + 1 := ⟨m' - 1, by omega⟩;have zb1 : (((m' : Int) + 1) == 0) = false := beq_eq_false_iff_ne.2 Qa;by_cases hn0 : n' = 0
    ·subst hn0;rw [Qc6 (.inl rfl), show Yt = ⟨⟨#[]⟩, 0⟩ from rfl] at hout hall;obtain ⟨d, doff, rfl, hd, hcd⟩ := hB Qa;have hB2 := Rb hB;have e0 : W0.cell? ⟨d, doff, none⟩ = some (.string (g' 0).g) := by simpa using hcd 0 0 _ Qa rfl
     have e1 : W0.cell? ⟨d,doff + 1,none⟩ = some (.int .i64 (g' 0).n):=by simpa using hcd 0 1 _ Qa rfl
     clear hcd;go_upto_region 3 with (fail)
     apply Kf (S:=fun w' p1 p2 => Qb wo w' ∧ wo.heap.size ≤ p1 ∧ wo.heap.size ≤ p2 ∧ p1 ≠ p2 ∧ Qc w' p1 85 #[.string ⟨#[]⟩,.int .i64 0] ∧ Qc w' p2 85 #[.string ⟨#[]⟩,.int .i64 0])
     ·refine Q5 6 [5] (fun x => Qb wo x) mixed rfl ?_;intro vz hvz;have HC:=hvz;refine Qr (g:=4) [0,1] HC ?_
      constructor
      refine ⟨fun u hu => ?_,?_⟩
      ·obtain ⟨q0,q1⟩:=(H9.ext hu).c2;have lq:=(H9.ext hu).lt;exact Qj
      refine Zp 2 3 ?_ ?_
      ·go_wp2;obtain ⟨p1, wb, hbq, hwb, H10, HC', hx, gp1⟩ := Qp HC 85 #[.string ⟨#[]⟩, .int .i64 0];rw [← hbq, ← hwb];try have ne : p2 < p1 := by have := H11.lt; omega
       replace HC:=HC';try replace H11:=H11.ext hx
       clear hbq hwb hx HC';refine Qe HC ?_;refine Qk 3 ?_;go_wp2;obtain ⟨p2,wb,hbq,hwb,H11,HC',hx,gp2⟩:=Qp HC 85 #[.string ⟨#[]⟩,.int .i64 0];rw [← hbq,← hwb];try have ne : p1 < p2:=by have:=H10.lt;omega
       replace HC:=HC';try replace H10:=H10.ext hx
       clear hbq hwb hx HC';refine Qe HC ?_;refine Qk 4 ?_;have z0:=H10.frozen 0;have z1:=H10.frozen 1;obtain ⟨x0,x1⟩:=H10.c2;have lx:=H10.lt;go_wp2;have H10':=Qo H10 (.string ⟨#[]⟩) (.int .i64 0);have H11':=Qg (Qg H11 (show p2 ≠ p1 by omega) 0 (.string ⟨#[]⟩)) (show p2 ≠ p1 by omega) 1 (.int .i64 0);replace HC:=(HC.setCell (p:=⟨p1,0,none⟩) gp1 (.string ⟨#[]⟩)).setCell (p:=⟨p1,1,none⟩) gp1 (.int .i64 0);clear H10 H11 z0 z1 x0 x1 lx;generalize World.setCell _ _ _ = wq at *;refine Qe HC ?_;refine Qn 5 ?_;have z0:=H11'.frozen 0;have z1:=H11'.frozen 1;obtain ⟨x0,x1⟩:=H11'.c2;have lx:=H11'.lt;go_wp2;have H11:=Qo H11' (.string ⟨#[]⟩) (.int .i64 0)
       have H10:=Qg (Qg H10' (show p1 ≠ p2 by omega) 0 (.string ⟨#[]⟩)) (show p1 ≠ p2 by omega) 1 (.int .i64 0);replace HC:=(HC.setCell (p:=⟨p2,0,none⟩) gp2 (.string ⟨#[]⟩)).setCell (p:=⟨p2,1,none⟩) gp2 (.int .i64 0);clear H10' H11' z0 z1 x0 x1 lx;generalize World.setCell _ _ _ = wq at *;refine Qm ?_;refine Qt ?_;exact Jm p1 p2 ⟨HC,gp1,gp2,by omega,H10,H11⟩ rfl
      ·go_wp2;obtain ⟨p2, wb, hbq, hwb, H11, HC', hx, gp2⟩ := Qp HC 85 #[.string ⟨#[]⟩, .int .i64 0];rw [← hbq, ← hwb];try have ne : p1 < p2 := by have := H10.lt; omega
       replace HC:=HC';try replace H10:=H10.ext hx
       clear hbq hwb hx HC';refine Qe HC ?_;refine Qk 2 ?_;go_wp2;obtain ⟨p1,wb,hbq,hwb,H10,HC',hx,gp1⟩:=Qp HC 85 #[.string ⟨#[]⟩,.int .i64 0];rw [← hbq,← hwb];try have ne : p2 < p1:=by have:=H11.lt;omega
       replace HC:=HC';try replace H11:=H11.ext hx
       clear hbq hwb hx HC';refine Qe HC ?_;refine Qk 4 ?_;have z0:=H10.frozen 0;have z1:=H10.frozen 1;obtain ⟨x0,x1⟩:=H10.c2;have lx:=H10.lt;go_wp2;have H10':=Qo H10 (.string ⟨#[]⟩) (.int .i64 0);have H11':=Qg (Qg H11 (show p2 ≠ p1 by omega) 0 (.string ⟨#[]⟩)) (show p2 ≠ p1 by omega) 1 (.int .i64 0);replace HC:=(HC.setCell (p:=⟨p1,0,none⟩) gp1 (.string ⟨#[]⟩)).setCell (p:=⟨p1,1,none⟩) gp1 (.int .i64 0);clear H10 H11 z0 z1 x0 x1 lx;generalize World.setCell _ _ _ = wq at *;refine Qe HC ?_;refine Qn 5 ?_;have z0:=H11'.frozen 0;have z1:=H11'.frozen 1;obtain ⟨x0,x1⟩:=H11'.c2;have lx:=H11'.lt;go_wp2;have H11:=Qo H11' (.string ⟨#[]⟩) (.int .i64 0)
       have H10:=Qg (Qg H10' (show p1 ≠ p2 by omega) 0 (.string ⟨#[]⟩)) (show p1 ≠ p2 by omega) 1 (.int .i64 0);replace HC:=(HC.setCell (p:=⟨p2,0,none⟩) gp2 (.string ⟨#[]⟩)).setCell (p:=⟨p2,1,none⟩) gp2 (.int .i64 0);clear H10' H11' z0 z1 x0 x1 lx;generalize World.setCell _ _ _ = wq at *;refine Qm ?_;refine Qt ?_;exact Jm p1 p2 ⟨HC,gp1,gp2,by omega,H10,H11⟩ rfl
     rintro p1 p2 w3 ⟨h3,gp1,gp2,ne,H10,H11⟩;go_upto_region 5 with (fail)
     refine Zo w3 ?_;intro w5 hh;obtain ⟨hcbw5,hfbw5,hzbw5,hzw5⟩:=Zn w3 hh;replace H10:=H10.ext hh;replace H11:=H11.ext hh;have h5:=h3.trans hh;go_upto_region 7 with (fail)
     refine Zo w5 ?_;intro w7 hk7;obtain ⟨hcbw7,hfbw7,hzbw7,hzw7⟩:=Zn w5 hk7;replace H10:=H10.ext hk7;replace H11:=H11.ext hk7;replace h5:=h5.trans hk7;go_upto_region 8 with (fail)
     apply Kf (S:=fun w' o2 c2 => Qb wo w' ∧ Qc w' p1 85 #[.string ⟨#[]⟩,.int .i64 0] ∧ Qc w' p2 85 #[.string (g' 0).g,.int .i64 (g' 0).n] ∧ Qs W0 (some ⟨d,o2,none⟩) m' 2 (Zw (fun t => g' (t + 1))) ∧ m' ≤ c2)
     ·by_cases hc1 : cb' = 1;rotate_left
      ·refine Q5 7 [6] (fun x => Qb wo x) mixed rfl ?_;intro vz hvz;have HC:=h5.trans hvz;replace H10:=H10.ext hvz;replace H11:=H11.ext hvz;refine Qr (g:=3) [0,1,2,3] HC ?_
       constructor
       refine ⟨fun u hu => ?_,?_⟩
       ·have e0':=((hE.trans hu).cell (p:=⟨d,doff,none⟩) hd).trans e0;have e1':=((hE.trans hu).cell (p:=⟨d,doff + 1,none⟩) hd).trans e1;have ld:=Nat.lt_of_lt_of_le hd (hE.trans hu).size;exact Qj
       refine Zp 4 5 ?_ ?_
       ·go_wp2;refine Qe HC ?_;refine Qk 5 ?_;have z0:=H11.frozen 0;have z1:=H11.frozen 1;obtain ⟨x0,x1⟩:=H11.c2;have lx:=H11.lt;go_wp2;have H11':=Qo H11 (.string (g' 0).g) (.int .i64 (g' 0).n);replace H10:=Qg (Qg H10 ne 0 (.string (g' 0).g)) ne 1 (.int .i64 (g' 0).n);replace HC:=(HC.setCell (p:=⟨p2,0,none⟩) gp2 (.string (g' 0).g)).setCell (p:=⟨p2,1,none⟩) gp2 (.int .i64 (g' 0).n);clear H11 z0 z1 x0 x1 lx;generalize World.setCell _ _ _ = wq at *;refine Qe HC ?_;refine Qn 6 ?_;go_wp2;refine Qm ?_;refine Qt ?_
        (obtain ⟨oo,hoo⟩ : ∃ x,x = doff + 2:=⟨_,rfl⟩;obtain ⟨cc,hcc⟩ : ∃ x,x = cb' - 1:=⟨_,rfl⟩;rw [← hoo] at hB2;rw [← hoo,← hcc];exact Jm oo cc ⟨HC,H10,H11',hB2,by omega⟩ rfl)
       ·have z0:=H11.frozen 0;have z1:=H11.frozen 1;obtain ⟨x0,x1⟩:=H11.c2;have lx:=H11.lt;go_wp2;have H11':=Qo H11 (.string (g' 0).g) (.int .i64 (g' 0).n);replace H10:=Qg (Qg H10 ne 0 (.string (g' 0).g)) ne 1 (.int .i64 (g' 0).n);replace HC:=(HC.setCell (p:=⟨p2,0,none⟩) gp2 (.string (g' 0).g)).setCell (p:=⟨p2,1,none⟩) gp2 (.int .i64 (g' 0).n);clear H11 z0 z1 x0 x1 lx;generalize World.setCell _ _ _ = wq at *;refine Qe HC ?_;refine Qk 4 ?_;go_wp2;refine Qe HC ?_;refine Qn 6 ?_;go_wp2;refine Qm ?_;refine Qt ?_
        (obtain ⟨oo,hoo⟩ : ∃ x,x = doff + 2:=⟨_,rfl⟩;obtain ⟨cc,hcc⟩ : ∃ x,x = cb' - 1:=⟨_,rfl⟩;rw [← hoo] at hB2;rw [← hoo,← hcc];exact Jm oo cc ⟨HC,H10,H11',hB2,by omega⟩ rfl)
      ·subst hc1;obtain rfl : m' = 0 := by omega
       refine Q5 7 [6] (fun x => Qb wo x) mixed rfl ?_;intro vz hvz;have HC:=h5.trans hvz;replace H10:=H10.ext hvz;replace H11:=H11.ext hvz;refine Qr (g:=3) [0,1,2,3] HC ?_
       constructor
       refine ⟨fun u hu => ?_,?_⟩
       ·have e0':=((hE.trans hu).cell (p:=⟨d,doff,none⟩) hd).trans e0;have e1':=((hE.trans hu).cell (p:=⟨d,doff + 1,none⟩) hd).trans e1;have ld:=Nat.lt_of_lt_of_le hd (hE.trans hu).size;exact Qj
       refine Zp 4 5 ?_ ?_
       ·go_wp2;refine Qe HC ?_;refine Qk 5 ?_;have z0:=H11.frozen 0;have z1:=H11.frozen 1;obtain ⟨x0,x1⟩:=H11.c2;have lx:=H11.lt;go_wp2;have H11':=Qo H11 (.string (g' 0).g) (.int .i64 (g' 0).n);replace H10:=Qg (Qg H10 ne 0 (.string (g' 0).g)) ne 1 (.int .i64 (g' 0).n);replace HC:=(HC.setCell (p:=⟨p2,0,none⟩) gp2 (.string (g' 0).g)).setCell (p:=⟨p2,1,none⟩) gp2 (.int .i64 (g' 0).n);clear H11 z0 z1 x0 x1 lx;generalize World.setCell _ _ _ = wq at *;refine Qe HC ?_;refine Qn 6 ?_;go_wp2;refine Qm ?_;refine Qt ?_;exact Jm doff 0 ⟨HC,H10,H11',Qs.nil,Nat.le_refl _⟩ rfl
       ·have z0:=H11.frozen 0;have z1:=H11.frozen 1;obtain ⟨x0,x1⟩:=H11.c2;have lx:=H11.lt;go_wp2;have H11':=Qo H11 (.string (g' 0).g) (.int .i64 (g' 0).n);replace H10:=Qg (Qg H10 ne 0 (.string (g' 0).g)) ne 1 (.int .i64 (g' 0).n);replace HC:=(HC.setCell (p:=⟨p2,0,none⟩) gp2 (.string (g' 0).g)).setCell (p:=⟨p2,1,none⟩) gp2 (.int .i64 (g' 0).n);clear H11 z0 z1 x0 x1 lx;generalize World.setCell _ _ _ = wq at *;refine Qe HC ?_;refine Qk 4 ?_;go_wp2;refine Qe HC ?_;refine Qn 6 ?_;go_wp2;refine Qm ?_;refine Qt ?_;exact Jm doff 0 ⟨HC,H10,H11',Qs.nil,Nat.le_refl _⟩ rfl
     rintro o2 c2 w6 ⟨h6,H10,H11,hB3,hc3⟩;have NP:=Oz sg hsg ⟨⟨#[]⟩,0⟩ (g' 0) (Rv) (hg.out 0 Qa) (b9 + 1) bs bo F k cap xs w6 (HS.ext h6) (HO.ext h6) (Yo hO h6) Qa (by have:=h6.size;omega);obtain ⟨x0,x1⟩:=H10.c2;have lx:=H10.lt;obtain ⟨y0,y1⟩:=H11.c2;have ly:=H11.lt;have hkl:=Ol sg (⟨⟨#[]⟩,0⟩,(g' 0));cases hr : Xy sg ⟨⟨#[]⟩,0⟩ (g' 0)
     ·rw [hr] at NP;have hno:=Ny hall.out hr;clear hall hout hr;go_wp2_with (first | (go_at_call 113;(with_reducible refine zc (NP) ?_);rintro e w9 ⟨rfl,HP,HQ⟩) | (go_at_fn 113;(with_reducible refine zc (NP) ?_);rintro e w9 ⟨rfl,HP,HQ⟩));go_ret;exact ⟨Yn hno.symm,HP.ext W0 (hE.trans h6) hbo Qa,fun h => by rw [hno] at h;cases h⟩
     ·rw [hr] at NP;have hyes:=Lib.hid (Nz hall.out hr);have hout2:=Lib.hid (Ow hout.out);clear hall hout hr;go_wp2_with (first | (go_at_call 113;(with_reducible refine zc (NP) ?_);rintro e w9 ⟨rfl,HP,HQ⟩) | (go_at_fn 113;(with_reducible refine zc (NP) ?_);rintro e w9 ⟨rfl,HP,HQ⟩));obtain ⟨F2,k2,cap2,HO2,hO2⟩:=HQ (by trivial);have hl2:=hO2.1;rw [List.length_append] at hl2;have hE9:=HP.ext W0 (hE.trans h6) hbo Qa;exact ⟨⟨0,m',q,f',(fun t => g' (t + 1)),A',some ⟨d,o2,none⟩,ca',c2,rfl,rfl,by omega,by omega,by omega,hA,hB3,hf,Lib.hid (fun i hi => hg.out (i + 1) Qa),hE9,HP.held _ _ _ (H9.ext h6) Qa Qa,HP.held _ _ _ (HS.ext h6) (Oi (HS.ext h6) (HO.ext h6) (by decide)) hbs9,(HP.held _ _ _ (H9.ext h6) Qa Qa).lt,hbs9,F2,k2,cap2,_,HO2,hO2,hO2.1,by omega,hout2,hyes⟩,by simp [lenOf] <;> omega⟩
    ·obtain ⟨n', rfl⟩ : ∃ j, n' = j + 1 := ⟨n' - 1, by omega⟩;have za1 : (((n' : Int) + 1) == 0) = false := beq_eq_false_iff_ne.2 Qa;obtain ⟨b, off, rfl, hb, hc⟩ := hA Qa;have hA2 := Rb hA;have a0 : W0.cell? ⟨b, off, none⟩ = some (.string (f' 0).g) := by simpa using hc 0 0 _ Qa rfl
     have a1 : W0.cell? ⟨b,off + 1,none⟩ = some (.int .i64 (f' 0).n):=by simpa using hc 0 1 _ Qa rfl
     clear hc;obtain ⟨d,doff,rfl,hd,hcd⟩:=hB Qa;have hB2:=Rb hB;have e0 : W0.cell? ⟨d,doff,none⟩ = some (.string (g' 0).g):=by simpa using hcd 0 0 _ Qa rfl
     have e1 : W0.cell? ⟨d,doff + 1,none⟩ = some (.int .i64 (g' 0).n):=by simpa using hcd 0 1 _ Qa rfl
     clear hcd;go_upto_region 3 with (fail)
     apply Kf (S:=fun w' p1 p2 => Qb wo w' ∧ wo.heap.size ≤ p1 ∧ wo.heap.size ≤ p2 ∧ p1 ≠ p2 ∧ Qc w' p1 85 #[.string ⟨#[]⟩,.int .i64 0] ∧ Qc w' p2 85 #[.string ⟨#[]⟩,.int .i64 0])
     ·refine Q5 6 [5] (fun x => Qb wo x) mixed rfl ?_;intro vz hvz;have HC:=hvz;refine Qr (g:=4) [0,1] HC ?_
      constructor
      refine ⟨fun u hu => ?_,?_⟩
      ·obtain ⟨q0,q1⟩:=(H9.ext hu).c2;have lq:=(H9.ext hu).lt;exact Qj
      refine Zp 2 3 ?_ ?_
      ·go_wp2;obtain ⟨p1, wb, hbq, hwb, H10, HC', hx, gp1⟩ := Qp HC 85 #[.string ⟨#[]⟩, .int .i64 0];rw [← hbq, ← hwb];try have ne : p2 < p1 := by have := H11.lt; omega
       replace HC:=HC';try replace H11:=H11.ext hx
       clear hbq hwb hx HC';refine Qe HC ?_;refine Qk 3 ?_;go_wp2;obtain ⟨p2,wb,hbq,hwb,H11,HC',hx,gp2⟩:=Qp HC 85 #[.string ⟨#[]⟩,.int .i64 0];rw [← hbq,← hwb];try have ne : p1 < p2:=by have:=H10.lt;omega
       replace HC:=HC';try replace H10:=H10.ext hx
       clear hbq hwb hx HC';refine Qe HC ?_;refine Qk 4 ?_;have z0:=H10.frozen 0;have z1:=H10.frozen 1;obtain ⟨x0,x1⟩:=H10.c2;have lx:=H10.lt;go_wp2;have H10':=Qo H10 (.string ⟨#[]⟩) (.int .i64 0);have H11':=Qg (Qg H11 (show p2 ≠ p1 by omega) 0 (.string ⟨#[]⟩)) (show p2 ≠ p1 by omega) 1 (.int .i64 0);replace HC:=(HC.setCell (p:=⟨p1,0,none⟩) gp1 (.string ⟨#[]⟩)).setCell (p:=⟨p1,1,none⟩) gp1 (.int .i64 0);clear H10 H11 z0 z1 x0 x1 lx;generalize World.setCell _ _ _ = wq at *;refine Qe HC ?_;refine Qn 5 ?_;have z0:=H11'.frozen 0;have z1:=H11'.frozen 1;obtain ⟨x0,x1⟩:=H11'.c2;have lx:=H11'.lt;go_wp2;have H11:=Qo H11' (.string ⟨#[]⟩) (.int .i64 0)
       have H10:=Qg (Qg H10' (show p1 ≠ p2 by omega) 0 (.string ⟨#[]⟩)) (show p1 ≠ p2 by omega) 1 (.int .i64 0);replace HC:=(HC.setCell (p:=⟨p2,0,none⟩) gp2 (.string ⟨#[]⟩)).setCell (p:=⟨p2,1,none⟩) gp2 (.int .i64 0);clear H10' H11' z0 z1 x0 x1 lx;generalize World.setCell _ _ _ = wq at *;refine Qm ?_;refine Qt ?_;exact Jm p1 p2 ⟨HC,gp1,gp2,by omega,H10,H11⟩ rfl
      ·go_wp2;obtain ⟨p2, wb, hbq, hwb, H11, HC', hx, gp2⟩ := Qp HC 85 #[.string ⟨#[]⟩, .int .i64 0];rw [← hbq, ← hwb];try have ne : p1 < p2 := by have := H10.lt; omega
       replace HC:=HC';try replace H10:=H10.ext hx
       clear hbq hwb hx HC';refine Qe HC ?_;refine Qk 2 ?_;go_wp2;obtain ⟨p1,wb,hbq,hwb,H10,HC',hx,gp1⟩:=Qp HC 85 #[.string ⟨#[]⟩,.int .i64 0];rw [← hbq,← hwb];try have ne : p2 < p1:=by have:=H11.lt;omega
       replace HC:=HC';try replace H11:=H11.ext hx
       clear hbq hwb hx HC';refine Qe HC ?_;refine Qk 4 ?_;have z0:=H10.frozen 0;have z1:=H10.frozen 1;obtain ⟨x0,x1⟩:=H10.c2;have lx:=H10.lt;go_wp2;have H10':=Qo H10 (.string ⟨#[]⟩) (.int .i64 0);have H11':=Qg (Qg H11 (show p2 ≠ p1 by omega) 0 (.string ⟨#[]⟩)) (show p2 ≠ p1 by omega) 1 (.int .i64 0);replace HC:=(HC.setCell (p:=⟨p1,0,none⟩) gp1 (.string ⟨#[]⟩)).setCell (p:=⟨p1,1,none⟩) gp1 (.int .i64 0);clear H10 H11 z0 z1 x0 x1 lx;generalize World.setCell _ _ _ = wq at *;refine Qe HC ?_;refine Qn 5 ?_;have z0:=H11'.frozen 0;have z1:=H11'.frozen 1;obtain ⟨x0,x1⟩:=H11'.c2;have lx:=H11'.lt;go_wp2;have H11:=Qo H11' (.string ⟨#[]⟩) (.int .i64 0)
       have H10:=Qg (Qg H10' (show p1 ≠ p2 by omega) 0 (.string ⟨#[]⟩)) (show p1 ≠ p2 by omega) 1 (.int .i64 0);replace HC:=(HC.setCell (p:=⟨p2,0,none⟩) gp2 (.string ⟨#[]⟩)).setCell (p:=⟨p2,1,none⟩) gp2 (.int .i64 0);clear H10' H11' z0 z1 x0 x1 lx;generalize World.setCell _ _ _ = wq at *;refine Qm ?_;refine Qt ?_;exact Jm p1 p2 ⟨HC,gp1,gp2,by omega,H10,H11⟩ rfl
     rintro p1 p2 w3 ⟨h3,gp1,gp2,ne,H10,H11⟩;have a0w:=((hE.trans h3).cell (p:=⟨b,off,none⟩) hb).trans a0;have a1w:=((hE.trans h3).cell (p:=⟨b,off + 1,none⟩) hb).trans a1;have e0w:=((hE.trans h3).cell (p:=⟨d,doff,none⟩) hd).trans e0;have e1w:=((hE.trans h3).cell (p:=⟨d,doff + 1,none⟩) hd).trans e1;have lbw:=Nat.lt_of_lt_of_le hb (hE.trans h3).size;have ldw:=Nat.lt_of_lt_of_le hd (hE.trans h3).size;go_upto_region 5 with (fail)
     have m1:=fun x : World => Ct (f' 0) (g' 0) x
     refine Zo w3 ?_;intro w5 hh;clear m1;obtain ⟨hcbw5,hfbw5,hzbw5,hzw5⟩:=Zn w3 hh;replace H10:=H10.ext hh;replace H11:=H11.ext hh;clear a0w a1w e0w e1w lbw ldw;have h5:=h3.trans hh;cases hs1 : Jf (f' 0).g (g' 0).g
     ·have a0w:=((hE.trans h5).cell (p:=⟨b,off,none⟩) hb).trans a0;have a1w:=((hE.trans h5).cell (p:=⟨b,off + 1,none⟩) hb).trans a1;have e0w:=((hE.trans h5).cell (p:=⟨d,doff,none⟩) hd).trans e0;have e1w:=((hE.trans h5).cell (p:=⟨d,doff + 1,none⟩) hd).trans e1;have lbw:=Nat.lt_of_lt_of_le hb (hE.trans h5).size;have ldw:=Nat.lt_of_lt_of_le hd (hE.trans h5).size;go_upto_region 7 with (fail)
      have m1:=fun x : World => Ct (g' 0) (f' 0) x
      refine Zo w5 ?_;intro w7 hk7;clear m1;obtain ⟨hcbw7,hfbw7,hzbw7,hzw7⟩:=Zn w5 hk7;replace H10:=H10.ext hk7;replace H11:=H11.ext hk7;clear a0w a1w e0w e1w lbw ldw;replace h5:=h5.trans hk7;cases hs2 : Jf (g' 0).g (f' 0).g
      ·rw [step_b hs1 hs2] at hout hall;go_upto_region 4 with (fail)
       apply Qn4 (S:=fun w' o2 c2 o3 c3 => Qb wo w' ∧ Qc w' p1 85 #[.string (f' 0).g,.int .i64 (f' 0).n] ∧ Qc w' p2 85 #[.string (g' 0).g,.int .i64 (g' 0).n] ∧ Qs W0 (some ⟨b,o2,none⟩) n' 2 (Zw (fun t => f' (t + 1))) ∧ n' ≤ c2 ∧ Qs W0 (some ⟨d,o3,none⟩) m' 2 (Zw (fun t => g' (t + 1))) ∧ m' ≤ c3)
       ·by_cases hc1 : ca' = 1;rotate_left
        ·by_cases hc2 : cb' = 1;rotate_left
         ·refine Q5 14 [13] (fun x => Qb wo x) mixed rfl ?_;intro vz hvz;have HC:=h5.trans hvz;replace H10:=H10.ext hvz;replace H11:=H11.ext hvz;refine Qr (g:=4) [0,1,2,3,4,5,6,7,8,9] HC ?_
          constructor
          refine ⟨fun u hu => ?_,?_⟩
          ·have a0':=((hE.trans hu).cell (p:=⟨b,off,none⟩) hb).trans a0;have a1':=((hE.trans hu).cell (p:=⟨b,off + 1,none⟩) hb).trans a1;have lb:=Nat.lt_of_lt_of_le hb (hE.trans hu).size;have e0':=((hE.trans hu).cell (p:=⟨d,doff,none⟩) hd).trans e0;have e1':=((hE.trans hu).cell (p:=⟨d,doff + 1,none⟩) hd).trans e1;have ld:=Nat.lt_of_lt_of_le hd (hE.trans hu).size;exact Qj
          refine Qk 10 ?_;have z0:=H10.frozen 0;have z1:=H10.frozen 1;obtain ⟨x0,x1⟩:=H10.c2;have lx:=H10.lt;go_wp2;have NH10:=Qo H10 (.string (f' 0).g) (.int .i64 (f' 0).n);replace H11:=Qg (Qg H11 (Ne.symm ne) 0 (.string (f' 0).g)) (Ne.symm ne) 1 (.int .i64 (f' 0).n);replace HC:=(HC.setCell (p:=⟨p1,0,none⟩) gp1 (.string (f' 0).g)).setCell (p:=⟨p1,1,none⟩) gp1 (.int .i64 (f' 0).n);clear z0 z1 x0 x1 lx H10;have H10:=NH10;clear NH10;generalize World.setCell _ _ _ = wq at *;refine Qe HC ?_;refine Qk 11 ?_;have z0:=H11.frozen 0;have z1:=H11.frozen 1;obtain ⟨x0,x1⟩:=H11.c2;have lx:=H11.lt;go_wp2;have NH11:=Qo H11 (.string (g' 0).g) (.int .i64 (g' 0).n)
          replace H10:=Qg (Qg H10 ne 0 (.string (g' 0).g)) ne 1 (.int .i64 (g' 0).n);replace HC:=(HC.setCell (p:=⟨p2,0,none⟩) gp2 (.string (g' 0).g)).setCell (p:=⟨p2,1,none⟩) gp2 (.int .i64 (g' 0).n);clear z0 z1 x0 x1 lx H11;have H11:=NH11;clear NH11;generalize World.setCell _ _ _ = wq at *;refine Qe HC ?_;refine Qr (g:=1) [12] HC ?_
          constructor
          refine ⟨fun u hu => ?_,?_⟩
          ·have a0':=((hE.trans hu).cell (p:=⟨b,off,none⟩) hb).trans a0;have a1':=((hE.trans hu).cell (p:=⟨b,off + 1,none⟩) hb).trans a1;have lb:=Nat.lt_of_lt_of_le hb (hE.trans hu).size;have e0':=((hE.trans hu).cell (p:=⟨d,doff,none⟩) hd).trans e0;have e1':=((hE.trans hu).cell (p:=⟨d,doff + 1,none⟩) hd).trans e1;have ld:=Nat.lt_of_lt_of_le hd (hE.trans hu).size;exact Qj
          refine Qn 13 ?_;go_wp2;refine Qm ?_;refine Qt ?_
          (obtain ⟨oo,hoo⟩ : ∃ x,x = off + 2:=⟨_,rfl⟩;obtain ⟨cc,hcc⟩ : ∃ x,x = ca' - 1:=⟨_,rfl⟩;rw [← hoo] at hA2;rw [← hoo,← hcc];obtain ⟨po,hpo⟩ : ∃ x,x = doff + 2:=⟨_,rfl⟩;obtain ⟨pc,hpc⟩ : ∃ x,x = cb' - 1:=⟨_,rfl⟩;rw [← hpo] at hB2;rw [← hpo,← hpc];exact Gu oo cc po pc ⟨HC,H10,H11,hA2,by omega,hB2,by omega⟩ rfl)
         ·subst hc2;obtain rfl : m' = 0 := by omega
          refine Q5 14 [13] (fun x => Qb wo x) mixed rfl ?_;intro vz hvz;have HC:=h5.trans hvz;replace H10:=H10.ext hvz;replace H11:=H11.ext hvz;refine Qr (g:=4) [0,1,2,3,4,5,6,7,8,9] HC ?_
          constructor
          refine ⟨fun u hu => ?_,?_⟩
          ·have a0':=((hE.trans hu).cell (p:=⟨b,off,none⟩) hb).trans a0;have a1':=((hE.trans hu).cell (p:=⟨b,off + 1,none⟩) hb).trans a1;have lb:=Nat.lt_of_lt_of_le hb (hE.trans hu).size;have e0':=((hE.trans hu).cell (p:=⟨d,doff,none⟩) hd).trans e0;have e1':=((hE.trans hu).cell (p:=⟨d,doff + 1,none⟩) hd).trans e1;have ld:=Nat.lt_of_lt_of_le hd (hE.trans hu).size;exact Qj
          refine Qk 10 ?_;have z0:=H10.frozen 0;have z1:=H10.frozen 1;obtain ⟨x0,x1⟩:=H10.c2;have lx:=H10.lt;go_wp2;have NH10:=Qo H10 (.string (f' 0).g) (.int .i64 (f' 0).n);replace H11:=Qg (Qg H11 (Ne.symm ne) 0 (.string (f' 0).g)) (Ne.symm ne) 1 (.int .i64 (f' 0).n);replace HC:=(HC.setCell (p:=⟨p1,0,none⟩) gp1 (.string (f' 0).g)).setCell (p:=⟨p1,1,none⟩) gp1 (.int .i64 (f' 0).n);clear z0 z1 x0 x1 lx H10;have H10:=NH10;clear NH10;generalize World.setCell _ _ _ = wq at *;refine Qe HC ?_;refine Qk 11 ?_;have z0:=H11.frozen 0;have z1:=H11.frozen 1;obtain ⟨x0,x1⟩:=H11.c2;have lx:=H11.lt;go_wp2;have NH11:=Qo H11 (.string (g' 0).g) (.int .i64 (g' 0).n)
          replace H10:=Qg (Qg H10 ne 0 (.string (g' 0).g)) ne 1 (.int .i64 (g' 0).n);replace HC:=(HC.setCell (p:=⟨p2,0,none⟩) gp2 (.string (g' 0).g)).setCell (p:=⟨p2,1,none⟩) gp2 (.int .i64 (g' 0).n);clear z0 z1 x0 x1 lx H11;have H11:=NH11;clear NH11;generalize World.setCell _ _ _ = wq at *;refine Qe HC ?_;refine Qr (g:=1) [12] HC ?_
          constructor
          refine ⟨fun u hu => ?_,?_⟩
          ·have a0':=((hE.trans hu).cell (p:=⟨b,off,none⟩) hb).trans a0;have a1':=((hE.trans hu).cell (p:=⟨b,off + 1,none⟩) hb).trans a1;have lb:=Nat.lt_of_lt_of_le hb (hE.trans hu).size;have e0':=((hE.trans hu).cell (p:=⟨d,doff,none⟩) hd).trans e0;have e1':=((hE.trans hu).cell (p:=⟨d,doff + 1,none⟩) hd).trans e1;have ld:=Nat.lt_of_lt_of_le hd (hE.trans hu).size;exact Qj
          refine Qn 13 ?_;go_wp2;refine Qm ?_;refine Qt ?_
          (obtain ⟨oo,hoo⟩ : ∃ x,x = off + 2:=⟨_,rfl⟩;obtain ⟨cc,hcc⟩ : ∃ x,x = ca' - 1:=⟨_,rfl⟩;rw [← hoo] at hA2;rw [← hoo,← hcc];exact Gu oo cc doff 0 ⟨HC,H10,H11,hA2,by omega,Qs.nil,Nat.le_refl _⟩ rfl)
        ·subst hc1;obtain rfl : n' = 0 := by omega
         by_cases hc2 : cb' = 1;rotate_left
         ·refine Q5 14 [13] (fun x => Qb wo x) mixed rfl ?_;intro vz hvz;have HC:=h5.trans hvz;replace H10:=H10.ext hvz;replace H11:=H11.ext hvz;refine Qr (g:=4) [0,1,2,3,4,5,6,7,8,9] HC ?_
          constructor
          refine ⟨fun u hu => ?_,?_⟩
          ·have a0':=((hE.trans hu).cell (p:=⟨b,off,none⟩) hb).trans a0;have a1':=((hE.trans hu).cell (p:=⟨b,off + 1,none⟩) hb).trans a1;have lb:=Nat.lt_of_lt_of_le hb (hE.trans hu).size;have e0':=((hE.trans hu).cell (p:=⟨d,doff,none⟩) hd).trans e0;have e1':=((hE.trans hu).cell (p:=⟨d,doff + 1,none⟩) hd).trans e1;have ld:=Nat.lt_of_lt_of_le hd (hE.trans hu).size;exact Qj
          refine Qk 10 ?_;have z0:=H10.frozen 0;have z1:=H10.frozen 1;obtain ⟨x0,x1⟩:=H10.c2;have lx:=H10.lt;go_wp2;have NH10:=Qo H10 (.string (f' 0).g) (.int .i64 (f' 0).n);replace H11:=Qg (Qg H11 (Ne.symm ne) 0 (.string (f' 0).g)) (Ne.symm ne) 1 (.int .i64 (f' 0).n);replace HC:=(HC.setCell (p:=⟨p1,0,none⟩) gp1 (.string (f' 0).g)).setCell (p:=⟨p1,1,none⟩) gp1 (.int .i64 (f' 0).n);clear z0 z1 x0 x1 lx H10;have H10:=NH10;clear NH10;generalize World.setCell _ _ _ = wq at *;refine Qe HC ?_;refine Qk 11 ?_;have z0:=H11.frozen 0;have z1:=H11.frozen 1;obtain ⟨x0,x1⟩:=H11.c2;have lx:=H11.lt;go_wp2;have NH11:=Qo H11 (.string (g' 0).g) (.int .i64 (g' 0).n)
          replace H10:=Qg (Qg H10 ne 0 (.string (g' 0).g)) ne 1 (.int .i64 (g' 0).n);replace HC:=(HC.setCell (p:=⟨p2,0,none⟩) gp2 (.string (g' 0).g)).setCell (p:=⟨p2,1,none⟩) gp2 (.int .i64 (g' 0).n);clear z0 z1 x0 x1 lx H11;have H11:=NH11;clear NH11;generalize World.setCell _ _ _ = wq at *;refine Qe HC ?_;refine Qr (g:=1) [12] HC ?_
          constructor
          refine ⟨fun u hu => ?_,?_⟩
          ·have a0':=((hE.trans hu).cell (p:=⟨b,off,none⟩) hb).trans a0;have a1':=((hE.trans hu).cell (p:=⟨b,off + 1,none⟩) hb).trans a1;have lb:=Nat.lt_of_lt_of_le hb (hE.trans hu).size;have e0':=((hE.trans hu).cell (p:=⟨d,doff,none⟩) hd).trans e0;have e1':=((hE.trans hu).cell (p:=⟨d,doff + 1,none⟩) hd).trans e1;have ld:=Nat.lt_of_lt_of_le hd (hE.trans hu).size;exact Qj
          refine Qn 13 ?_;go_wp2;refine Qm ?_;refine Qt ?_
          (obtain ⟨po,hpo⟩ : ∃ x,x = doff + 2:=⟨_,rfl⟩;obtain ⟨pc,hpc⟩ : ∃ x,x = cb' - 1:=⟨_,rfl⟩;rw [← hpo] at hB2;rw [← hpo,← hpc];exact Gu off 0 po pc ⟨HC,H10,H11,Qs.nil,Nat.le_refl _,hB2,by omega⟩ rfl)
         ·subst hc2;obtain rfl : m' = 0 := by omega
          refine Q5 14 [13] (fun x => Qb wo x) mixed rfl ?_;intro vz hvz;have HC:=h5.trans hvz;replace H10:=H10.ext hvz;replace H11:=H11.ext hvz;refine Qr (g:=4) [0,1,2,3,4,5,6,7,8,9] HC ?_
          constructor
          refine ⟨fun u hu => ?_,?_⟩
          ·have a0':=((hE.trans hu).cell (p:=⟨b,off,none⟩) hb).trans a0;have a1':=((hE.trans hu).cell (p:=⟨b,off + 1,none⟩) hb).trans a1;have lb:=Nat.lt_of_lt_of_le hb (hE.trans hu).size;have e0':=((hE.trans hu).cell (p:=⟨d,doff,none⟩) hd).trans e0;have e1':=((hE.trans hu).cell (p:=⟨d,doff + 1,none⟩) hd).trans e1;have ld:=Nat.lt_of_lt_of_le hd (hE.trans hu).size;exact Qj
          refine Qk 10 ?_;have z0:=H10.frozen 0;have z1:=H10.frozen 1;obtain ⟨x0,x1⟩:=H10.c2;have lx:=H10.lt;go_wp2;have NH10:=Qo H10 (.string (f' 0).g) (.int .i64 (f' 0).n);replace H11:=Qg (Qg H11 (Ne.symm ne) 0 (.string (f' 0).g)) (Ne.symm ne) 1 (.int .i64 (f' 0).n);replace HC:=(HC.setCell (p:=⟨p1,0,none⟩) gp1 (.string (f' 0).g)).setCell (p:=⟨p1,1,none⟩) gp1 (.int .i64 (f' 0).n);clear z0 z1 x0 x1 lx H10;have H10:=NH10;clear NH10;generalize World.setCell _ _ _ = wq at *;refine Qe HC ?_;refine Qk 11 ?_;have z0:=H11.frozen 0;have z1:=H11.frozen 1;obtain ⟨x0,x1⟩:=H11.c2;have lx:=H11.lt;go_wp2;have NH11:=Qo H11 (.string (g' 0).g) (.int .i64 (g' 0).n)
          replace H10:=Qg (Qg H10 ne 0 (.string (g' 0).g)) ne 1 (.int .i64 (g' 0).n);replace HC:=(HC.setCell (p:=⟨p2,0,none⟩) gp2 (.string (g' 0).g)).setCell (p:=⟨p2,1,none⟩) gp2 (.int .i64 (g' 0).n);clear z0 z1 x0 x1 lx H11;have H11:=NH11;clear NH11;generalize World.setCell _ _ _ = wq at *;refine Qe HC ?_;refine Qr (g:=1) [12] HC ?_
          constructor
          refine ⟨fun u hu => ?_,?_⟩
          ·have a0':=((hE.trans hu).cell (p:=⟨b,off,none⟩) hb).trans a0;have a1':=((hE.trans hu).cell (p:=⟨b,off + 1,none⟩) hb).trans a1;have lb:=Nat.lt_of_lt_of_le hb (hE.trans hu).size;have e0':=((hE.trans hu).cell (p:=⟨d,doff,none⟩) hd).trans e0;have e1':=((hE.trans hu).cell (p:=⟨d,doff + 1,none⟩) hd).trans e1;have ld:=Nat.lt_of_lt_of_le hd (hE.trans hu).size;exact Qj
          refine Qn 13 ?_;go_wp2;refine Qm ?_;refine Qt ?_
          (exact Gu off 0 doff 0 ⟨HC,H10,H11,Qs.nil,Nat.le_refl _,Qs.nil,Nat.le_refl _⟩ rfl)
       rintro o2 c2 o3 c3 w6 ⟨h6,H10,H11,hA3,hc3,hB3,hc4⟩;have NP:=Oz sg hsg (f' 0) (g' 0) (hf.out 0 Qa) (hg.out 0 Qa) (b9 + 1) bs bo F k cap xs w6 (HS.ext h6) (HO.ext h6) (Yo hO h6) Qa (by have:=h6.size;omega);obtain ⟨x0,x1⟩:=H10.c2;have lx:=H10.lt;obtain ⟨y0,y1⟩:=H11.c2;have ly:=H11.lt;have hkl:=Ol sg ((f' 0),(g' 0));cases hr : Xy sg (f' 0) (g' 0)
       ·rw [hr] at NP;have hno:=Ny hall.out hr;clear hall hout hr;go_wp2_with (first | (go_at_call 113;(with_reducible refine zc (NP) ?_);rintro e w9 ⟨rfl,HP,HQ⟩) | (go_at_fn 113;(with_reducible refine zc (NP) ?_);rintro e w9 ⟨rfl,HP,HQ⟩));go_ret;exact ⟨Yn hno.symm,HP.ext W0 (hE.trans h6) hbo Qa,fun h => by rw [hno] at h;cases h⟩
       ·rw [hr] at NP;have hyes:=Lib.hid (Nz hall.out hr);have hout2:=Lib.hid (Ow hout.out);clear hall hout hr;go_wp2_with (first | (go_at_call 113;(with_reducible refine zc (NP) ?_);rintro e w9 ⟨rfl,HP,HQ⟩) | (go_at_fn 113;(with_reducible refine zc (NP) ?_);rintro e w9 ⟨rfl,HP,HQ⟩));obtain ⟨F2,k2,cap2,HO2,hO2⟩:=HQ (by trivial);have hl2:=hO2.1;rw [List.length_append] at hl2;have hE9:=HP.ext W0 (hE.trans h6) hbo Qa;exact ⟨⟨n',m',q,(fun t => f' (t + 1)),(fun t => g' (t + 1)),some ⟨b,o2,none⟩,some ⟨d,o3,none⟩,c2,c3,rfl,rfl,by omega,by omega,by omega,hA3,hB3,Lib.hid (fun i hi => hf.out (i + 1) Qa),Lib.hid (fun i hi => hg.out (i + 1) Qa),hE9,HP.held _ _ _ (H9.ext h6) Qa Qa,HP.held _ _ _ (HS.ext h6) (Oi (HS.ext h6) (HO.ext h6) (by decide)) hbs9,(HP.held _ _ _ (H9.ext h6) Qa Qa).lt,hbs9,F2,k2,cap2,_,HO2,hO2,hO2.1,by omega,hout2,hyes⟩,by simp [lenOf] <;> omega⟩
      ·rw [Qc6 (.inr ⟨hs1,hs2⟩),show Yt = ⟨⟨#[]⟩,0⟩ from rfl] at hout hall;go_upto_region 8 with (fail)
       apply Kf (S:=fun w' o2 c2 => Qb wo w' ∧ Qc w' p1 85 #[.string ⟨#[]⟩,.int .i64 0] ∧ Qc w' p2 85 #[.string (g' 0).g,.int .i64 (g' 0).n] ∧ Qs W0 (some ⟨d,o2,none⟩) m' 2 (Zw (fun t => g' (t + 1))) ∧ m' ≤ c2)
       ·by_cases hc1 : cb' = 1;rotate_left
        ·refine Q5 7 [6] (fun x => Qb wo x) mixed rfl ?_;intro vz hvz;have HC:=h5.trans hvz;replace H10:=H10.ext hvz;replace H11:=H11.ext hvz;refine Qr (g:=3) [0,1,2,3] HC ?_
         constructor
         refine ⟨fun u hu => ?_,?_⟩
         ·have e0':=((hE.trans hu).cell (p:=⟨d,doff,none⟩) hd).trans e0;have e1':=((hE.trans hu).cell (p:=⟨d,doff + 1,none⟩) hd).trans e1;have ld:=Nat.lt_of_lt_of_le hd (hE.trans hu).size;exact Qj
         refine Zp 4 5 ?_ ?_
         ·go_wp2;refine Qe HC ?_;refine Qk 5 ?_;have z0:=H11.frozen 0;have z1:=H11.frozen 1;obtain ⟨x0,x1⟩:=H11.c2;have lx:=H11.lt;go_wp2;have H11':=Qo H11 (.string (g' 0).g) (.int .i64 (g' 0).n);replace H10:=Qg (Qg H10 ne 0 (.string (g' 0).g)) ne 1 (.int .i64 (g' 0).n);replace HC:=(HC.setCell (p:=⟨p2,0,none⟩) gp2 (.string (g' 0).g)).setCell (p:=⟨p2,1,none⟩) gp2 (.int .i64 (g' 0).n);clear H11 z0 z1 x0 x1 lx;generalize World.setCell _ _ _ = wq at *;refine Qe HC ?_;refine Qn 6 ?_;go_wp2;refine Qm ?_;refine Qt ?_
          (obtain ⟨oo,hoo⟩ : ∃ x,x = doff + 2:=⟨_,rfl⟩;obtain ⟨cc,hcc⟩ : ∃ x,x = cb' - 1:=⟨_,rfl⟩;rw [← hoo] at hB2;rw [← hoo,← hcc];exact Jm oo cc ⟨HC,H10,H11',hB2,by omega⟩ rfl)
         ·have z0:=H11.frozen 0;have z1:=H11.frozen 1;obtain ⟨x0,x1⟩:=H11.c2;have lx:=H11.lt;go_wp2;have H11':=Qo H11 (.string (g' 0).g) (.int .i64 (g' 0).n);replace H10:=Qg (Qg H10 ne 0 (.string (g' 0).g)) ne 1 (.int .i64 (g' 0).n);replace HC:=(HC.setCell (p:=⟨p2,0,none⟩) gp2 (.string (g' 0).g)).setCell (p:=⟨p2,1,none⟩) gp2 (.int .i64 (g' 0).n);clear H11 z0 z1 x0 x1 lx;generalize World.setCell _ _ _ = wq at *;refine Qe HC ?_;refine Qk 4 ?_;go_wp2;refine Qe HC ?_;refine Qn 6 ?_;go_wp2;refine Qm ?_;refine Qt ?_
          (obtain ⟨oo,hoo⟩ : ∃ x,x = doff + 2:=⟨_,rfl⟩;obtain ⟨cc,hcc⟩ : ∃ x,x = cb' - 1:=⟨_,rfl⟩;rw [← hoo] at hB2;rw [← hoo,← hcc];exact Jm oo cc ⟨HC,H10,H11',hB2,by omega⟩ rfl)
        ·subst hc1;obtain rfl : m' = 0 := by omega
         refine Q5 7 [6] (fun x => Qb wo x) mixed rfl ?_;intro vz hvz;have HC:=h5.trans hvz;replace H10:=H10.ext hvz;replace H11:=H11.ext hvz;refine Qr (g:=3) [0,1,2,3] HC ?_
         constructor
         refine ⟨fun u hu => ?_,?_⟩
         ·have e0':=((hE.trans hu).cell (p:=⟨d,doff,none⟩) hd).trans e0;have e1':=((hE.trans hu).cell (p:=⟨d,doff + 1,none⟩) hd).trans e1;have ld:=Nat.lt_of_lt_of_le hd (hE.trans hu).size;exact Qj
         refine Zp 4 5 ?_ ?_
         ·go_wp2;refine Qe HC ?_;refine Qk 5 ?_;have z0:=H11.frozen 0;have z1:=H11.frozen 1;obtain ⟨x0,x1⟩:=H11.c2;have lx:=H11.lt;go_wp2;have H11':=Qo H11 (.string (g' 0).g) (.int .i64 (g' 0).n);replace H10:=Qg (Qg H10 ne 0 (.string (g' 0).g)) ne 1 (.int .i64 (g' 0).n);replace HC:=(HC.setCell (p:=⟨p2,0,none⟩) gp2 (.string (g' 0).g)).setCell (p:=⟨p2,1,none⟩) gp2 (.int .i64 (g' 0).n);clear H11 z0 z1 x0 x1 lx;generalize World.setCell _ _ _ = wq at *;refine Qe HC ?_;refine Qn 6 ?_;go_wp2;refine Qm ?_;refine Qt ?_;exact Jm doff 0 ⟨HC,H10,H11',Qs.nil,Nat.le_refl _⟩ rfl
         ·have z0:=H11.frozen 0;have z1:=H11.frozen 1;obtain ⟨x0,x1⟩:=H11.c2;have lx:=H11.lt;go_wp2;have H11':=Qo H11 (.string (g' 0).g) (.int .i64 (g' 0).n);replace H10:=Qg (Qg H10 ne 0 (.string (g' 0).g)) ne 1 (.int .i64 (g' 0).n);replace HC:=(HC.setCell (p:=⟨p2,0,none⟩) gp2 (.string (g' 0).g)).setCell (p:=⟨p2,1,none⟩) gp2 (.int .i64 (g' 0).n);clear H11 z0 z1 x0 x1 lx;generalize World.setCell _ _ _ = wq at *;refine Qe HC ?_;refine Qk 4 ?_;go_wp2;refine Qe HC ?_;refine Qn 6 ?_;go_wp2;refine Qm ?_;refine Qt ?_;exact Jm doff 0 ⟨HC,H10,H11',Qs.nil,Nat.le_refl _⟩ rfl
       rintro o2 c2 w6 ⟨h6,H10,H11,hB3,hc3⟩;have NP:=Oz sg hsg ⟨⟨#[]⟩,0⟩ (g' 0) (Rv) (hg.out 0 Qa) (b9 + 1) bs bo F k cap xs w6 (HS.ext h6) (HO.ext h6) (Yo hO h6) Qa (by have:=h6.size;omega);obtain ⟨x0,x1⟩:=H10.c2;have lx:=H10.lt;obtain ⟨y0,y1⟩:=H11.c2;have ly:=H11.lt;have hkl:=Ol sg (⟨⟨#[]⟩,0⟩,(g' 0));cases hr : Xy sg ⟨⟨#[]⟩,0⟩ (g' 0)
       ·rw [hr] at NP;have hno:=Ny hall.out hr;clear hall hout hr;go_wp2_with (first | (go_at_call 113;(with_reducible refine zc (NP) ?_);rintro e w9 ⟨rfl,HP,HQ⟩) | (go_at_fn 113;(with_reducible refine zc (NP) ?_);rintro e w9 ⟨rfl,HP,HQ⟩));go_ret;exact ⟨Yn hno.symm,HP.ext W0 (hE.trans h6) hbo Qa,fun h => by rw [hno] at h;cases h⟩
       ·rw [hr] at NP;have hyes:=Lib.hid (Nz hall.out hr);have hout2:=Lib.hid (Ow hout.out);clear hall hout hr;go_wp2_with (first | (go_at_call 113;(with_reducible refine zc (NP) ?_);rintro e w9 ⟨rfl,HP,HQ⟩) | (go_at_fn 113;(with_reducible refine zc (NP) ?_);rintro e w9 ⟨rfl,HP,HQ⟩));obtain ⟨F2,k2,cap2,HO2,hO2⟩:=HQ (by trivial);have hl2:=hO2.1;rw [List.length_append] at hl2;have hE9:=HP.ext W0 (hE.trans h6) hbo Qa;exact ⟨⟨(n' + 1),m',q,f',(fun t => g' (t + 1)),some ⟨b,off,none⟩,some ⟨d,o2,none⟩,ca',c2,rfl,rfl,by omega,by omega,by omega,hA,hB3,hf,Lib.hid (fun i hi => hg.out (i + 1) Qa),hE9,HP.held _ _ _ (H9.ext h6) Qa Qa,HP.held _ _ _ (HS.ext h6) (Oi (HS.ext h6) (HO.ext h6) (by decide)) hbs9,(HP.held _ _ _ (H9.ext h6) Qa Qa).lt,hbs9,F2,k2,cap2,_,HO2,hO2,hO2.1,by omega,hout2,hyes⟩,by simp [lenOf] <;> omega⟩
     ·rw [Qc5 (.inr hs1),show Yt = ⟨⟨#[]⟩,0⟩ from rfl] at hout hall;go_upto_region 6 with (fail)
      apply Kf (S:=fun w' o2 c2 => Qb wo w' ∧ Qc w' p1 85 #[.string (f' 0).g,.int .i64 (f' 0).n] ∧ Qc w' p2 85 #[.string ⟨#[]⟩,.int .i64 0] ∧ Qs W0 (some ⟨b,o2,none⟩) n' 2 (Zw (fun t => f' (t + 1))) ∧ n' ≤ c2)
      ·by_cases hc1 : ca' = 1;rotate_left
       ·refine Q5 7 [6] (fun x => Qb wo x) mixed rfl ?_;intro vz hvz;have HC:=h5.trans hvz;replace H10:=H10.ext hvz;replace H11:=H11.ext hvz;refine Qr (g:=3) [0,1,2,3] HC ?_
        constructor
        refine ⟨fun u hu => ?_,?_⟩
        ·have a0':=((hE.trans hu).cell (p:=⟨b,off,none⟩) hb).trans a0;have a1':=((hE.trans hu).cell (p:=⟨b,off + 1,none⟩) hb).trans a1;have lb:=Nat.lt_of_lt_of_le hb (hE.trans hu).size;exact Qj
        refine Zp 4 5 ?_ ?_
        ·go_wp2;refine Qe HC ?_;refine Qk 5 ?_;have z0:=H10.frozen 0;have z1:=H10.frozen 1;obtain ⟨x0,x1⟩:=H10.c2;have lx:=H10.lt;go_wp2;have H10':=Qo H10 (.string (f' 0).g) (.int .i64 (f' 0).n);replace H11:=Qg (Qg H11 (Ne.symm ne) 0 (.string (f' 0).g)) (Ne.symm ne) 1 (.int .i64 (f' 0).n);replace HC:=(HC.setCell (p:=⟨p1,0,none⟩) gp1 (.string (f' 0).g)).setCell (p:=⟨p1,1,none⟩) gp1 (.int .i64 (f' 0).n);clear H10 z0 z1 x0 x1 lx;generalize World.setCell _ _ _ = wq at *;refine Qe HC ?_;refine Qn 6 ?_;go_wp2;refine Qm ?_;refine Qt ?_
         (obtain ⟨oo,hoo⟩ : ∃ x,x = off + 2:=⟨_,rfl⟩;obtain ⟨cc,hcc⟩ : ∃ x,x = ca' - 1:=⟨_,rfl⟩;rw [← hoo] at hA2;rw [← hoo,← hcc];exact Jm oo cc ⟨HC,H10',H11,hA2,by omega⟩ rfl)
        ·have z0:=H10.frozen 0;have z1:=H10.frozen 1;obtain ⟨x0,x1⟩:=H10.c2;have lx:=H10.lt;go_wp2;have H10':=Qo H10 (.string (f' 0).g) (.int .i64 (f' 0).n);replace H11:=Qg (Qg H11 (Ne.symm ne) 0 (.string (f' 0).g)) (Ne.symm ne) 1 (.int .i64 (f' 0).n);replace HC:=(HC.setCell (p:=⟨p1,0,none⟩) gp1 (.string (f' 0).g)).setCell (p:=⟨p1,1,none⟩) gp1 (.int .i64 (f' 0).n);clear H10 z0 z1 x0 x1 lx;generalize World.setCell _ _ _ = wq at *;refine Qe HC ?_;refine Qk 4 ?_;go_wp2;refine Qe HC ?_;refine Qn 6 ?_;go_wp2;refine Qm ?_;refine Qt ?_
         (obtain ⟨oo,hoo⟩ : ∃ x,x = off + 2:=⟨_,rfl⟩;obtain ⟨cc,hcc⟩ : ∃ x,x = ca' - 1:=⟨_,rfl⟩;rw [← hoo] at hA2;rw [← hoo,← hcc];exact Jm oo cc ⟨HC,H10',H11,hA2,by omega⟩ rfl)
       ·subst hc1;obtain rfl : n' = 0 := by omega
        refine Q5 7 [6] (fun x => Qb wo x) mixed rfl ?_;intro vz hvz;have HC:=h5.trans hvz;replace H10:=H10.ext hvz;replace H11:=H11.ext hvz;refine Qr (g:=3) [0,1,2,3] HC ?_
        constructor
        refine ⟨fun u hu => ?_,?_⟩
        ·have a0':=((hE.trans hu).cell (p:=⟨b,off,none⟩) hb).trans a0;have a1':=((hE.trans hu).cell (p:=⟨b,off + 1,none⟩) hb).trans a1;have lb:=Nat.lt_of_lt_of_le hb (hE.trans hu).size;exact Qj
        refine Zp 4 5 ?_ ?_
        ·go_wp2;refine Qe HC ?_;refine Qk 5 ?_;have z0:=H10.frozen 0;have z1:=H10.frozen 1;obtain ⟨x0,x1⟩:=H10.c2;have lx:=H10.lt;go_wp2;have H10':=Qo H10 (.string (f' 0).g) (.int .i64 (f' 0).n);replace H11:=Qg (Qg H11 (Ne.symm ne) 0 (.string (f' 0).g)) (Ne.symm ne) 1 (.int .i64 (f' 0).n);replace HC:=(HC.setCell (p:=⟨p1,0,none⟩) gp1 (.string (f' 0).g)).setCell (p:=⟨p1,1,none⟩) gp1 (.int .i64 (f' 0).n);clear H10 z0 z1 x0 x1 lx;generalize World.setCell _ _ _ = wq at *;refine Qe HC ?_;refine Qn 6 ?_;go_wp2;refine Qm ?_;refine Qt ?_;exact Jm off 0 ⟨HC,H10',H11,Qs.nil,Nat.le_refl _⟩ rfl
        ·have z0:=H10.frozen 0;have z1:=H10.frozen 1;obtain ⟨x0,x1⟩:=H10.c2;have lx:=H10.lt;go_wp2;have H10':=Qo H10 (.string (f' 0).g) (.int .i64 (f' 0).n);replace H11:=Qg (Qg H11 (Ne.symm ne) 0 (.string (f' 0).g)) (Ne.symm ne) 1 (.int .i64 (f' 0).n);replace HC:=(HC.setCell (p:=⟨p1,0,none⟩) gp1 (.string (f' 0).g)).setCell (p:=⟨p1,1,none⟩) gp1 (.int .i64 (f' 0).n);clear H10 z0 z1 x0 x1 lx;generalize World.setCell _ _ _ = wq at *;refine Qe HC ?_;refine Qk 4 ?_;go_wp2;refine Qe HC ?_;refine Qn 6 ?_;go_wp2;refine Qm ?_;refine Qt ?_;exact Jm off 0 ⟨HC,H10',H11,Qs.nil,Nat.le_refl _⟩ rfl
      rintro o2 c2 w6 ⟨h6,H10,H11,hA3,hc3⟩;have NP:=Oz sg hsg (f' 0) ⟨⟨#[]⟩,0⟩ (hf.out 0 Qa) (Rv) (b9 + 1) bs bo F k cap xs w6 (HS.ext h6) (HO.ext h6) (Yo hO h6) Qa (by have:=h6.size;omega);obtain ⟨x0,x1⟩:=H10.c2;have lx:=H10.lt;obtain ⟨y0,y1⟩:=H11.c2;have ly:=H11.lt;have hkl:=Ol sg ((f' 0),⟨⟨#[]⟩,0⟩);cases hr : Xy sg (f' 0) ⟨⟨#[]⟩,0⟩
      ·rw [hr] at NP;have hno:=Ny hall.out hr;clear hall hout hr;go_wp2_with (first | (go_at_call 113;(with_reducible refine zc (NP) ?_);rintro e w9 ⟨rfl,HP,HQ⟩) | (go_at_fn 113;(with_reducible refine zc (NP) ?_);rintro e w9 ⟨rfl,HP,HQ⟩));go_ret;exact ⟨Yn hno.symm,HP.ext W0 (hE.trans h6) hbo Qa,fun h => by rw [hno] at h;cases h⟩
      ·rw [hr] at NP;have hyes:=Lib.hid (Nz hall.out hr);have hout2:=Lib.hid (Ow hout.out);clear hall hout hr;go_wp2_with (first | (go_at_call 113;(with_reducible refine zc (NP) ?_);rintro e w9 ⟨rfl,HP,HQ⟩) | (go_at_fn 113;(with_reducible refine zc (NP) ?_);rintro e w9 ⟨rfl,HP,HQ⟩));obtain ⟨F2,k2,cap2,HO2,hO2⟩:=HQ (by trivial);have hl2:=hO2.1;rw [List.length_append] at hl2;have hE9:=HP.ext W0 (hE.trans h6) hbo Qa;exact ⟨⟨n',(m' + 1),q,(fun t => f' (t + 1)),g',some ⟨b,o2,none⟩,some ⟨d,doff,none⟩,c2,cb',rfl,rfl,by omega,by omega,by omega,hA3,hB,Lib.hid (fun i hi => hf.out (i + 1) Qa),hg,hE9,HP.held _ _ _ (H9.ext h6) Qa Qa,HP.held _ _ _ (HS.ext h6) (Oi (HS.ext h6) (HO.ext h6) (by decide)) hbs9,(HP.held _ _ _ (H9.ext h6) Qa Qa).lt,hbs9,F2,k2,cap2,_,HO2,hO2,hO2.1,by omega,hout2,hyes⟩,by simp [lenOf] <;> omega⟩
theorem Pk {f : Nat → Lt} {n : Nat} (h : Jy f n = 0) : n ≤ 64 ∧ ∀ i,i < n → Vw (f i):=by
 unfold Jy at h;by_cases h64 : 64 < n
 ·rw [if_pos h64] at h;exact absurd h (by decide)
 ·rw [if_neg h64] at h;by_cases ho : Fc f n = true
  ·refine ⟨by omega,fun i hi => ?_⟩;have h1:=List.all_eq_true.1 ho i (by simpa using hi);unfold Uh at h1;simp only [Bool.and_eq_true,decide_eq_true_eq] at h1;exact ⟨h1.2.2.2,h1.2.2.1⟩
  ·rw [if_neg ho] at h;exact absurd h (by decide)
theorem two_ok {f g : Nat → Lt} {n m : Nat} (h : Kd f n g m = 0) : Jy f n = 0 ∧ Jy g m = 0:=by
 unfold Kd at h;by_cases h1 : Jy f n ≠ 0
 ·rw [if_pos h1] at h;exact absurd h h1
 ·rw [if_neg h1] at h;exact ⟨Decidable.not_not.1 h1,h⟩
theorem G9 : ∀ l : List Lt,(l.flatMap Jw).length = l.length * 2
 | [] => rfl
 | x :: l => by rw [List.flatMap_cons,List.length_append,G9 l,List.length_cons];show 2 + _ = _;omega
theorem Sg {sg : Int} {f g : Nat → Lt} {n m : Nat} {e : Int} (h : Yx sg f n g m = e) (he : e ≠ 0) : Xz sg f n g m = []:=by unfold Xz;rw [h,if_neg he]
theorem Ak (T : Option Addr) (n cap : Nat) (f : Nat → Lt) (S : Option Addr) (m cm : Nat) (g : Nat → Lt) (sg : Int) (hsg : sg = 1 ∨ sg = -1) (w : World) (hT : Qs w T n 2 (Zw f)) (hcap : n ≤ cap) (hn : n ≤ 9223372036854775807) (hS : Qs w S m 2 (Zw g)) (hcm : m ≤ cm) (hm : m ≤ 9223372036854775807) :
  Calls Tryz.prog 63 #[.slice T n cap,.slice S m cm,.int .i64 sg] w fun e w' => ∃ F k c,e = .returned (.tuple #[.slice F k c,.int .i64 (Yx sg f n g m)]) ∧ Qb w w' ∧ w'.ownsRow w.heap.size 85 2 (.slice F k c) k ((Xz sg f n g m).flatMap Jw):=by
 have N2:=Qga T n cap f S m cm g;have hsz : ∀ (E : Int),Yx sg f n g m = E → E ≠ 0 → Xz sg f n g m = []:=fun E h he => Sg h he
 go_enter Tryz.func63,Tryz.ntmps63
 go_upto_region 1 with (fail)
 obtain ⟨v,b1,E,B1,hbr,hv,hb1⟩:=Yi w 3 #[.int .i64 sg];rw [← hv,← hb1];clear hv hb1;have T1:=hT.ext E;have S1:=hS.ext E;obtain ⟨q,hq⟩:=Qf (Kd f n g m);have NC:=N2 v T1 hcap hn S1 hcm hm;rw [← hq] at NC;clear N2;replace hq:=Lib.hid hq;by_cases e0 : q = 0;rotate_left
 ·have g0 : (q == 0) = false := beq_eq_false_iff_ne.2 e0;have g0n : (q != 0) = true := by rw [bne, g0]; rfl
  have hE2 : Hid (Yx sg f n g m = q):=by unfold Hid Yx;rw [if_pos (by rw [← hq.out];exact e0),hq.out]
  have hL2:=Lib.hid (hsz q hE2.out e0);clear hsz e0 hq;go_wp2_with (go_at_call 110;(with_reducible refine zc (NC) ?_);rintro e w1 ⟨rfl,h1⟩);have EE:=E.trans h1;go_ret2;exact ⟨none,0,0,by rw [hE2.out];rfl,EE,by rw [hL2.out];exact World.ownsRow_nil _ _ _ _⟩
 ·subst e0;obtain ⟨o1, o2⟩ := two_ok hq.out.symm;obtain ⟨n64, bf⟩ := Pk o1;obtain ⟨m64, bg⟩ := Pk o2;have hE2 : Hid (Yx sg f n g m = if Xc sg (W4 f n g m) then (if 64 < (Y7 sg (W4 f n g m)).length then 3 else 0) else 6) := by unfold Hid Yx; rw [if_neg (by rw [← hq.out]; simp)]
  have hL3 : Hid (Yx sg f n g m = 0 → Xz sg f n g m = Y7 sg (W4 f n g m)):=fun h => by unfold Xz;rw [if_pos h]
  clear o1 o2 hq;go_upto_region 5 with (go_at_call 110;(with_reducible refine zc (NC) ?_);rintro e w1 ⟨rfl,h1⟩)
  obtain ⟨v3,hv⟩:=Qf (w1.alloc (.cells #[.slice none 0 0] 52));rw [← hv];have h3 : Qb w1 v3:=by rw [hv];exact (Qb.refl _).alloc _
  have HO : Qc v3 w1.heap.size 52 #[.slice none 0 0]:=by rw [hv];exact Qc.new _ _ _
  have hbo : w.heap.size ≤ w1.heap.size:=(E.trans h1).size;clear hv;generalize w1.heap.size = bo at *;have HS:=(B1.ext h1).ext h3;have EE:=(E.trans h1).trans h3;have NM:=Qj4 w T S n m cap cm f g sg hsg bf bg n64 m64 hcap hcm hT hS b1 bo v3 EE hbo HS HO;clear NC h1 h3 B1 T1 S1 hsz bf bg E;generalize W4 f n g m = M at *;cases ha : Xc sg M
  ·rw [ha] at NM;have hE3 : Hid (Yx sg f n g m = 6) := by unfold Hid; rw [hE2.out, ha]; rfl
   have hL2:=Lib.hid (Sg hE3.out (by decide));clear hE2 hL3 ha;go_wp2_with (go_at_call 111;(with_reducible refine zc (NM) ?_);rintro e w4 ⟨rfl,h4,_⟩);go_ret2;exact ⟨none,0,0,by rw [hE3.out];rfl,h4,by rw [hL2.out];exact World.ownsRow_nil _ _ _ _⟩
  ·rw [ha] at NM;rw [ha,if_pos rfl] at hE2;clear ha;go_upto_region 8 with (go_at_call 111;(with_reducible refine zc (NM) ?_);rintro e w4 ⟨rfl,h4,h5⟩)
   obtain ⟨F,k,c,HO4,hown⟩:=h5 (by trivial);clear h5 NM
   have hk : k = (Y7 sg M).length:=by
    have:=hown.1;rw [G9] at this;omega
   have x0:=HO4.c1;have lx:=HO4.lt;by_cases h64 : 64 < k
   ·have d1 : decide ((64 : Int) < (k : Int)) = true := decide_eq_true Qa;have hE3 : Hid (Yx sg f n g m = 3) := by unfold Hid; rw [hE2.out, if_pos Qa]
    have hL2:=Lib.hid (Sg hE3.out (by decide));clear hE2 hL3 hk;go_wp2;go_ret2;exact ⟨none,0,0,by rw [hE3.out];rfl,h4,by rw [hL2.out];exact World.ownsRow_nil _ _ _ _⟩
   ·have d1 : decide ((64 : Int) < (k : Int)) = false := decide_eq_false Qa;have hE3 : Hid (Yx sg f n g m = 0) := by unfold Hid; rw [hE2.out, if_neg Qa]
    have hL2:=Lib.hid (hL3.out hE3.out);clear hE2 hL3 hk;go_wp2;go_ret2;exact ⟨F,k,c,by rw [hE3.out];rfl,h4,by rw [hL2.out];exact hown⟩
theorem Td (T : Option Addr) (n cap : Nat) (f : Nat → Lt) (S : Option Addr) (m cm : Nat) (g : Nat → Lt) (w : World) (hT : Qs w T n 2 (Zw f)) (hcap : n ≤ cap) (hn : n ≤ 9223372036854775807) (hS : Qs w S m 2 (Zw g)) (hcm : m ≤ cm) (hm : m ≤ 9223372036854775807) :
  Calls Tryz.prog 19 #[.slice T n cap,.slice S m cm] w fun e w' => ∃ F k c,e = .returned (.tuple #[.slice F k c,.int .i64 (Yx 1 f n g m)]) ∧ Qb w w' ∧ w'.ownsRow w.heap.size 85 2 (.slice F k c) k ((Xz 1 f n g m).flatMap Jw):=by
 have NC:=Ak T n cap f S m cm g 1 (by decide) w hT hcap hn hS hcm hm;generalize Yx 1 f n g m = E at *;generalize Xz 1 f n g m = L at *
 go_enter Tryz.func19,Tryz.ntmps19
 go_wp2_with (go_at_call 63;(with_reducible refine zc (NC) ?_);rintro e w1 ⟨F,k,c,rfl,h1,ho⟩);go_ret2;exact ⟨F,k,c,rfl,h1,ho⟩
theorem Qc7 (T : Option Addr) (n cap : Nat) (f : Nat → Lt) (S : Option Addr) (m cm : Nat) (g : Nat → Lt) (w : World) (hT : Qs w T n 2 (Zw f)) (hcap : n ≤ cap) (hn : n ≤ 9223372036854775807) (hS : Qs w S m 2 (Zw g)) (hcm : m ≤ cm) (hm : m ≤ 9223372036854775807) :
  Calls Tryz.prog 108 #[.slice T n cap,.slice S m cm] w fun e w' => ∃ F k c,e = .returned (.tuple #[.slice F k c,.int .i64 (Yx (-1) f n g m)]) ∧ Qb w w' ∧ w'.ownsRow w.heap.size 85 2 (.slice F k c) k ((Xz (-1) f n g m).flatMap Jw):=by
 have NC:=Ak T n cap f S m cm g (-1) (by decide) w hT hcap hn hS hcm hm;generalize Yx (-1) f n g m = E at *;generalize Xz (-1) f n g m = L at *
 go_enter Tryz.func108,Tryz.ntmps108
 go_wp2_with (go_at_call 63;(with_reducible refine zc (NC) ?_);rintro e w1 ⟨F,k,c,rfl,h1,ho⟩);go_ret2;exact ⟨F,k,c,rfl,h1,ho⟩
/-- A slice value that reads as a list of lots. -/
def Zq (w : World) (v : Value) (l : List Lt) : Prop:=∃ A cap,v = .slice A l.length cap ∧ Qs w A l.length 2 (Zw (Zb l)) ∧ l.length ≤ cap ∧ cap ≤ maxLen ∧ (A = none → l.length = 0 ∧ cap = 0)
theorem Zq.ext {w w' : World} {v : Value} {l : List Lt} (h : Zq w v l) (e : Qb w w') : Zq w' v l:=by
 obtain ⟨A,cap,h1,h2,h3⟩:=h;exact ⟨A,cap,h1,h2.ext e,h3⟩
def Zr (d : Dl) (v : Value) : List Value:=[.int .i64 d.on.y,.int .i64 d.on.m,.bool d.on.s,.int .i64 d.on.d,.bool d.i,.string d.w,v]
/-- A slice value that reads as a list of deals. -/
def W9 (w : World) (v : Value) (l : List Dl) : Prop:=∃ D cap,∃ vs : Nat → Value,v = .slice D l.length cap ∧ Qs w D l.length 7 (fun i => Zr (l.getD i Qw) (vs i)) ∧ l.length ≤ cap ∧ cap ≤ maxLen ∧ (D = none → l.length = 0 ∧ cap = 0) ∧ ∀ i,i < l.length → Zq w (vs i) (l.getD i Qw).l
theorem W9.ext {w w' : World} {v : Value} {l : List Dl} (h : W9 w v l) (e : Qb w w') : W9 w' v l:=by
 obtain ⟨D,cap,vs,h1,h2,h3,h4,h5,h6⟩:=h;exact ⟨D,cap,vs,h1,h2.ext e,h3,h4,h5,fun i hi => (h6 i hi).ext e⟩
structure Xo (w : World) (p : Pd) (vo vd vc : Value) : Prop where
 o : Zq w vo p.o
 d : W9 w vd p.d
 c : Zq w vc p.c
theorem Xo.ext {w w' : World} {p : Pd} {vo vd vc : Value} (h : Xo w p vo vd vc) (e : Qb w w') : Xo w' p vo vd vc:=⟨h.o.ext e,h.d.ext e,h.c.ext e⟩
theorem Qen (l : List Lt) : ((List.range l.length).any fun j => decide ((Zb l j).n < 0)) = l.any fun x => decide (x.n < 0):=by
 conv => rhs;rw [← Mv l]
 unfold Jr;rw [List.any_map];rfl
section
variable {W : World} {b : Nat} {t : TypeId} {v0 v1 v2 v3 v4 v5 v6 v7 v8 v9 v10 v11 : Value}
theorem Gz (h : Qc W b t #[v0,v1,v2,v3,v4,v5,v6]) : W.cell? ⟨b,0,none⟩ = some v0 ∧ W.cell? ⟨b,1,none⟩ = some v1 ∧ W.cell? ⟨b,2,none⟩ = some v2 ∧ W.cell? ⟨b,3,none⟩ = some v3 ∧ W.cell? ⟨b,4,none⟩ = some v4 ∧ W.cell? ⟨b,5,none⟩ = some v5 ∧ W.cell? ⟨b,6,none⟩ = some v6:=⟨h.cell 0,h.cell 1,h.cell 2,h.cell 3,h.cell 4,h.cell 5,h.cell 6⟩
theorem Qc.c12 (h : Qc W b t #[v0,v1,v2,v3,v4,v5,v6,v7,v8,v9,v10,v11]) : W.cell? ⟨b,0,none⟩ = some v0 ∧ W.cell? ⟨b,1,none⟩ = some v1 ∧ W.cell? ⟨b,2,none⟩ = some v2 ∧ W.cell? ⟨b,3,none⟩ = some v3 ∧ W.cell? ⟨b,4,none⟩ = some v4 ∧ W.cell? ⟨b,5,none⟩ = some v5 ∧ W.cell? ⟨b,6,none⟩ = some v6 ∧ W.cell? ⟨b,7,none⟩ = some v7 ∧ W.cell? ⟨b,8,none⟩ = some v8 ∧ W.cell? ⟨b,9,none⟩ = some v9 ∧ W.cell? ⟨b,10,none⟩ = some v10 ∧ W.cell? ⟨b,11,none⟩ = some v11:=⟨h.cell 0,h.cell 1,h.cell 2,h.cell 3,h.cell 4,h.cell 5,h.cell 6,h.cell 7,h.cell 8,h.cell 9,h.cell 10,h.cell 11⟩
end
theorem Qh0 (l : Lt) (w : World) :
  Calls Tryz.prog 193 #[.agg #[.string l.g,.int .i64 l.n]] w fun e w' => e = .returned (.bool (decide (l.n < 0))) ∧ Qb w w':=by
 go_enter Tryz.func193,Tryz.ntmps193
 go_upto_region 1 with (fail)
 obtain ⟨v,hv⟩:=Qf (w.alloc (.cells #[.string l.g,.int .i64 l.n] 85));rw [← hv];have E : Qb w v:=by rw [hv];exact (Qb.refl _).alloc _
 have B1 : Qc v w.heap.size 85 #[.string l.g,.int .i64 l.n]:=by rw [hv];exact Qc.new _ _ _
 clear hv;generalize w.heap.size = b1 at *;obtain ⟨k0,k1⟩:=B1.c2;have lk:=B1.lt;go_wp2;go_ret;exact ⟨rfl,E⟩
theorem Qiu (A : Option Addr) (n cap : Nat) (f : Nat → Lt) (w : World) (hA : Qs w A n 2 (Zw f)) (hn : n ≤ 9223372036854775807) :
  Calls Tryz.prog 195 #[.slice A n cap,.func (.func 193) #[] #[]] w fun e w' => ∃ r : Int,e = .returned (.int .i64 r) ∧ decide (0 ≤ r) = ((List.range n).any fun j => decide ((f j).n < 0)) ∧ Qb w w':=by
 go_enter Tryz.func195,Tryz.ntmps195
 go_wp2
 go_loopw [8] (fun iv wr => ∃ k : Nat,k ≤ n ∧ iv = .int .i64 (k : Int) ∧ Hid (∀ j,j < k → decide ((f j).n < 0) = false) ∧ Qb w wr) (fun iv _ => n - (intOf iv).toNat)
 case atStart => exact ⟨0,Nat.zero_le _,rfl,fun j h => absurd h Qa,Qb.refl _⟩
 case round =>
  obtain ⟨k,hk0,rfl,hno,hE⟩:=hrel;obtain ⟨wo,rfl⟩:=Qf wr;by_cases hlt : k < n
  ·obtain ⟨b, off, hAA, hb, hc⟩ := (hA.ext hE) Qa;subst hAA;have c0 : wo.cell? ⟨b, off + k * 2, none⟩ = some (.string (f k).g) := by simpa [Zw] using hc k 0 _ hlt rfl
   have c1 : wo.cell? ⟨b,off + k * 2 + 1,none⟩ = some (.int .i64 (f k).n):=by simpa [Zw] using hc k 1 _ hlt rfl
   have NP:=Qh0 (f k) wo;clear hc hA;generalize hq : decide ((f k).n < 0) = q at *;have HQ:=Lib.hid hq;clear hq;cases q
   ·go_wp2_with (first | (go_at_call 193;(with_reducible refine zc (NP) ?_);rintro e w4 ⟨rfl,h⟩) | (go_at_fn 193;(with_reducible refine zc (NP) ?_);rintro e w4 ⟨rfl,h⟩))
    exact ⟨⟨k + 1,by omega,by go_num,fun j hj => by
     by_cases e : j = k
     ·subst e;exact HQ.out
     ·exact hno.out j Qa,hE.trans h⟩,by simp [intOf];omega⟩
   ·go_wp2_with (first | (go_at_call 193;(with_reducible refine zc (NP) ?_);rintro e w4 ⟨rfl,h⟩) | (go_at_fn 193;(with_reducible refine zc (NP) ?_);rintro e w4 ⟨rfl,h⟩));go_ret;exact ⟨_,rfl,by rw [decide_eq_true Qa];exact (List.any_eq_true.2 ⟨k,by simpa using hlt,HQ.out⟩).symm,hE.trans h⟩
  ·obtain rfl : k = n := by omega
   go_wp2;go_ret;exact ⟨_,rfl,by rw [decide_eq_false Qa];exact (List.any_eq_false.2 (fun j hj => by have:=hno.out j (by simpa using hj);simpa using this)).symm,hE⟩
theorem Qgr (A : Option Addr) (n cap : Nat) (f : Nat → Lt) (w : World) (hA : Qs w A n 2 (Zw f)) (hn : n ≤ 9223372036854775807) :
  Calls Tryz.prog 192 #[.slice A n cap,.func (.func 193) #[] #[]] w fun e w' => e = .returned (.bool ((List.range n).any fun j => decide ((f j).n < 0))) ∧ Qb w w':=by
 have NI:=Qiu A n cap f w hA hn
 go_enter Tryz.func192,Tryz.ntmps192
 go_wp2_with (go_at_call 195;(with_reducible refine zc (NI) ?_);rintro e w4 ⟨r,rfl,hr,h⟩);go_ret;exact ⟨by rw [← hr];rfl,h⟩
theorem Qh1 (v : Value) (l : List Lt) (w : World) (hL : Zq w v l) :
  Calls Tryz.prog 184 #[v] w fun e w' => e = .returned (.bool (Uw l)) ∧ Qb w w':=by
 obtain ⟨T,cap,rfl,hT,hcap,hmax,_⟩:=hL;have hn : l.length ≤ 9223372036854775807:=Nat.le_trans hcap (Nat.le_trans hmax (by decide));have N1:=Oa T l.length cap (Zb l) w hT hcap hn;have N2:=fun w h => Qgr T l.length cap (Zb l) w h hn
 rw [Qen] at N2;have HR : Hid (Uw l = (decide (0 < l.length) && decide (Jy (Zb l) l.length = 0) && !(l.any fun x => decide (x.n < 0)))):=rfl;generalize Uw l = r at *;generalize (l.any fun x => decide (x.n < 0)) = an at *;generalize Jy (Zb l) l.length = e1 at *;generalize l.length = n at *;by_cases h0 : 0 < n
 ·have d0 : decide ((0 : Int) < (n : Int)) = true:=decide_eq_true Qa;have d0' : decide (0 < n) = true:=decide_eq_true h0;by_cases hz : e1 = 0
  ·subst hz;have hr : r = !an := by rw [HR.out, d0']; rfl
   clear HR;subst hr;cases an
   all_goals
    go_enter Tryz.func184,Tryz.ntmps184
    go_wp2_with (first | (go_at_call 68;(with_reducible refine zc (N1) ?_);rintro e w1 ⟨rfl,h1⟩) | (go_at_call 192;(with_reducible refine zc (N2 _ (hT.ext h1)) ?_);rintro e w2 ⟨rfl,h2⟩));go_ret;exact ⟨rfl,h1.trans h2⟩
  ·have g0 : (e1 == 0) = false := beq_eq_false_iff_ne.2 hz;have hr : r = false := by rw [HR.out, d0', decide_eq_false hz]; rfl
   clear HR hz;subst hr
   go_enter Tryz.func184,Tryz.ntmps184
   go_wp2_with (go_at_call 68;(with_reducible refine zc (N1) ?_);rintro e w1 ⟨rfl,h1⟩);go_ret;exact ⟨rfl,h1⟩
 ·have d0 : decide ((0 : Int) < (n : Int)) = false := decide_eq_false Qa;have d0' : decide (0 < n) = false := decide_eq_false h0;have hr : r = false := by rw [HR.out, d0']; rfl
  clear HR;subst hr
  go_enter Tryz.func184,Tryz.ntmps184
  go_wp2;go_ret;exact ⟨rfl,Qb.refl _⟩
theorem Lv {w : World} {T : Option Addr} {cap : Nat} {l : List Lt} (h : Zq w (.slice T l.length cap) l) : Qs w T l.length 2 (Zw (Zb l)):=by
 obtain ⟨A,cap',e,h2,_⟩:=h;cases e
 exact h2
theorem Qlx (A A' : Option Addr) (ca cb : Nat) (c : Qd) (p : Pd) (vo vd vc : Value) (w : World) (hC : Zg w A ca A' cb c) (hP : Xo w p vo vd vc) :
  Calls Tryz.prog 159 #[.agg #[.slice A c.nk ca,.slice A' c.ny cb],.agg #[.string p.h,.int .i64 p.a.y,.int .i64 p.a.m,.bool p.a.s,.int .i64 p.a.d,.int .i64 p.b.y,.int .i64 p.b.m,.bool p.b.s,.int .i64 p.b.d,vo,vd,vc]] w fun e w' => e = .returned (.bool (c.perOk p)) ∧ Qb w w':=by
 obtain ⟨R,hR0⟩:=Qf (c.perOk p);rw [← hR0];have HR:=Lib.hid hR0;clear hR0;have NS:=fun w h => Dr A A' ca cb c p.a p.b w h
 go_enter Tryz.func159,Tryz.ntmps159
 go_upto_region 1 with (fail)
 obtain ⟨v,b1,b2,E,B1,B2,hbr1,hbr,hn21,hv,hb1,hb2⟩:=Yb w 130 #[.slice A c.nk ca,.slice A' c.ny cb] 55 #[.string p.h,.int .i64 p.a.y,.int .i64 p.a.m,.bool p.a.s,.int .i64 p.a.d,.int .i64 p.b.y,.int .i64 p.b.m,.bool p.b.s,.int .i64 p.b.d,vo,vd,vc];rw [← hv,← hb2,← hb1];clear hv hb1 hb2;have C:=hC.ext E;have P:=hP.ext E;clear hC hP;obtain ⟨TO,co,rfl,_,co1,co2,_⟩:=P.o;obtain ⟨TC,cc,rfl,_,cc1,cc2,_⟩:=P.c;obtain ⟨TD,cd,vs,rfl,_,cd1,cd2,_,_⟩:=P.d;have no : p.o.length ≤ 9223372036854775807:=Nat.le_trans co1 (Nat.le_trans co2 (by decide));have nc : p.c.length ≤ 9223372036854775807:=Nat.le_trans cc1 (Nat.le_trans cc2 (by decide));have nd : p.d.length ≤ 9223372036854775807:=Nat.le_trans cd1 (Nat.le_trans cd2 (by decide))
 have KO:=fun w h => Oa TO p.o.length co (Zb p.o) w h co1 no
 have KC:=fun w h => Oa TC p.c.length cc (Zb p.c) w h cc1 nc
 clear co1 co2 cc1 cc2 cd1 cd2;have HH : Hid (c.perHead p = (Z9 p.h && c.spanV p.a p.b && decide (Jy (Zb p.o) p.o.length = 0) && decide (Jy (Zb p.c) p.c.length = 0) && decide (p.d.length ≤ 64))):=rfl;have hbad : Hid (c.perHead p = false → R = false):=fun h => by rw [HR.out];exact Qlv h
 obtain ⟨nm,hnm⟩:=Qf (Z9 p.h);have NN:=fun w => Kt p.h w
 rw [← hnm] at HH NN;replace hnm:=Lib.hid hnm;have NSP : Hid (c.spanV p.a p.b = _):=show c.spanV p.a p.b = (decide (0 < c.numV p.a) && decide (c.numV p.a ≤ c.numV p.b)) from rfl
 unfold Qd.spanV at HH;generalize (decide (0 < c.numV p.a) && decide (c.numV p.a ≤ c.numV p.b)) = sp at *;clear NSP;obtain ⟨eo,heo⟩:=Qf (Jy (Zb p.o) p.o.length);rw [← heo] at HH KO;replace heo:=Lib.hid heo;obtain ⟨ec,hec⟩:=Qf (Jy (Zb p.c) p.c.length);rw [← hec] at HH KC;replace hec:=Lib.hid hec;obtain ⟨k0,k1⟩:=B1.c2;have lk:=B1.lt;obtain ⟨p0,p1,p2,p3,p4,p5,p6,p7,p8,p9,p10,p11⟩:=B2.c12;have lp:=B2.lt;by_cases hz : nm = false
 ·have hr:=hbad.out (by rw [HH.out,hz];rfl);subst hz;clear HH hbad HR NS KO KC hnm heo hec;go_wp2_with (go_at_call 120;(with_reducible refine zc (NN _) ?_);rintro e wn ⟨rfl,rfl⟩);go_ret;exact ⟨by rw [hr];rfl,E⟩
 obtain rfl : nm = true:=by simpa using hz
 clear hz;by_cases hz : sp = false
 ·have hr:=hbad.out (by rw [HH.out,hz];rfl);subst hz;clear HH hbad HR KO KC hnm heo hec;go_wp2_with (first | (go_at_call 120;(with_reducible refine zc (NN _) ?_);rintro e wn ⟨rfl,rfl⟩) | (go_at_call 91;(with_reducible refine zc (NS _ C) ?_);rintro e w1 ⟨rfl,h1⟩;replace E:=E.trans h1;replace C:=C.ext h1;replace P:=P.ext h1;replace B1:=B1.ext h1;replace B2:=B2.ext h1;clear h1 k0 k1 lk p0 p1 p2 p3 p4 p5 p6 p7 p8 p9 p10 p11 lp;obtain ⟨k0,k1⟩:=B1.c2;have lk:=B1.lt;obtain ⟨p0,p1,p2,p3,p4,p5,p6,p7,p8,p9,p10,p11⟩:=B2.c12;have lp:=B2.lt));go_ret;exact ⟨by rw [hr];rfl,E⟩
 obtain rfl : sp = true:=by simpa using hz
 clear hz;by_cases hz : eo = 0;rotate_left
 ·have hr := hbad.out (by rw [HH.out, decide_eq_false hz]; rfl);have g0 : (eo == 0) = false := beq_eq_false_iff_ne.2 hz;have g0n : (eo != 0) = true := by rw [bne, g0]; rfl
  clear HH hbad HR KC hnm heo hec hz;go_wp2_with (first | (go_at_call 120;(with_reducible refine zc (NN _) ?_);rintro e wn ⟨rfl,rfl⟩) | (go_at_call 91;(with_reducible refine zc (NS _ C) ?_);rintro e w1 ⟨rfl,h1⟩;replace E:=E.trans h1;replace C:=C.ext h1;replace P:=P.ext h1;replace B1:=B1.ext h1;replace B2:=B2.ext h1;clear h1 k0 k1 lk p0 p1 p2 p3 p4 p5 p6 p7 p8 p9 p10 p11 lp;obtain ⟨k0,k1⟩:=B1.c2;have lk:=B1.lt;obtain ⟨p0,p1,p2,p3,p4,p5,p6,p7,p8,p9,p10,p11⟩:=B2.c12;have lp:=B2.lt) | (go_at_call 68;(with_reducible refine zc (KO _ (Lv P.o)) ?_);rintro e w2 ⟨rfl,h1⟩;replace E:=E.trans h1;replace C:=C.ext h1;replace P:=P.ext h1;replace B1:=B1.ext h1;replace B2:=B2.ext h1;clear h1 k0 k1 lk p0 p1 p2 p3 p4 p5 p6 p7 p8 p9 p10 p11 lp;obtain ⟨k0,k1⟩:=B1.c2;have lk:=B1.lt;obtain ⟨p0,p1,p2,p3,p4,p5,p6,p7,p8,p9,p10,p11⟩:=B2.c12;have lp:=B2.lt))
  go_ret;exact ⟨by rw [hr];rfl,E⟩
 subst hz;by_cases hz : ec = 0;rotate_left
 ·have hr := hbad.out (by rw [HH.out, decide_eq_false hz, Bool.and_false]; rfl);have g0 : (ec == 0) = false := beq_eq_false_iff_ne.2 hz;have g0n : (ec != 0) = true := by rw [bne, g0]; rfl
  clear HH hbad HR hnm heo hec hz;go_wp2_with (first | (go_at_call 120;(with_reducible refine zc (NN _) ?_);rintro e wn ⟨rfl,rfl⟩) | (go_at_call 91;(with_reducible refine zc (NS _ C) ?_);rintro e w1 ⟨rfl,h1⟩;replace E:=E.trans h1;replace C:=C.ext h1;replace P:=P.ext h1;replace B1:=B1.ext h1;replace B2:=B2.ext h1;clear h1 k0 k1 lk p0 p1 p2 p3 p4 p5 p6 p7 p8 p9 p10 p11 lp;obtain ⟨k0,k1⟩:=B1.c2;have lk:=B1.lt;obtain ⟨p0,p1,p2,p3,p4,p5,p6,p7,p8,p9,p10,p11⟩:=B2.c12;have lp:=B2.lt) | (go_at_call 68;(with_reducible refine zc (KO _ (Lv P.o)) ?_);rintro e w2 ⟨rfl,h1⟩;replace E:=E.trans h1;replace C:=C.ext h1;replace P:=P.ext h1;replace B1:=B1.ext h1;replace B2:=B2.ext h1;clear h1 k0 k1 lk p0 p1 p2 p3 p4 p5 p6 p7 p8 p9 p10 p11 lp;obtain ⟨k0,k1⟩:=B1.c2;have lk:=B1.lt;obtain ⟨p0,p1,p2,p3,p4,p5,p6,p7,p8,p9,p10,p11⟩:=B2.c12;have lp:=B2.lt) | (go_at_call 68;(with_reducible refine zc (KC _ (Lv P.c)) ?_);rintro e w3 ⟨rfl,h1⟩;replace E:=E.trans h1;replace C:=C.ext h1;replace P:=P.ext h1;replace B1:=B1.ext h1;replace B2:=B2.ext h1;clear h1 k0 k1 lk p0 p1 p2 p3 p4 p5 p6 p7 p8 p9 p10 p11 lp;obtain ⟨k0,k1⟩:=B1.c2;have lk:=B1.lt;obtain ⟨p0,p1,p2,p3,p4,p5,p6,p7,p8,p9,p10,p11⟩:=B2.c12;have lp:=B2.lt))
  go_ret;exact ⟨by rw [hr];rfl,E⟩
 subst hz;by_cases hz : p.d.length ≤ 64;rotate_left
 ·have hr:=hbad.out (by rw [HH.out,decide_eq_false hz,Bool.and_false]);have d1 : decide ((64 : Int) < (p.d.length : Int)) = true:=decide_eq_true Qa;clear HH hbad HR hnm heo hec hz;go_wp2_with (first | (go_at_call 120;(with_reducible refine zc (NN _) ?_);rintro e wn ⟨rfl,rfl⟩) | (go_at_call 91;(with_reducible refine zc (NS _ C) ?_);rintro e w1 ⟨rfl,h1⟩;replace E:=E.trans h1;replace C:=C.ext h1;replace P:=P.ext h1;replace B1:=B1.ext h1;replace B2:=B2.ext h1;clear h1 k0 k1 lk p0 p1 p2 p3 p4 p5 p6 p7 p8 p9 p10 p11 lp;obtain ⟨k0,k1⟩:=B1.c2;have lk:=B1.lt;obtain ⟨p0,p1,p2,p3,p4,p5,p6,p7,p8,p9,p10,p11⟩:=B2.c12;have lp:=B2.lt) | (go_at_call 68;(with_reducible refine zc (KO _ (Lv P.o)) ?_);rintro e w2 ⟨rfl,h1⟩;replace E:=E.trans h1;replace C:=C.ext h1;replace P:=P.ext h1;replace B1:=B1.ext h1;replace B2:=B2.ext h1;clear h1 k0 k1 lk p0 p1 p2 p3 p4 p5 p6 p7 p8 p9 p10 p11 lp;obtain ⟨k0,k1⟩:=B1.c2;have lk:=B1.lt;obtain ⟨p0,p1,p2,p3,p4,p5,p6,p7,p8,p9,p10,p11⟩:=B2.c12;have lp:=B2.lt) | (go_at_call 68;(with_reducible refine zc (KC _ (Lv P.c)) ?_);rintro e w3 ⟨rfl,h1⟩;replace E:=E.trans h1;replace C:=C.ext h1;replace P:=P.ext h1;replace B1:=B1.ext h1;replace B2:=B2.ext h1;clear h1 k0 k1 lk p0 p1 p2 p3 p4 p5 p6 p7 p8 p9 p10 p11 lp;obtain ⟨k0,k1⟩:=B1.c2;have lk:=B1.lt;obtain ⟨p0,p1,p2,p3,p4,p5,p6,p7,p8,p9,p10,p11⟩:=B2.c12;have lp:=B2.lt))
  go_ret;exact ⟨by rw [hr];rfl,E⟩
 have hh : c.perHead p = true:=by rw [HH.out,decide_eq_true hz];rfl
 have HR2 : Hid (R = (List.range p.d.length).all (c.dealOk p)):=by unfold Hid;rw [HR.out];unfold Qd.perOk;rw [hh];rfl
 have d1 : decide ((64 : Int) < (p.d.length : Int)) = false:=decide_eq_false Qa;clear HH hbad HR hnm heo hec hz hh;have NA:=fun w h => Yy A A' ca cb c p.a w h
 have NB:=fun w h => Yy A A' ca cb c p.b w h
 go_upto_region 3 with (first | (go_at_call 120;(with_reducible refine zc (NN _) ?_);rintro e wn ⟨rfl,rfl⟩) | (go_at_call 91;(with_reducible refine zc (NS _ C) ?_);rintro e w1 ⟨rfl,h1⟩;replace E:=E.trans h1;replace C:=C.ext h1;replace P:=P.ext h1;replace B1:=B1.ext h1;replace B2:=B2.ext h1;clear h1 k0 k1 lk p0 p1 p2 p3 p4 p5 p6 p7 p8 p9 p10 p11 lp;obtain ⟨k0,k1⟩:=B1.c2;have lk:=B1.lt;obtain ⟨p0,p1,p2,p3,p4,p5,p6,p7,p8,p9,p10,p11⟩:=B2.c12;have lp:=B2.lt) | (go_at_call 68;(with_reducible refine zc (KO _ (Lv P.o)) ?_);rintro e w2 ⟨rfl,h1⟩;replace E:=E.trans h1;replace C:=C.ext h1;replace P:=P.ext h1;replace B1:=B1.ext h1;replace B2:=B2.ext h1;clear h1 k0 k1 lk p0 p1 p2 p3 p4 p5 p6 p7 p8 p9 p10 p11 lp;obtain ⟨k0,k1⟩:=B1.c2;have lk:=B1.lt;obtain ⟨p0,p1,p2,p3,p4,p5,p6,p7,p8,p9,p10,p11⟩:=B2.c12;have lp:=B2.lt) | (go_at_call 68;(with_reducible refine zc (KC _ (Lv P.c)) ?_);rintro e w3 ⟨rfl,h1⟩;replace E:=E.trans h1;replace C:=C.ext h1;replace P:=P.ext h1;replace B1:=B1.ext h1;replace B2:=B2.ext h1;clear h1 k0 k1 lk p0 p1 p2 p3 p4 p5 p6 p7 p8 p9 p10 p11 lp;obtain ⟨k0,k1⟩:=B1.c2;have lk:=B1.lt;obtain ⟨p0,p1,p2,p3,p4,p5,p6,p7,p8,p9,p10,p11⟩:=B2.c12;have lp:=B2.lt))
 clear NS KO KC NN;have n1:=fun u : XW _ => NA _ (C.ext u.e)
 have n2:=fun u : XW _ => NB _ (C.ext u.e)
 refine Zo w3 ?_;intro vl hvl;clear n1 n2;obtain ⟨hcbvl,hfbvl,hzbvl,hzvl⟩:=Zn w3 hvl;replace E:=E.trans hvl;replace C:=C.ext hvl;replace P:=P.ext hvl;replace B1:=B1.ext hvl;replace B2:=B2.ext hvl;clear k0 k1 lk p0 p1 p2 p3 p4 p5 p6 p7 p8 p9 p10 p11 lp NA NB;obtain ⟨p0,p1,p2,p3,p4,p5,p6,p7,p8,p9,p10,p11⟩:=B2.c12;have lp:=B2.lt;go_upto_region 5 with (fail)
 clear p0 p1 p2 p3 p4 p5 p6 p7 p8 p9 p10 p11 lp;obtain ⟨n,hnl⟩:=Qf (p.d.length);rw [← hnl] at nd d1 HR2 ⊢;replace hnl:=Lib.hid hnl;obtain ⟨_,_,vs',e1,hD,_,_,_,hat⟩:=P.d;cases e1
 rw [← hnl.out] at hD hat;replace hD : Qs vl TD n 7 (fun i => Zr (p.dl i) (vs' i)):=hD;replace hat : Hid (∀ i,i < n → Zq vl (vs' i) (p.dl i).l):=hat;clear P
 go_loopw [5,52] (fun lv iv wr => ∃ k : Nat,k ≤ n ∧ iv = .int .i64 k ∧ lv = .int .i64 (c.lastD p k) ∧ Hid (∀ j,j < k → c.dealOk p j = true) ∧ Qb vl wr) (fun _ i _ => n - (intOf i).toNat)
 case atStart => exact ⟨0,Nat.zero_le _,rfl,rfl,(fun j h => absurd h Qa),Qb.refl _⟩
 case round =>
  obtain ⟨k,hk,rfl,rfl,hall,hE⟩:=hrel;obtain ⟨wo,rfl⟩:=Qf wr;by_cases hlt : k < n
  ·obtain ⟨b, off, rfl, hb, hc⟩ := (hD.ext hE) Qa;have hL := (hat.out k hlt).ext hE;have c0 : wo.cell? ⟨b, off + k * 7, none⟩ = some (.int .i64 (p.dl k).on.y) := by simpa [Zr] using hc k 0 _ hlt rfl
   have c1 : wo.cell? ⟨b,off + k * 7 + 1,none⟩ = some (.int .i64 (p.dl k).on.m):=by simpa [Zr] using hc k 1 _ hlt rfl
   have c2 : wo.cell? ⟨b,off + k * 7 + 2,none⟩ = some (.bool (p.dl k).on.s):=by simpa [Zr] using hc k 2 _ hlt rfl
   have c3 : wo.cell? ⟨b,off + k * 7 + 3,none⟩ = some (.int .i64 (p.dl k).on.d):=by simpa [Zr] using hc k 3 _ hlt rfl
   have c4 : wo.cell? ⟨b,off + k * 7 + 4,none⟩ = some (.bool (p.dl k).i):=by simpa [Zr] using hc k 4 _ hlt rfl
   have c5 : wo.cell? ⟨b,off + k * 7 + 5,none⟩ = some (.string (p.dl k).w):=by simpa [Zr] using hc k 5 _ hlt rfl
   have c6 : wo.cell? ⟨b,off + k * 7 + 6,none⟩ = some (vs' k):=by simpa [Zr] using hc k 6 _ hlt rfl
   have NG:=fun w h => Qh1 (vs' k) (p.dl k).l w h
   have ND:=fun w h => Yy A A' ca cb c (p.dl k).on w h
   have NN:=fun w => Kt (p.dl k).w w
   have HK : Hid (c.dealOk p k = !(decide (c.numV (p.dl k).on < c.lastD p k) || decide (c.numV p.b < c.numV (p.dl k).on) || !Z9 (p.dl k).w || ((p.dl k).w.toList == p.h.toList) || !Uw (p.dl k).l)):=by
    unfold Hid;rw [Qg3,Hq]
   have hno : Hid (c.dealOk p k = false → R = false):=fun h => by
    rw [HR2.out];exact List.all_eq_false.2 ⟨k,by simpa using hlt,by simp [h]⟩
   have hyes : Hid (c.dealOk p k = true → ∀ j,j < k + 1 → c.dealOk p j = true):=fun h j hj => by
    by_cases e : j = k
    ·subst e;exact h
    ·exact hall.out j Qa
   have hlo : Hid (c.lastD p (k + 1) = c.numV (p.dl k).on):=rfl;obtain ⟨VL,hvl⟩:=Qf (vs' k);rw [← hvl] at c6 NG hL;clear hvl hc hall HR2 hD hat;obtain ⟨TL,cl,hVL,_⟩:=id hL;subst hVL;generalize c.dealOk p k = dk at *;generalize c.lastD p k = L0 at *;generalize c.numV (p.dl k).on = L1 at *;generalize c.numV p.b = L2 at *;generalize Z9 (p.dl k).w = nm at *;generalize hse : ((p.dl k).w.toList == p.h.toList) = se at *;generalize Uw (p.dl k).l = gv1 at *;go_upto_region 7 with (fail)
   obtain ⟨v3,hv⟩:=Qf (wo.alloc (.cells #[.int .i64 (p.dl k).on.y,.int .i64 (p.dl k).on.m,.bool (p.dl k).on.s,.int .i64 (p.dl k).on.d,.bool (p.dl k).i,.string (p.dl k).w,.slice TL (p.dl k).l.length cl] 57));rw [← hv];have E3 : Qb wo v3:=by rw [hv];exact (Qb.refl _).alloc _
   have H3 : Qc v3 wo.heap.size 57 #[.int .i64 (p.dl k).on.y,.int .i64 (p.dl k).on.m,.bool (p.dl k).on.s,.int .i64 (p.dl k).on.d,.bool (p.dl k).i,.string (p.dl k).w,.slice TL (p.dl k).l.length cl]:=by rw [hv];exact Qc.new _ _ _
   clear hv;generalize wo.heap.size = b3 at *;clear c0 c1 c2 c3 c4 c5 c6;replace hL:=hL.ext E3;replace hE:=hE.trans E3;clear E3;have B1e:=B1.ext hE;obtain ⟨k0,k1⟩:=B1e.c2;have lk:=B1e.lt;obtain ⟨q0,q1,q2,q3,q4,q5,q6⟩:=Gz H3;have lq:=H3.lt;go_upto_region 8 with (go_at_call 48;(with_reducible refine zc (ND _ (C.ext hE)) ?_);rintro e w4 ⟨rfl,h4⟩)
   replace hE:=hE.trans h4;replace H3:=H3.ext h4;replace hL:=hL.ext h4;clear h4 q0 q1 q2 q3 q4 q5 q6 lq k0 k1 lk B1e ND;obtain ⟨q0,q1,q2,q3,q4,q5,q6⟩:=Gz H3;have lq:=H3.lt;have B2e:=B2.ext hE;obtain ⟨p0,p1,p2,p3,p4,p5,p6,p7,p8,p9,p10,p11⟩:=B2e.c12;have lp:=B2e.lt;by_cases a1 : L1 < L0
   ·have g1 : decide (L1 < L0) = true:=decide_eq_true a1;have hr:=hno.out (by rw [HK.out,g1];rfl);clear HK hno hyes hlo a1 hse;go_wp2;go_ret;exact ⟨by rw [hr];rfl,E.trans hE⟩
   have g1 : decide (L1 < L0) = false:=decide_eq_false a1;rw [g1] at HK;clear a1;by_cases a2 : L2 < L1
   ·have g2 : decide (L2 < L1) = true:=decide_eq_true a2;have hr:=hno.out (by rw [HK.out,g2];rfl);clear HK hno hyes hlo a2 hse;go_wp2;go_ret;exact ⟨by rw [hr];rfl,E.trans hE⟩
   have g2 : decide (L2 < L1) = false:=decide_eq_false a2;rw [g2] at HK;clear a2;cases nm
   ·have hr:=hno.out (by rw [HK.out];rfl);clear HK hno hyes hlo hse;go_wp2_with (first | (go_at_call 120;(with_reducible refine zc (NN _) ?_);rintro e wn ⟨rfl,rfl⟩));go_ret;exact ⟨by rw [hr];rfl,E.trans hE⟩
   cases se
   rotate_left
   ·have hr:=hno.out (by rw [HK.out];rfl);clear HK hno hyes hlo;go_wp2_with (first | (go_at_call 120;(with_reducible refine zc (NN _) ?_);rintro e wn ⟨rfl,rfl⟩));go_ret;exact ⟨by rw [hr];rfl,E.trans hE⟩
   cases gv1
   ·have hr:=hno.out (by rw [HK.out];rfl);clear HK hno hyes hlo;go_wp2_with (first | (go_at_call 120;(with_reducible refine zc (NN _) ?_);rintro e wn ⟨rfl,rfl⟩) | (go_at_call 184;(with_reducible refine zc (NG _ hL) ?_);rintro e w6 ⟨rfl,h6⟩));go_ret;exact ⟨by rw [hr];rfl,(E.trans hE).trans h6⟩
   have hx:=Lib.hid (hyes.out (by rw [HK.out];rfl));clear HK hno hyes;go_wp2_with (first | (go_at_call 120;(with_reducible refine zc (NN _) ?_);rintro e wn ⟨rfl,rfl⟩) | (go_at_call 184;(with_reducible refine zc (NG _ hL) ?_);rintro e w6 ⟨rfl,h6⟩));exact ⟨⟨k + 1,by omega,by go_num,by rw [hlo.out],hx,hE.trans h6⟩,by simp [intOf];omega⟩
  ·obtain rfl : k = n := by omega
   have hr : R = true:=by
    rw [HR2.out];exact List.all_eq_true.2 fun j hj => hall.out j (by simpa using hj)
   clear HR2 hall;subst hr;go_wp2;go_ret;exact ⟨rfl,E.trans hE⟩
end
section
open Go Go.RowKit
theorem zp7 {w : World} {b off n k : Nat} {g : Nat → Dl} {vs : Nat → Value} (hc : ∀ i j v,i < n → (Zr (g i) (vs i))[j]? = some v → w.cell? ⟨b,off + i * 7 + j,none⟩ = some v) (hk : k < n) :
  w.cell? ⟨b,off + k * 7,none⟩ = some (.int .i64 (g k).on.y) ∧ w.cell? ⟨b,off + k * 7 + 1,none⟩ = some (.int .i64 (g k).on.m) ∧ w.cell? ⟨b,off + k * 7 + 2,none⟩ = some (.bool (g k).on.s) ∧ w.cell? ⟨b,off + k * 7 + 3,none⟩ = some (.int .i64 (g k).on.d) ∧ w.cell? ⟨b,off + k * 7 + 4,none⟩ = some (.bool (g k).i) ∧ w.cell? ⟨b,off + k * 7 + 5,none⟩ = some (.string (g k).w) ∧ w.cell? ⟨b,off + k * 7 + 6,none⟩ = some (vs k) :=
 ⟨hc k 0 _ hk rfl,hc k 1 _ hk rfl,hc k 2 _ hk rfl,hc k 3 _ hk rfl,hc k 4 _ hk rfl,hc k 5 _ hk rfl,hc k 6 _ hk rfl⟩
end
end Go.Proofs.YtoflcheopfppoaaGreatDoor

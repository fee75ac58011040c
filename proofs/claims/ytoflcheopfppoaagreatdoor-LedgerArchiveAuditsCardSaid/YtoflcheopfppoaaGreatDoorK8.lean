/- Walks and plain facts, packed; no conditions but those that each states. -/
import Derived.Test.YtoflcheopfppoaaGreatDoorK7
import Derived.Laws.EntriesVeiled
set_option maxRecDepth 100000
set_option maxHeartbeats 4000000
namespace Go.Proofs.YtoflcheopfppoaaGreatDoor
section
open Go Go.RowKit Go.Shelf
attribute [local go_sem] Z8
def Ub (x : Lt) : Prop:=-1099511627776 ≤ x.n ∧ x.n ≤ 1099511627776
def lenOf : Value → Nat
 | .slice _ n _ => n
 | _ => 0
theorem U4 {w : World} {base base' size n : Nat} {e : TypeId} {v : Value} {xs : List Value} (h : w.ownsRow base e size v n xs) (hb : base' ≤ base) : w.ownsRow base' e size v n xs :=
 ⟨h.1,h.2.elim Or.inl (fun ⟨g,cap,cur,hv,hg,r⟩ => Or.inr ⟨g,cap,cur,hv,Nat.le_trans hb hg,r⟩)⟩
theorem Mw (f : Nat → Lt) (n : Nat) : Q0 f (n + 1) = f 0 :: Q0 (fun t => f (t + 1)) n:=by
 unfold Q0;rw [List.range_succ_eq_map,List.map_cons,List.map_map];rfl
theorem Ry {w : World} {b off n : Nat} {f : Nat → Lt} (h : Qm w (some ⟨b,off,none⟩) (n + 1) 2 (Q5 f)) : Qm w (some ⟨b,off + 2,none⟩) n 2 (Q5 (fun t => f (t + 1))):=fun _ => by
 obtain ⟨b',off',hA,hb,hc⟩:=h Qa;obtain ⟨rfl,rfl⟩ : b = b' ∧ off = off':=by simpa using hA
 exact ⟨b,off + 2,rfl,hb,fun i j v hi hv => by
  have:=hc (i + 1) j v Qa hv;rw [show off + 2 + i * 2 + j = off + (i + 1) * 2 + j by omega];exact this⟩
theorem Qdy {q n m : Nat} {f g : Nat → Lt} (h : m = 0 ∨ Z5 (f 0).g (g 0).g = true) : J1 (q + 1) (Q0 f (n + 1)) (Q0 g m) = (f 0,Y2) :: J1 q (Q0 (fun t => f (t + 1)) n) (Q0 g m):=by
 rw [Mw]
 cases m with
 | zero => rfl
 | succ m => rw [Mw g m,J1,if_pos (h.resolve_left Qa)]
theorem Qdz {q n m : Nat} {f g : Nat → Lt} (h : n = 0 ∨ (Z5 (f 0).g (g 0).g = false ∧ Z5 (g 0).g (f 0).g = true)) : J1 (q + 1) (Q0 f n) (Q0 g (m + 1)) = (Y2,g 0) :: J1 q (Q0 f n) (Q0 (fun t => g (t + 1)) m):=by
 rw [Mw]
 cases n with
 | zero => rfl
 | succ n =>
  have h2:=h.resolve_left Qa;rw [Mw f n,J1,if_neg (by rw [h2.1];decide),if_pos h2.2]
theorem step_b {q n m : Nat} {f g : Nat → Lt} (h1 : Z5 (f 0).g (g 0).g = false) (h2 : Z5 (g 0).g (f 0).g = false) : J1 (q + 1) (Q0 f (n + 1)) (Q0 g (m + 1)) = (f 0,g 0) :: J1 q (Q0 (fun t => f (t + 1)) n) (Q0 (fun t => g (t + 1)) m):=by
 rw [Mw,Mw,J1,if_neg (by rw [h1];decide),if_neg (by rw [h2];decide)]
theorem Ho {sg : Int} {p : Lt × Lt} {L T : List (Lt × Lt)} {xs : List Value} (h : xs ++ (Yq sg (p :: L)).flatMap Jq = (Yq sg T).flatMap Jq) : (xs ++ (Vg sg p).flatMap Jq) ++ (Yq sg L).flatMap Jq = (Yq sg T).flatMap Jq:=by
 rw [← h];unfold Yq;rw [List.flatMap_cons,List.flatMap_append,List.append_assoc]
theorem N9 {sg : Int} {p : Lt × Lt} {L T : List (Lt × Lt)} (h : J5 sg (p :: L) = J5 sg T) (hp : Xq sg p.1 p.2 = true) : J5 sg L = J5 sg T:=by
 rw [← h];unfold J5;rw [List.all_cons,hp,Bool.true_and]
theorem N8 {sg : Int} {p : Lt × Lt} {L T : List (Lt × Lt)} (h : J5 sg (p :: L) = J5 sg T) (hp : Xq sg p.1 p.2 = false) : J5 sg T = false:=by
 rw [← h];unfold J5;rw [List.all_cons,hp,Bool.false_and]
theorem Ow (sg : Int) (p : Lt × Lt) : ((Vg sg p).flatMap Jq).length ≤ 2:=by
 unfold Vg;split <;> simp [Jq]
theorem sg_bd {sg n : Int} (hs : sg = 1 ∨ sg = -1) (h1 : -1099511627776 ≤ n) (h2 : n ≤ 1099511627776) : -1099511627776 ≤ sg * n ∧ sg * n ≤ 1099511627776:=by
 rcases hs with rfl | rfl <;> omega
theorem Ol {W : World} {b b' : Nat} {t t' : TypeId} {cs cs' : Array Value} (h : Qb W b t cs) (h' : Qb W b' t' cs') (hne : t ≠ t') : b ≠ b':=fun e => by
 subst e;have e:=(show W.heap[b]? = _ from h).symm.trans h';simp at e;exact hne e.2
theorem Hv (sg : Int) (hs : sg = 1 ∨ sg = -1) (x y : Lt) (hx : Ub x) (hy : Ub y) (B0 bs bo : Nat) (F : OA) (k cap : Nat) (xs : List Value) (w : World) (HS : Qb w bs 3 #[.int .i64 sg]) (HO : Qb w bo 52 #[.slice F k cap]) (hO : w.ownsRow B0 85 2 (.slice F k cap) k xs) (hk : k ≤ 1000) (hb0 : B0 ≤ w.heap.size) :
  Calls Tryz.prog 113 #[.agg #[.string x.g,.int .i64 x.n],.agg #[.string y.g,.int .i64 y.n],.pointer (some ⟨bs,0,none⟩),.pointer (some ⟨bo,0,none⟩)] w fun e w' => e = .returned (.bool (Xq sg x y)) ∧ Wk B0 bo w w' ∧ (Xq sg x y = true → ∃ F' k' cap',Qb w' bo 52 #[.slice F' k' cap'] ∧ w'.ownsRow B0 85 2 (.slice F' k' cap') k' (xs ++ (Vg sg (x,y)).flatMap Jq)):=by
 have h1:=sg_bd hs hy.1 hy.2;have h2:=hx.1;have h3:=hx.2;exact Ql8 sg x y B0 bs bo F k cap xs w HS HO hO hk hO.1 hb0 Qa Qa Qa Qa
theorem Tm : Ub ⟨⟨#[]⟩,0⟩:=by unfold Ub;decide
theorem Ql7 (m : Nat) : J1 m [] [] = []:=by cases m <;> rfl
def Ia (A : Nat → Nat → Nat → Nat → Act) (S : World → Nat → Nat → Nat → Nat → Prop) : Exit → Act → World → Prop:=fun e a' w' => e = .normal ∧ ∃ p q r s,S w' p q r s ∧ a' = A p q r s
theorem G6 {A : Nat → Nat → Nat → Nat → Act} {S : World → Nat → Nat → Nat → Nat → Prop} {w' : World} (p q r s : Nat) {a' : Act} (h : S w' p q r s) (ha : a' = A p q r s) : Ia A S .normal a' w':=⟨rfl,p,q,r,s,h,ha⟩
theorem Qo0 {P : Program} {c : Code} {Q : Exit → Act → World → Prop} {a : Act} {w : World} {A : Nat → Nat → Nat → Nat → Act} (S : World → Nat → Nat → Nat → Nat → Prop) (h1 : c.wp P (Ia A S) a w) (h2 : ∀ p q r s w',S w' p q r s → Q .normal (A p q r s) w') : c.wp P Q a w :=
 Code.wp_mono (fun e a' w' ⟨he,p,q,r,s,hs,ha⟩ => by subst he;subst ha;exact h2 p q r s w' hs) h1
def Ew (A : Nat → Nat → Act) (S : World → Nat → Nat → Prop) : Exit → Act → World → Prop:=fun e a' w' => e = .normal ∧ ∃ p q,S w' p q ∧ a' = A p q
theorem Jl {A : Nat → Nat → Act} {S : World → Nat → Nat → Prop} {w' : World} (p q : Nat) {a' : Act} (h : S w' p q) (ha : a' = A p q) : Ew A S .normal a' w':=⟨rfl,p,q,h,ha⟩
theorem Ul {P : Program} {c : Code} {Q : Exit → Act → World → Prop} {a : Act} {w : World} {A : Nat → Nat → Act} (S : World → Nat → Nat → Prop) (h1 : c.wp P (Ew A S) a w) (h2 : ∀ p q w',S w' p q → Q .normal (A p q) w') : c.wp P Q a w :=
 Code.wp_mono (fun e a' w' ⟨he,p,q,hs,ha⟩ => by subst he;subst ha;exact h2 p q w' hs) h1
theorem Qkp (W0 : World) (A B : OA) (n m ca cb : Nat) (f g : Nat → Lt) (sg : Int) (hsg : sg = 1 ∨ sg = -1) (hf : ∀ i,i < n → Ub (f i)) (hg : ∀ i,i < m → Ub (g i)) (hn : n ≤ 64) (hm : m ≤ 64) (hca : n ≤ ca) (hcb : m ≤ cb) (hA : Qm W0 A n 2 (Q5 f)) (hB : Qm W0 B m 2 (Q5 g)) (bs bo : Nat) (w : World) (hE : Qc W0 w) (hbo : W0.heap.size ≤ bo) (HS : Qb w bs 3 #[.int .i64 sg]) (HO : Qb w bo 52 #[.slice none 0 0]) :
  Calls Tryz.prog 111 #[.slice A n ca,.slice B m cb,.func (.func 112) #[] #[],.func (.func 113) #[] #[.pointer (some ⟨bs,0,none⟩),.pointer (some ⟨bo,0,none⟩)]] w fun e w' => e = .returned (.bool (J5 sg (Xu f n g m))) ∧ Qc W0 w' ∧ (J5 sg (Xu f n g m) = true → ∃ F k cap,Qb w' bo 52 #[.slice F k cap] ∧ w'.ownsRow W0.heap.size 85 2 (.slice F k cap) k ((Yq sg (Xu f n g m)).flatMap Jq)):=by
 obtain ⟨T,hT0⟩:=Qe (Xu f n g m);rw [← hT0];replace hT0:=zh hT0;replace hf:=zh hf;replace hg:=zh hg
 go_enter Tryz.func111,Tryz.ntmps111
 go_upto_region 2 with fail
 obtain ⟨v,b1,E,B9,hbr,hv,hb1⟩:=J4 w 85 #[.string ⟨#[]⟩,.int .i64 0];rw [← hv,← hb1];clear hv hb1;have hE0:=hE.trans E;have hbs0:=HS.lt;have hbo0:=HO.lt;replace HS:=HS.ext E;replace HO:=HO.ext E;have hW9 : W0.heap.size ≤ b1:=by have:=hE.size;omega
 have hbs : bs < b1 + 1:=Qa;have hbo9' : bo < b1:=Qa;clear E;obtain ⟨b9,hb9⟩:=Qe b1;rw [← hb9] at B9 hW9 hbs hbo9' ⊢;clear hb9
 go_loopw [0,1] (fun av bv wr => ∃ (n' m' q : Nat) (f' g' : Nat → Lt) (A' B' : OA) (ca' cb' : Nat),av = .slice A' n' ca' ∧ bv = .slice B' m' cb' ∧ n' + m' ≤ q ∧ n' ≤ ca' ∧ m' ≤ cb' ∧ Qm W0 A' n' 2 (Q5 f') ∧ Qm W0 B' m' 2 (Q5 g') ∧ Hid (∀ i,i < n' → Ub (f' i)) ∧ Hid (∀ i,i < m' → Ub (g' i)) ∧ Qc W0 wr ∧ Qb wr b9 85 #[.string ⟨#[]⟩,.int .i64 0] ∧ Qb wr bs 3 #[.int .i64 sg] ∧ b9 < wr.heap.size ∧ bs < b9 + 1 ∧ ∃ (F : OA) (k cap : Nat) (xs : List Value),Qb wr bo 52 #[.slice F k cap] ∧ wr.ownsRow (b9 + 1) 85 2 (.slice F k cap) k xs ∧ xs.length = k * 2 ∧ k + n' + m' ≤ 128 ∧ Hid (xs ++ (Yq sg (J1 q (Q0 f' n') (Q0 g' m'))).flatMap Jq = (Yq sg T).flatMap Jq) ∧ Hid (J5 sg (J1 q (Q0 f' n') (Q0 g' m')) = J5 sg T)) (fun av bv _ => lenOf av + lenOf bv)
 case atStart => exact ⟨n,m,n + m,f,g,A,B,ca,cb,rfl,rfl,Nat.le_refl _,hca,hcb,hA,hB,hf,hg,hE0,B9,HS,B9.lt,Qa,none,0,0,[],HO,World.ownsRow_nil _ _ _ _,rfl,Qa,by rw [List.nil_append];unfold Hid;rw [hT0.out];rfl,by unfold Hid;rw [hT0.out];rfl⟩
 case round =>
  clear hE0 B9 HS HO hf hg hA hB;obtain ⟨n',m',q,f',g',A',B',ca',cb',rfl,rfl,hq,hca',hcb',hA,hB,hf,hg,hE,H9,HS,l9,hbs9,F,k,cap,xs,HO,hO,hlen,hk,hout,hall⟩:=hrel;obtain ⟨wo,rfl⟩:=Qe wr;by_cases h0 : n' + m' = 0
  ·obtain ⟨rfl,rfl⟩ : n' = 0 ∧ m' = 0:=Qa;go_wp2;go_ret;have e1 : J1 q (Q0 f' 0) (Q0 g' 0) = []:=Ql7 q;refine ⟨Jo (by rw [← hall.out,e1];rfl),hE,fun _ => ⟨F,k,cap,HO,?_⟩⟩;have h2:=hout.out;rw [e1] at h2;rw [← h2,show (Yq sg ([] : List (Lt × Lt))).flatMap Jq = [] from rfl,List.append_nil];exact U4 hO Qa
  ·obtain ⟨q,rfl⟩ : ∃ j,q = j + 1:=⟨q - 1,Qa⟩;have hlen:=hO.1;by_cases hm0 : m' = 0
   ·subst hm0;obtain ⟨n', rfl⟩ : ∃ j, n' = j + 1 := ⟨n' - 1, Qa⟩;rw [Qdy (.inl rfl), show Y2 = ⟨⟨#[]⟩, 0⟩ from rfl] at hout hall;obtain ⟨b, off, rfl, hb, hc⟩ := hA Qa;have hA2 := Ry hA;have a0 : W0.cell? ⟨b, off, none⟩ = some (.string (f' 0).g) := by simpa using hc 0 0 _ Qa rfl
    have a1 : W0.cell? ⟨b,off + 1,none⟩ = some (.int .i64 (f' 0).n):=by simpa using hc 0 1 _ Qa rfl
    clear hc;go_upto_region 3 with fail
    apply Ul (S:=fun w' p1 p2 => Qc wo w' ∧ wo.heap.size ≤ p1 ∧ wo.heap.size ≤ p2 ∧ p1 ≠ p2 ∧ Qb w' p1 85 #[.string ⟨#[]⟩,.int .i64 0] ∧ Qb w' p2 85 #[.string ⟨#[]⟩,.int .i64 0])
    ·refine Zc 6 [5] (fun x => Qc wo x) mixed rfl ?_;intro vz hvz;have HC:=hvz;refine Qs (g:=4) [0,1] HC ?_
     constructor
     refine ⟨fun u hu => ?_,?_⟩
     ·obtain ⟨q0,q1,lq⟩:=Qb.d2 (H9.ext hu);exact Qk
     refine Zq 2 3 ?_ ?_
     ·go_wp2;obtain ⟨p1, wb, hbq, hwb, H10, HC', hx, gp1⟩ := Ql HC 85 #[.string ⟨#[]⟩, .int .i64 0];rw [← hbq, ← hwb];try have ne : p2 < p1 := by have := H11.lt; omega
      replace HC:=HC';try replace H11:=H11.ext hx
      clear hbq hwb hx HC';refine Qf HC ?_;refine Qj 3 ?_;go_wp2;obtain ⟨p2,wb,hbq,hwb,H11,HC',hx,gp2⟩:=Ql HC 85 #[.string ⟨#[]⟩,.int .i64 0];rw [← hbq,← hwb];try have ne : p1 < p2:=by have:=H10.lt;omega
      replace HC:=HC';try replace H10:=H10.ext hx
      clear hbq hwb hx HC';refine Qf HC ?_;refine Qj 4 ?_;obtain ⟨z0,z1,x0,x1,lx⟩:=Qb.e2 H10;go_wp2;have H10':=Qo H10 (.string ⟨#[]⟩) (.int .i64 0);have H11':=Qg (Qg H11 (show p2 ≠ p1 by omega) 0 (.string ⟨#[]⟩)) (show p2 ≠ p1 by omega) 1 (.int .i64 0);replace HC:=(HC.setCell (p:=⟨p1,0,none⟩) gp1 (.string ⟨#[]⟩)).setCell (p:=⟨p1,1,none⟩) gp1 (.int .i64 0);clear H10 H11 z0 z1 x0 x1 lx;generalize World.setCell _ _ _ = wq at *;refine Qf HC ?_;refine Qr 5 ?_;obtain ⟨z0,z1,x0,x1,lx⟩:=Qb.e2 H11';go_wp2;have H11:=Qo H11' (.string ⟨#[]⟩) (.int .i64 0);have H10:=Qg (Qg H10' (show p1 ≠ p2 by omega) 0 (.string ⟨#[]⟩)) (show p1 ≠ p2 by omega) 1 (.int .i64 0)
      replace HC:=(HC.setCell (p:=⟨p2,0,none⟩) gp2 (.string ⟨#[]⟩)).setCell (p:=⟨p2,1,none⟩) gp2 (.int .i64 0);clear H10' H11' z0 z1 x0 x1 lx;generalize World.setCell _ _ _ = wq at *;refine Qq ?_;refine Qx ?_;exact Jl p1 p2 ⟨HC,gp1,gp2,Qa,H10,H11⟩ rfl
     ·go_wp2;obtain ⟨p2, wb, hbq, hwb, H11, HC', hx, gp2⟩ := Ql HC 85 #[.string ⟨#[]⟩, .int .i64 0];rw [← hbq, ← hwb];try have ne : p1 < p2 := by have := H10.lt; omega
      replace HC:=HC';try replace H10:=H10.ext hx
      clear hbq hwb hx HC';refine Qf HC ?_;refine Qj 2 ?_;go_wp2;obtain ⟨p1,wb,hbq,hwb,H10,HC',hx,gp1⟩:=Ql HC 85 #[.string ⟨#[]⟩,.int .i64 0];rw [← hbq,← hwb];try have ne : p2 < p1:=by have:=H11.lt;omega
      replace HC:=HC';try replace H11:=H11.ext hx
      clear hbq hwb hx HC';refine Qf HC ?_;refine Qj 4 ?_;obtain ⟨z0,z1,x0,x1,lx⟩:=Qb.e2 H10;go_wp2;have H10':=Qo H10 (.string ⟨#[]⟩) (.int .i64 0);have H11':=Qg (Qg H11 (show p2 ≠ p1 by omega) 0 (.string ⟨#[]⟩)) (show p2 ≠ p1 by omega) 1 (.int .i64 0);replace HC:=(HC.setCell (p:=⟨p1,0,none⟩) gp1 (.string ⟨#[]⟩)).setCell (p:=⟨p1,1,none⟩) gp1 (.int .i64 0);clear H10 H11 z0 z1 x0 x1 lx;generalize World.setCell _ _ _ = wq at *;refine Qf HC ?_;refine Qr 5 ?_;obtain ⟨z0,z1,x0,x1,lx⟩:=Qb.e2 H11';go_wp2;have H11:=Qo H11' (.string ⟨#[]⟩) (.int .i64 0);have H10:=Qg (Qg H10' (show p1 ≠ p2 by omega) 0 (.string ⟨#[]⟩)) (show p1 ≠ p2 by omega) 1 (.int .i64 0)
      replace HC:=(HC.setCell (p:=⟨p2,0,none⟩) gp2 (.string ⟨#[]⟩)).setCell (p:=⟨p2,1,none⟩) gp2 (.int .i64 0);clear H10' H11' z0 z1 x0 x1 lx;generalize World.setCell _ _ _ = wq at *;refine Qq ?_;refine Qx ?_;exact Jl p1 p2 ⟨HC,gp1,gp2,Qa,H10,H11⟩ rfl
    rintro p1 p2 w3 ⟨h3,gp1,gp2,ne,H10,H11⟩;go_upto_region 5 with fail
    refine Qy w3 ?_;intro w5 h5;obtain ⟨hcbw5,hfbw5,hzbw5,hzw5⟩:=Qv w3 h5;replace H10:=H10.ext h5;replace H11:=H11.ext h5;replace h5:=h3.trans h5;go_upto_region 6 with fail
    apply Ul (S:=fun w' o2 c2 => Qc wo w' ∧ Qb w' p1 85 #[.string (f' 0).g,.int .i64 (f' 0).n] ∧ Qb w' p2 85 #[.string ⟨#[]⟩,.int .i64 0] ∧ Qm W0 (some ⟨b,o2,none⟩) n' 2 (Q5 (fun t => f' (t + 1))) ∧ n' ≤ c2)
    ·by_cases hc1 : ca' = 1;rotate_left
     ·refine Zc 7 [6] (fun x => Qc wo x) mixed rfl ?_;intro vz hvz;have HC:=h5.trans hvz;replace H10:=H10.ext hvz;replace H11:=H11.ext hvz;refine Qs (g:=3) [0,1,2,3] HC ?_
      constructor
      refine ⟨fun u hu => ?_,?_⟩
      ·have a0':=((hE.trans hu).cell (p:=⟨b,off,none⟩) hb).trans a0;have a1':=((hE.trans hu).cell (p:=⟨b,off + 1,none⟩) hb).trans a1;have lb:=Nat.lt_of_lt_of_le hb (hE.trans hu).size;exact Qk
      refine Zq 4 5 ?_ ?_
      ·go_wp2;refine Qf HC ?_;refine Qj 5 ?_;obtain ⟨z0,z1,x0,x1,lx⟩:=Qb.e2 H10;go_wp2;have H10':=Qo H10 (.string (f' 0).g) (.int .i64 (f' 0).n);replace H11:=Qg (Qg H11 (Ne.symm ne) 0 (.string (f' 0).g)) (Ne.symm ne) 1 (.int .i64 (f' 0).n);replace HC:=(HC.setCell (p:=⟨p1,0,none⟩) gp1 (.string (f' 0).g)).setCell (p:=⟨p1,1,none⟩) gp1 (.int .i64 (f' 0).n);clear H10 z0 z1 x0 x1 lx;generalize World.setCell _ _ _ = wq at *;refine Qf HC ?_;refine Qr 6 ?_;go_wp2;refine Qq ?_;refine Qx ?_
       (obtain ⟨oo,hoo⟩ : ∃ x,x = off + 2:=⟨_,rfl⟩;obtain ⟨cc,hcc⟩ : ∃ x,x = ca' - 1:=⟨_,rfl⟩;rw [← hoo] at hA2;rw [← hoo,← hcc];exact Jl oo cc ⟨HC,H10',H11,hA2,Qa⟩ rfl)
      ·obtain ⟨z0,z1,x0,x1,lx⟩:=Qb.e2 H10;go_wp2;have H10':=Qo H10 (.string (f' 0).g) (.int .i64 (f' 0).n);replace H11:=Qg (Qg H11 (Ne.symm ne) 0 (.string (f' 0).g)) (Ne.symm ne) 1 (.int .i64 (f' 0).n);replace HC:=(HC.setCell (p:=⟨p1,0,none⟩) gp1 (.string (f' 0).g)).setCell (p:=⟨p1,1,none⟩) gp1 (.int .i64 (f' 0).n);clear H10 z0 z1 x0 x1 lx;generalize World.setCell _ _ _ = wq at *;refine Qf HC ?_;refine Qj 4 ?_;go_wp2;refine Qf HC ?_;refine Qr 6 ?_;go_wp2;refine Qq ?_;refine Qx ?_
       (obtain ⟨oo,hoo⟩ : ∃ x,x = off + 2:=⟨_,rfl⟩;obtain ⟨cc,hcc⟩ : ∃ x,x = ca' - 1:=⟨_,rfl⟩;rw [← hoo] at hA2;rw [← hoo,← hcc];exact Jl oo cc ⟨HC,H10',H11,hA2,Qa⟩ rfl)
     ·subst hc1;obtain rfl : n' = 0:=Qa;refine Zc 7 [6] (fun x => Qc wo x) mixed rfl ?_;intro vz hvz;have HC:=h5.trans hvz;replace H10:=H10.ext hvz;replace H11:=H11.ext hvz;refine Qs (g:=3) [0,1,2,3] HC ?_
      constructor
      refine ⟨fun u hu => ?_,?_⟩
      ·have a0':=((hE.trans hu).cell (p:=⟨b,off,none⟩) hb).trans a0;have a1':=((hE.trans hu).cell (p:=⟨b,off + 1,none⟩) hb).trans a1;have lb:=Nat.lt_of_lt_of_le hb (hE.trans hu).size;exact Qk
      refine Zq 4 5 ?_ ?_
      ·go_wp2;refine Qf HC ?_;refine Qj 5 ?_;obtain ⟨z0,z1,x0,x1,lx⟩:=Qb.e2 H10;go_wp2;have H10':=Qo H10 (.string (f' 0).g) (.int .i64 (f' 0).n);replace H11:=Qg (Qg H11 (Ne.symm ne) 0 (.string (f' 0).g)) (Ne.symm ne) 1 (.int .i64 (f' 0).n);replace HC:=(HC.setCell (p:=⟨p1,0,none⟩) gp1 (.string (f' 0).g)).setCell (p:=⟨p1,1,none⟩) gp1 (.int .i64 (f' 0).n);clear H10 z0 z1 x0 x1 lx;generalize World.setCell _ _ _ = wq at *;refine Qf HC ?_;refine Qr 6 ?_;go_wp2;refine Qq ?_;refine Qx ?_;exact Jl off 0 ⟨HC,H10',H11,Qm.nil,Nat.le_refl _⟩ rfl
      ·obtain ⟨z0,z1,x0,x1,lx⟩:=Qb.e2 H10;go_wp2;have H10':=Qo H10 (.string (f' 0).g) (.int .i64 (f' 0).n);replace H11:=Qg (Qg H11 (Ne.symm ne) 0 (.string (f' 0).g)) (Ne.symm ne) 1 (.int .i64 (f' 0).n);replace HC:=(HC.setCell (p:=⟨p1,0,none⟩) gp1 (.string (f' 0).g)).setCell (p:=⟨p1,1,none⟩) gp1 (.int .i64 (f' 0).n);clear H10 z0 z1 x0 x1 lx;generalize World.setCell _ _ _ = wq at *;refine Qf HC ?_;refine Qj 4 ?_;go_wp2;refine Qf HC ?_;refine Qr 6 ?_;go_wp2;refine Qq ?_;refine Qx ?_;exact Jl off 0 ⟨HC,H10',H11,Qm.nil,Nat.le_refl _⟩ rfl
    rintro o2 c2 w6 ⟨h6,H10,H11,hA3,hc3⟩;clear hA hA2 a0 a1;have NP:=Hv sg hsg (f' 0) ⟨⟨#[]⟩,0⟩ (hf.out 0 Qa) (Tm) (b9 + 1) bs bo F k cap xs w6 (HS.ext h6) (HO.ext h6) (J0 hO h6) Qa (by have:=h6.size;omega);obtain ⟨x0,x1,lx⟩:=Qb.d2 H10;obtain ⟨y0,y1,ly⟩:=Qb.d2 H11;have hkl:=Ow sg ((f' 0),⟨⟨#[]⟩,0⟩);cases hr : Xq sg (f' 0) ⟨⟨#[]⟩,0⟩
    ·rw [hr] at NP;have hno:=N8 hall.out hr;clear hall hout hr;go_wp2_with (first | (go_at_call 113;(with_reducible refine zc (NP) ?_);rintro e w9 ⟨rfl,HP,HQ⟩) | (go_at_fn 113;(with_reducible refine zc (NP) ?_);rintro e w9 ⟨rfl,HP,HQ⟩));go_ret;exact ⟨Jo hno.symm,HP.ext W0 (hE.trans h6) hbo Qa,fun h => by rw [hno] at h;cases h⟩
    ·rw [hr] at NP;have hyes:=zh (N9 hall.out hr);have hout2:=zh (Ho hout.out);clear hall hout hr;go_wp2_with (first | (go_at_call 113;(with_reducible refine zc (NP) ?_);rintro e w9 ⟨rfl,HP,HQ⟩) | (go_at_fn 113;(with_reducible refine zc (NP) ?_);rintro e w9 ⟨rfl,HP,HQ⟩));obtain ⟨F2,k2,cap2,HO2,hO2⟩:=HQ (by trivial);have hl2:=hO2.1;rw [List.length_append] at hl2;have hE9:=HP.ext W0 (hE.trans h6) hbo Qa;exact ⟨⟨n',0,q,(fun t => f' (t + 1)),g',some ⟨b,o2,none⟩,B',c2,cb',rfl,rfl,Qa,Qa,Qa,hA3,hB,zh (fun i hi => hf.out (i + 1) Qa),hg,hE9,HP.held _ _ _ (H9.ext h6) Qa Qa,HP.held _ _ _ (HS.ext h6) (Ol (HS.ext h6) (HO.ext h6) zD) hbs9,(HP.held _ _ _ (H9.ext h6) Qa Qa).lt,hbs9,F2,k2,cap2,_,HO2,hO2,hO2.1,Qa,hout2,hyes⟩,by simp [lenOf] <;> omega⟩
   ·obtain ⟨m',rfl⟩ : ∃ j,m' = j + 1:=⟨m' - 1,Qa⟩;have zb1 : (((m' : Int) + 1) == 0) = false:=zb Qa;by_cases hn0 : n' = 0
    ·subst hn0;rw [Qdz (.inl rfl), show Y2 = ⟨⟨#[]⟩, 0⟩ from rfl] at hout hall;obtain ⟨d, doff, rfl, hd, hcd⟩ := hB Qa;have hB2 := Ry hB;have e0 : W0.cell? ⟨d, doff, none⟩ = some (.string (g' 0).g) := by simpa using hcd 0 0 _ Qa rfl
     have e1 : W0.cell? ⟨d,doff + 1,none⟩ = some (.int .i64 (g' 0).n):=by simpa using hcd 0 1 _ Qa rfl
     clear hcd;go_upto_region 3 with fail
     apply Ul (S:=fun w' p1 p2 => Qc wo w' ∧ wo.heap.size ≤ p1 ∧ wo.heap.size ≤ p2 ∧ p1 ≠ p2 ∧ Qb w' p1 85 #[.string ⟨#[]⟩,.int .i64 0] ∧ Qb w' p2 85 #[.string ⟨#[]⟩,.int .i64 0])
     ·refine Zc 6 [5] (fun x => Qc wo x) mixed rfl ?_;intro vz hvz;have HC:=hvz;refine Qs (g:=4) [0,1] HC ?_
      constructor
      refine ⟨fun u hu => ?_,?_⟩
      ·obtain ⟨q0,q1,lq⟩:=Qb.d2 (H9.ext hu);exact Qk
      refine Zq 2 3 ?_ ?_
      ·go_wp2;obtain ⟨p1, wb, hbq, hwb, H10, HC', hx, gp1⟩ := Ql HC 85 #[.string ⟨#[]⟩, .int .i64 0];rw [← hbq, ← hwb];try have ne : p2 < p1 := by have := H11.lt; omega
       replace HC:=HC';try replace H11:=H11.ext hx
       clear hbq hwb hx HC';refine Qf HC ?_;refine Qj 3 ?_;go_wp2;obtain ⟨p2,wb,hbq,hwb,H11,HC',hx,gp2⟩:=Ql HC 85 #[.string ⟨#[]⟩,.int .i64 0];rw [← hbq,← hwb];try have ne : p1 < p2:=by have:=H10.lt;omega
       replace HC:=HC';try replace H10:=H10.ext hx
       clear hbq hwb hx HC';refine Qf HC ?_;refine Qj 4 ?_;obtain ⟨z0,z1,x0,x1,lx⟩:=Qb.e2 H10;go_wp2;have H10':=Qo H10 (.string ⟨#[]⟩) (.int .i64 0);have H11':=Qg (Qg H11 (show p2 ≠ p1 by omega) 0 (.string ⟨#[]⟩)) (show p2 ≠ p1 by omega) 1 (.int .i64 0);replace HC:=(HC.setCell (p:=⟨p1,0,none⟩) gp1 (.string ⟨#[]⟩)).setCell (p:=⟨p1,1,none⟩) gp1 (.int .i64 0);clear H10 H11 z0 z1 x0 x1 lx;generalize World.setCell _ _ _ = wq at *;refine Qf HC ?_;refine Qr 5 ?_;obtain ⟨z0,z1,x0,x1,lx⟩:=Qb.e2 H11';go_wp2;have H11:=Qo H11' (.string ⟨#[]⟩) (.int .i64 0);have H10:=Qg (Qg H10' (show p1 ≠ p2 by omega) 0 (.string ⟨#[]⟩)) (show p1 ≠ p2 by omega) 1 (.int .i64 0)
       replace HC:=(HC.setCell (p:=⟨p2,0,none⟩) gp2 (.string ⟨#[]⟩)).setCell (p:=⟨p2,1,none⟩) gp2 (.int .i64 0);clear H10' H11' z0 z1 x0 x1 lx;generalize World.setCell _ _ _ = wq at *;refine Qq ?_;refine Qx ?_;exact Jl p1 p2 ⟨HC,gp1,gp2,Qa,H10,H11⟩ rfl
      ·go_wp2;obtain ⟨p2, wb, hbq, hwb, H11, HC', hx, gp2⟩ := Ql HC 85 #[.string ⟨#[]⟩, .int .i64 0];rw [← hbq, ← hwb];try have ne : p1 < p2 := by have := H10.lt; omega
       replace HC:=HC';try replace H10:=H10.ext hx
       clear hbq hwb hx HC';refine Qf HC ?_;refine Qj 2 ?_;go_wp2;obtain ⟨p1,wb,hbq,hwb,H10,HC',hx,gp1⟩:=Ql HC 85 #[.string ⟨#[]⟩,.int .i64 0];rw [← hbq,← hwb];try have ne : p2 < p1:=by have:=H11.lt;omega
       replace HC:=HC';try replace H11:=H11.ext hx
       clear hbq hwb hx HC';refine Qf HC ?_;refine Qj 4 ?_;obtain ⟨z0,z1,x0,x1,lx⟩:=Qb.e2 H10;go_wp2;have H10':=Qo H10 (.string ⟨#[]⟩) (.int .i64 0);have H11':=Qg (Qg H11 (show p2 ≠ p1 by omega) 0 (.string ⟨#[]⟩)) (show p2 ≠ p1 by omega) 1 (.int .i64 0);replace HC:=(HC.setCell (p:=⟨p1,0,none⟩) gp1 (.string ⟨#[]⟩)).setCell (p:=⟨p1,1,none⟩) gp1 (.int .i64 0);clear H10 H11 z0 z1 x0 x1 lx;generalize World.setCell _ _ _ = wq at *;refine Qf HC ?_;refine Qr 5 ?_;obtain ⟨z0,z1,x0,x1,lx⟩:=Qb.e2 H11';go_wp2;have H11:=Qo H11' (.string ⟨#[]⟩) (.int .i64 0);have H10:=Qg (Qg H10' (show p1 ≠ p2 by omega) 0 (.string ⟨#[]⟩)) (show p1 ≠ p2 by omega) 1 (.int .i64 0)
       replace HC:=(HC.setCell (p:=⟨p2,0,none⟩) gp2 (.string ⟨#[]⟩)).setCell (p:=⟨p2,1,none⟩) gp2 (.int .i64 0);clear H10' H11' z0 z1 x0 x1 lx;generalize World.setCell _ _ _ = wq at *;refine Qq ?_;refine Qx ?_;exact Jl p1 p2 ⟨HC,gp1,gp2,Qa,H10,H11⟩ rfl
     rintro p1 p2 w3 ⟨h3,gp1,gp2,ne,H10,H11⟩;go_upto_region 5 with fail
     refine Qy w3 ?_;intro w5 hh;obtain ⟨hcbw5,hfbw5,hzbw5,hzw5⟩:=Qv w3 hh;replace H10:=H10.ext hh;replace H11:=H11.ext hh;have h5:=h3.trans hh;go_upto_region 7 with fail
     refine Qy w5 ?_;intro w7 hk7;obtain ⟨hcbw7,hfbw7,hzbw7,hzw7⟩:=Qv w5 hk7;replace H10:=H10.ext hk7;replace H11:=H11.ext hk7;replace h5:=h5.trans hk7;go_upto_region 8 with fail
     apply Ul (S:=fun w' o2 c2 => Qc wo w' ∧ Qb w' p1 85 #[.string ⟨#[]⟩,.int .i64 0] ∧ Qb w' p2 85 #[.string (g' 0).g,.int .i64 (g' 0).n] ∧ Qm W0 (some ⟨d,o2,none⟩) m' 2 (Q5 (fun t => g' (t + 1))) ∧ m' ≤ c2)
     ·by_cases hc1 : cb' = 1;rotate_left
      ·refine Zc 7 [6] (fun x => Qc wo x) mixed rfl ?_;intro vz hvz;have HC:=h5.trans hvz;replace H10:=H10.ext hvz;replace H11:=H11.ext hvz;refine Qs (g:=3) [0,1,2,3] HC ?_
       constructor
       refine ⟨fun u hu => ?_,?_⟩
       ·have e0':=((hE.trans hu).cell (p:=⟨d,doff,none⟩) hd).trans e0;have e1':=((hE.trans hu).cell (p:=⟨d,doff + 1,none⟩) hd).trans e1;have ld:=Nat.lt_of_lt_of_le hd (hE.trans hu).size;exact Qk
       refine Zq 4 5 ?_ ?_
       ·go_wp2;refine Qf HC ?_;refine Qj 5 ?_;obtain ⟨z0,z1,x0,x1,lx⟩:=Qb.e2 H11;go_wp2;have H11':=Qo H11 (.string (g' 0).g) (.int .i64 (g' 0).n);replace H10:=Qg (Qg H10 ne 0 (.string (g' 0).g)) ne 1 (.int .i64 (g' 0).n);replace HC:=(HC.setCell (p:=⟨p2,0,none⟩) gp2 (.string (g' 0).g)).setCell (p:=⟨p2,1,none⟩) gp2 (.int .i64 (g' 0).n);clear H11 z0 z1 x0 x1 lx;generalize World.setCell _ _ _ = wq at *;refine Qf HC ?_;refine Qr 6 ?_;go_wp2;refine Qq ?_;refine Qx ?_
        (obtain ⟨oo,hoo⟩ : ∃ x,x = doff + 2:=⟨_,rfl⟩;obtain ⟨cc,hcc⟩ : ∃ x,x = cb' - 1:=⟨_,rfl⟩;rw [← hoo] at hB2;rw [← hoo,← hcc];exact Jl oo cc ⟨HC,H10,H11',hB2,Qa⟩ rfl)
       ·obtain ⟨z0,z1,x0,x1,lx⟩:=Qb.e2 H11;go_wp2;have H11':=Qo H11 (.string (g' 0).g) (.int .i64 (g' 0).n);replace H10:=Qg (Qg H10 ne 0 (.string (g' 0).g)) ne 1 (.int .i64 (g' 0).n);replace HC:=(HC.setCell (p:=⟨p2,0,none⟩) gp2 (.string (g' 0).g)).setCell (p:=⟨p2,1,none⟩) gp2 (.int .i64 (g' 0).n);clear H11 z0 z1 x0 x1 lx;generalize World.setCell _ _ _ = wq at *;refine Qf HC ?_;refine Qj 4 ?_;go_wp2;refine Qf HC ?_;refine Qr 6 ?_;go_wp2;refine Qq ?_;refine Qx ?_
        (obtain ⟨oo,hoo⟩ : ∃ x,x = doff + 2:=⟨_,rfl⟩;obtain ⟨cc,hcc⟩ : ∃ x,x = cb' - 1:=⟨_,rfl⟩;rw [← hoo] at hB2;rw [← hoo,← hcc];exact Jl oo cc ⟨HC,H10,H11',hB2,Qa⟩ rfl)
      ·subst hc1;obtain rfl : m' = 0:=Qa;refine Zc 7 [6] (fun x => Qc wo x) mixed rfl ?_;intro vz hvz;have HC:=h5.trans hvz;replace H10:=H10.ext hvz;replace H11:=H11.ext hvz;refine Qs (g:=3) [0,1,2,3] HC ?_
       constructor
       refine ⟨fun u hu => ?_,?_⟩
       ·have e0':=((hE.trans hu).cell (p:=⟨d,doff,none⟩) hd).trans e0;have e1':=((hE.trans hu).cell (p:=⟨d,doff + 1,none⟩) hd).trans e1;have ld:=Nat.lt_of_lt_of_le hd (hE.trans hu).size;exact Qk
       refine Zq 4 5 ?_ ?_
       ·go_wp2;refine Qf HC ?_;refine Qj 5 ?_;obtain ⟨z0,z1,x0,x1,lx⟩:=Qb.e2 H11;go_wp2;have H11':=Qo H11 (.string (g' 0).g) (.int .i64 (g' 0).n);replace H10:=Qg (Qg H10 ne 0 (.string (g' 0).g)) ne 1 (.int .i64 (g' 0).n);replace HC:=(HC.setCell (p:=⟨p2,0,none⟩) gp2 (.string (g' 0).g)).setCell (p:=⟨p2,1,none⟩) gp2 (.int .i64 (g' 0).n);clear H11 z0 z1 x0 x1 lx;generalize World.setCell _ _ _ = wq at *;refine Qf HC ?_;refine Qr 6 ?_;go_wp2;refine Qq ?_;refine Qx ?_;exact Jl doff 0 ⟨HC,H10,H11',Qm.nil,Nat.le_refl _⟩ rfl
       ·obtain ⟨z0,z1,x0,x1,lx⟩:=Qb.e2 H11;go_wp2;have H11':=Qo H11 (.string (g' 0).g) (.int .i64 (g' 0).n);replace H10:=Qg (Qg H10 ne 0 (.string (g' 0).g)) ne 1 (.int .i64 (g' 0).n);replace HC:=(HC.setCell (p:=⟨p2,0,none⟩) gp2 (.string (g' 0).g)).setCell (p:=⟨p2,1,none⟩) gp2 (.int .i64 (g' 0).n);clear H11 z0 z1 x0 x1 lx;generalize World.setCell _ _ _ = wq at *;refine Qf HC ?_;refine Qj 4 ?_;go_wp2;refine Qf HC ?_;refine Qr 6 ?_;go_wp2;refine Qq ?_;refine Qx ?_;exact Jl doff 0 ⟨HC,H10,H11',Qm.nil,Nat.le_refl _⟩ rfl
     rintro o2 c2 w6 ⟨h6,H10,H11,hB3,hc3⟩;have NP:=Hv sg hsg ⟨⟨#[]⟩,0⟩ (g' 0) (Tm) (hg.out 0 Qa) (b9 + 1) bs bo F k cap xs w6 (HS.ext h6) (HO.ext h6) (J0 hO h6) Qa (by have:=h6.size;omega);obtain ⟨x0,x1,lx⟩:=Qb.d2 H10;obtain ⟨y0,y1,ly⟩:=Qb.d2 H11;have hkl:=Ow sg (⟨⟨#[]⟩,0⟩,(g' 0));cases hr : Xq sg ⟨⟨#[]⟩,0⟩ (g' 0)
     ·rw [hr] at NP;have hno:=N8 hall.out hr;clear hall hout hr;go_wp2_with (first | (go_at_call 113;(with_reducible refine zc (NP) ?_);rintro e w9 ⟨rfl,HP,HQ⟩) | (go_at_fn 113;(with_reducible refine zc (NP) ?_);rintro e w9 ⟨rfl,HP,HQ⟩));go_ret;exact ⟨Jo hno.symm,HP.ext W0 (hE.trans h6) hbo Qa,fun h => by rw [hno] at h;cases h⟩
     ·rw [hr] at NP;have hyes:=zh (N9 hall.out hr);have hout2:=zh (Ho hout.out);clear hall hout hr;go_wp2_with (first | (go_at_call 113;(with_reducible refine zc (NP) ?_);rintro e w9 ⟨rfl,HP,HQ⟩) | (go_at_fn 113;(with_reducible refine zc (NP) ?_);rintro e w9 ⟨rfl,HP,HQ⟩));obtain ⟨F2,k2,cap2,HO2,hO2⟩:=HQ (by trivial);have hl2:=hO2.1;rw [List.length_append] at hl2;have hE9:=HP.ext W0 (hE.trans h6) hbo Qa;exact ⟨⟨0,m',q,f',(fun t => g' (t + 1)),A',some ⟨d,o2,none⟩,ca',c2,rfl,rfl,Qa,Qa,Qa,hA,hB3,hf,zh (fun i hi => hg.out (i + 1) Qa),hE9,HP.held _ _ _ (H9.ext h6) Qa Qa,HP.held _ _ _ (HS.ext h6) (Ol (HS.ext h6) (HO.ext h6) zD) hbs9,(HP.held _ _ _ (H9.ext h6) Qa Qa).lt,hbs9,F2,k2,cap2,_,HO2,hO2,hO2.1,Qa,hout2,hyes⟩,by simp [lenOf] <;> omega⟩
    ·obtain ⟨n', rfl⟩ : ∃ j, n' = j + 1 := ⟨n' - 1, Qa⟩;have za1 : (((n' : Int) + 1) == 0) = false := zb Qa;obtain ⟨b, off, rfl, hb, hc⟩ := hA Qa;have hA2 := Ry hA;have a0 : W0.cell? ⟨b, off, none⟩ = some (.string (f' 0).g) := by simpa using hc 0 0 _ Qa rfl
     have a1 : W0.cell? ⟨b,off + 1,none⟩ = some (.int .i64 (f' 0).n):=by simpa using hc 0 1 _ Qa rfl
     clear hc;obtain ⟨d,doff,rfl,hd,hcd⟩:=hB Qa;have hB2:=Ry hB;have e0 : W0.cell? ⟨d,doff,none⟩ = some (.string (g' 0).g):=by simpa using hcd 0 0 _ Qa rfl
     have e1 : W0.cell? ⟨d,doff + 1,none⟩ = some (.int .i64 (g' 0).n):=by simpa using hcd 0 1 _ Qa rfl
     clear hcd;go_upto_region 3 with fail
     apply Ul (S:=fun w' p1 p2 => Qc wo w' ∧ wo.heap.size ≤ p1 ∧ wo.heap.size ≤ p2 ∧ p1 ≠ p2 ∧ Qb w' p1 85 #[.string ⟨#[]⟩,.int .i64 0] ∧ Qb w' p2 85 #[.string ⟨#[]⟩,.int .i64 0])
     ·refine Zc 6 [5] (fun x => Qc wo x) mixed rfl ?_;intro vz hvz;have HC:=hvz;refine Qs (g:=4) [0,1] HC ?_
      constructor
      refine ⟨fun u hu => ?_,?_⟩
      ·obtain ⟨q0,q1,lq⟩:=Qb.d2 (H9.ext hu);exact Qk
      refine Zq 2 3 ?_ ?_
      ·go_wp2;obtain ⟨p1, wb, hbq, hwb, H10, HC', hx, gp1⟩ := Ql HC 85 #[.string ⟨#[]⟩, .int .i64 0];rw [← hbq, ← hwb];try have ne : p2 < p1 := by have := H11.lt; omega
       replace HC:=HC';try replace H11:=H11.ext hx
       clear hbq hwb hx HC';refine Qf HC ?_;refine Qj 3 ?_;go_wp2;obtain ⟨p2,wb,hbq,hwb,H11,HC',hx,gp2⟩:=Ql HC 85 #[.string ⟨#[]⟩,.int .i64 0];rw [← hbq,← hwb];try have ne : p1 < p2:=by have:=H10.lt;omega
       replace HC:=HC';try replace H10:=H10.ext hx
       clear hbq hwb hx HC';refine Qf HC ?_;refine Qj 4 ?_;obtain ⟨z0,z1,x0,x1,lx⟩:=Qb.e2 H10;go_wp2;have H10':=Qo H10 (.string ⟨#[]⟩) (.int .i64 0);have H11':=Qg (Qg H11 (show p2 ≠ p1 by omega) 0 (.string ⟨#[]⟩)) (show p2 ≠ p1 by omega) 1 (.int .i64 0);replace HC:=(HC.setCell (p:=⟨p1,0,none⟩) gp1 (.string ⟨#[]⟩)).setCell (p:=⟨p1,1,none⟩) gp1 (.int .i64 0);clear H10 H11 z0 z1 x0 x1 lx;generalize World.setCell _ _ _ = wq at *;refine Qf HC ?_;refine Qr 5 ?_;obtain ⟨z0,z1,x0,x1,lx⟩:=Qb.e2 H11';go_wp2;have H11:=Qo H11' (.string ⟨#[]⟩) (.int .i64 0);have H10:=Qg (Qg H10' (show p1 ≠ p2 by omega) 0 (.string ⟨#[]⟩)) (show p1 ≠ p2 by omega) 1 (.int .i64 0)
       replace HC:=(HC.setCell (p:=⟨p2,0,none⟩) gp2 (.string ⟨#[]⟩)).setCell (p:=⟨p2,1,none⟩) gp2 (.int .i64 0);clear H10' H11' z0 z1 x0 x1 lx;generalize World.setCell _ _ _ = wq at *;refine Qq ?_;refine Qx ?_;exact Jl p1 p2 ⟨HC,gp1,gp2,Qa,H10,H11⟩ rfl
      ·go_wp2;obtain ⟨p2, wb, hbq, hwb, H11, HC', hx, gp2⟩ := Ql HC 85 #[.string ⟨#[]⟩, .int .i64 0];rw [← hbq, ← hwb];try have ne : p1 < p2 := by have := H10.lt; omega
       replace HC:=HC';try replace H10:=H10.ext hx
       clear hbq hwb hx HC';refine Qf HC ?_;refine Qj 2 ?_;go_wp2;obtain ⟨p1,wb,hbq,hwb,H10,HC',hx,gp1⟩:=Ql HC 85 #[.string ⟨#[]⟩,.int .i64 0];rw [← hbq,← hwb];try have ne : p2 < p1:=by have:=H11.lt;omega
       replace HC:=HC';try replace H11:=H11.ext hx
       clear hbq hwb hx HC';refine Qf HC ?_;refine Qj 4 ?_;obtain ⟨z0,z1,x0,x1,lx⟩:=Qb.e2 H10;go_wp2;have H10':=Qo H10 (.string ⟨#[]⟩) (.int .i64 0);have H11':=Qg (Qg H11 (show p2 ≠ p1 by omega) 0 (.string ⟨#[]⟩)) (show p2 ≠ p1 by omega) 1 (.int .i64 0);replace HC:=(HC.setCell (p:=⟨p1,0,none⟩) gp1 (.string ⟨#[]⟩)).setCell (p:=⟨p1,1,none⟩) gp1 (.int .i64 0);clear H10 H11 z0 z1 x0 x1 lx;generalize World.setCell _ _ _ = wq at *;refine Qf HC ?_;refine Qr 5 ?_;obtain ⟨z0,z1,x0,x1,lx⟩:=Qb.e2 H11';go_wp2;have H11:=Qo H11' (.string ⟨#[]⟩) (.int .i64 0);have H10:=Qg (Qg H10' (show p1 ≠ p2 by omega) 0 (.string ⟨#[]⟩)) (show p1 ≠ p2 by omega) 1 (.int .i64 0)
       replace HC:=(HC.setCell (p:=⟨p2,0,none⟩) gp2 (.string ⟨#[]⟩)).setCell (p:=⟨p2,1,none⟩) gp2 (.int .i64 0);clear H10' H11' z0 z1 x0 x1 lx;generalize World.setCell _ _ _ = wq at *;refine Qq ?_;refine Qx ?_;exact Jl p1 p2 ⟨HC,gp1,gp2,Qa,H10,H11⟩ rfl
     rintro p1 p2 w3 ⟨h3,gp1,gp2,ne,H10,H11⟩;have a0w:=((hE.trans h3).cell (p:=⟨b,off,none⟩) hb).trans a0;have a1w:=((hE.trans h3).cell (p:=⟨b,off + 1,none⟩) hb).trans a1;have e0w:=((hE.trans h3).cell (p:=⟨d,doff,none⟩) hd).trans e0;have e1w:=((hE.trans h3).cell (p:=⟨d,doff + 1,none⟩) hd).trans e1;have lbw:=Nat.lt_of_lt_of_le hb (hE.trans h3).size;have ldw:=Nat.lt_of_lt_of_le hd (hE.trans h3).size;go_upto_region 5 with fail
     have m1:=fun x1 => Aq (f' 0) (g' 0) x1
     refine Qy w3 ?_;intro w5 hh;clear m1;obtain ⟨hcbw5,hfbw5,hzbw5,hzw5⟩:=Qv w3 hh;replace H10:=H10.ext hh;replace H11:=H11.ext hh;clear a0w a1w e0w e1w lbw ldw;have h5:=h3.trans hh;cases hs1 : Z5 (f' 0).g (g' 0).g
     ·have a0w:=((hE.trans h5).cell (p:=⟨b,off,none⟩) hb).trans a0;have a1w:=((hE.trans h5).cell (p:=⟨b,off + 1,none⟩) hb).trans a1;have e0w:=((hE.trans h5).cell (p:=⟨d,doff,none⟩) hd).trans e0;have e1w:=((hE.trans h5).cell (p:=⟨d,doff + 1,none⟩) hd).trans e1;have lbw:=Nat.lt_of_lt_of_le hb (hE.trans h5).size;have ldw:=Nat.lt_of_lt_of_le hd (hE.trans h5).size;go_upto_region 7 with fail
      have m1:=fun x1 => Aq (g' 0) (f' 0) x1
      refine Qy w5 ?_;intro w7 hk7;clear m1;obtain ⟨hcbw7,hfbw7,hzbw7,hzw7⟩:=Qv w5 hk7;replace H10:=H10.ext hk7;replace H11:=H11.ext hk7;clear a0w a1w e0w e1w lbw ldw;replace h5:=h5.trans hk7;cases hs2 : Z5 (g' 0).g (f' 0).g
      ·rw [step_b hs1 hs2] at hout hall;go_upto_region 4 with fail
       apply Qo0 (S:=fun w' o2 c2 o3 c3 => Qc wo w' ∧ Qb w' p1 85 #[.string (f' 0).g,.int .i64 (f' 0).n] ∧ Qb w' p2 85 #[.string (g' 0).g,.int .i64 (g' 0).n] ∧ Qm W0 (some ⟨b,o2,none⟩) n' 2 (Q5 (fun t => f' (t + 1))) ∧ n' ≤ c2 ∧ Qm W0 (some ⟨d,o3,none⟩) m' 2 (Q5 (fun t => g' (t + 1))) ∧ m' ≤ c3)
       ·by_cases hc1 : ca' = 1;rotate_left
        ·by_cases hc2 : cb' = 1;rotate_left
         ·refine Zc 14 [13] (fun x => Qc wo x) mixed rfl ?_;intro vz hvz;have HC:=h5.trans hvz;replace H10:=H10.ext hvz;replace H11:=H11.ext hvz;refine Qs (g:=4) [0,1,2,3,4,5,6,7,8,9] HC ?_
          constructor
          refine ⟨fun u hu => ?_,?_⟩
          ·have a0':=((hE.trans hu).cell (p:=⟨b,off,none⟩) hb).trans a0;have a1':=((hE.trans hu).cell (p:=⟨b,off + 1,none⟩) hb).trans a1;have lb:=Nat.lt_of_lt_of_le hb (hE.trans hu).size;have e0':=((hE.trans hu).cell (p:=⟨d,doff,none⟩) hd).trans e0;have e1':=((hE.trans hu).cell (p:=⟨d,doff + 1,none⟩) hd).trans e1;have ld:=Nat.lt_of_lt_of_le hd (hE.trans hu).size;exact Qk
          refine Qj 10 ?_;obtain ⟨z0,z1,x0,x1,lx⟩:=Qb.e2 H10;go_wp2;have NH10:=Qo H10 (.string (f' 0).g) (.int .i64 (f' 0).n);replace H11:=Qg (Qg H11 (Ne.symm ne) 0 (.string (f' 0).g)) (Ne.symm ne) 1 (.int .i64 (f' 0).n);replace HC:=(HC.setCell (p:=⟨p1,0,none⟩) gp1 (.string (f' 0).g)).setCell (p:=⟨p1,1,none⟩) gp1 (.int .i64 (f' 0).n);clear z0 z1 x0 x1 lx H10;have H10:=NH10;clear NH10;generalize World.setCell _ _ _ = wq at *;refine Qf HC ?_;refine Qj 11 ?_;obtain ⟨z0,z1,x0,x1,lx⟩:=Qb.e2 H11;go_wp2;have NH11:=Qo H11 (.string (g' 0).g) (.int .i64 (g' 0).n);replace H10:=Qg (Qg H10 ne 0 (.string (g' 0).g)) ne 1 (.int .i64 (g' 0).n)
          replace HC:=(HC.setCell (p:=⟨p2,0,none⟩) gp2 (.string (g' 0).g)).setCell (p:=⟨p2,1,none⟩) gp2 (.int .i64 (g' 0).n);clear z0 z1 x0 x1 lx H11;have H11:=NH11;clear NH11;generalize World.setCell _ _ _ = wq at *;refine Qf HC ?_;refine Qs (g:=1) [12] HC ?_
          constructor
          refine ⟨fun u hu => ?_,?_⟩
          ·have a0':=((hE.trans hu).cell (p:=⟨b,off,none⟩) hb).trans a0;have a1':=((hE.trans hu).cell (p:=⟨b,off + 1,none⟩) hb).trans a1;have lb:=Nat.lt_of_lt_of_le hb (hE.trans hu).size;have e0':=((hE.trans hu).cell (p:=⟨d,doff,none⟩) hd).trans e0;have e1':=((hE.trans hu).cell (p:=⟨d,doff + 1,none⟩) hd).trans e1;have ld:=Nat.lt_of_lt_of_le hd (hE.trans hu).size;exact Qk
          refine Qr 13 ?_;go_wp2;refine Qq ?_;refine Qx ?_
          (obtain ⟨oo,hoo⟩ : ∃ x,x = off + 2:=⟨_,rfl⟩;obtain ⟨cc,hcc⟩ : ∃ x,x = ca' - 1:=⟨_,rfl⟩;rw [← hoo] at hA2;rw [← hoo,← hcc];obtain ⟨po,hpo⟩ : ∃ x,x = doff + 2:=⟨_,rfl⟩;obtain ⟨pc,hpc⟩ : ∃ x,x = cb' - 1:=⟨_,rfl⟩;rw [← hpo] at hB2;rw [← hpo,← hpc];exact G6 oo cc po pc ⟨HC,H10,H11,hA2,Qa,hB2,Qa⟩ rfl)
         ·subst hc2;obtain rfl : m' = 0:=Qa;refine Zc 14 [13] (fun x => Qc wo x) mixed rfl ?_;intro vz hvz;have HC:=h5.trans hvz;replace H10:=H10.ext hvz;replace H11:=H11.ext hvz;refine Qs (g:=4) [0,1,2,3,4,5,6,7,8,9] HC ?_
          constructor
          refine ⟨fun u hu => ?_,?_⟩
          ·have a0':=((hE.trans hu).cell (p:=⟨b,off,none⟩) hb).trans a0;have a1':=((hE.trans hu).cell (p:=⟨b,off + 1,none⟩) hb).trans a1;have lb:=Nat.lt_of_lt_of_le hb (hE.trans hu).size;have e0':=((hE.trans hu).cell (p:=⟨d,doff,none⟩) hd).trans e0;have e1':=((hE.trans hu).cell (p:=⟨d,doff + 1,none⟩) hd).trans e1;have ld:=Nat.lt_of_lt_of_le hd (hE.trans hu).size;exact Qk
          refine Qj 10 ?_;obtain ⟨z0,z1,x0,x1,lx⟩:=Qb.e2 H10;go_wp2;have NH10:=Qo H10 (.string (f' 0).g) (.int .i64 (f' 0).n);replace H11:=Qg (Qg H11 (Ne.symm ne) 0 (.string (f' 0).g)) (Ne.symm ne) 1 (.int .i64 (f' 0).n);replace HC:=(HC.setCell (p:=⟨p1,0,none⟩) gp1 (.string (f' 0).g)).setCell (p:=⟨p1,1,none⟩) gp1 (.int .i64 (f' 0).n);clear z0 z1 x0 x1 lx H10;have H10:=NH10;clear NH10;generalize World.setCell _ _ _ = wq at *;refine Qf HC ?_;refine Qj 11 ?_;obtain ⟨z0,z1,x0,x1,lx⟩:=Qb.e2 H11;go_wp2;have NH11:=Qo H11 (.string (g' 0).g) (.int .i64 (g' 0).n);replace H10:=Qg (Qg H10 ne 0 (.string (g' 0).g)) ne 1 (.int .i64 (g' 0).n)
          replace HC:=(HC.setCell (p:=⟨p2,0,none⟩) gp2 (.string (g' 0).g)).setCell (p:=⟨p2,1,none⟩) gp2 (.int .i64 (g' 0).n);clear z0 z1 x0 x1 lx H11;have H11:=NH11;clear NH11;generalize World.setCell _ _ _ = wq at *;refine Qf HC ?_;refine Qs (g:=1) [12] HC ?_
          constructor
          refine ⟨fun u hu => ?_,?_⟩
          ·have a0':=((hE.trans hu).cell (p:=⟨b,off,none⟩) hb).trans a0;have a1':=((hE.trans hu).cell (p:=⟨b,off + 1,none⟩) hb).trans a1;have lb:=Nat.lt_of_lt_of_le hb (hE.trans hu).size;have e0':=((hE.trans hu).cell (p:=⟨d,doff,none⟩) hd).trans e0;have e1':=((hE.trans hu).cell (p:=⟨d,doff + 1,none⟩) hd).trans e1;have ld:=Nat.lt_of_lt_of_le hd (hE.trans hu).size;exact Qk
          refine Qr 13 ?_;go_wp2;refine Qq ?_;refine Qx ?_
          (obtain ⟨oo,hoo⟩ : ∃ x,x = off + 2:=⟨_,rfl⟩;obtain ⟨cc,hcc⟩ : ∃ x,x = ca' - 1:=⟨_,rfl⟩;rw [← hoo] at hA2;rw [← hoo,← hcc];exact G6 oo cc doff 0 ⟨HC,H10,H11,hA2,Qa,Qm.nil,Nat.le_refl _⟩ rfl)
        ·subst hc1;obtain rfl : n' = 0:=Qa;by_cases hc2 : cb' = 1;rotate_left
         ·refine Zc 14 [13] (fun x => Qc wo x) mixed rfl ?_;intro vz hvz;have HC:=h5.trans hvz;replace H10:=H10.ext hvz;replace H11:=H11.ext hvz;refine Qs (g:=4) [0,1,2,3,4,5,6,7,8,9] HC ?_
          constructor
          refine ⟨fun u hu => ?_,?_⟩
          ·have a0':=((hE.trans hu).cell (p:=⟨b,off,none⟩) hb).trans a0;have a1':=((hE.trans hu).cell (p:=⟨b,off + 1,none⟩) hb).trans a1;have lb:=Nat.lt_of_lt_of_le hb (hE.trans hu).size;have e0':=((hE.trans hu).cell (p:=⟨d,doff,none⟩) hd).trans e0;have e1':=((hE.trans hu).cell (p:=⟨d,doff + 1,none⟩) hd).trans e1;have ld:=Nat.lt_of_lt_of_le hd (hE.trans hu).size;exact Qk
          refine Qj 10 ?_;obtain ⟨z0,z1,x0,x1,lx⟩:=Qb.e2 H10;go_wp2;have NH10:=Qo H10 (.string (f' 0).g) (.int .i64 (f' 0).n);replace H11:=Qg (Qg H11 (Ne.symm ne) 0 (.string (f' 0).g)) (Ne.symm ne) 1 (.int .i64 (f' 0).n);replace HC:=(HC.setCell (p:=⟨p1,0,none⟩) gp1 (.string (f' 0).g)).setCell (p:=⟨p1,1,none⟩) gp1 (.int .i64 (f' 0).n);clear z0 z1 x0 x1 lx H10;have H10:=NH10;clear NH10;generalize World.setCell _ _ _ = wq at *;refine Qf HC ?_;refine Qj 11 ?_;obtain ⟨z0,z1,x0,x1,lx⟩:=Qb.e2 H11;go_wp2;have NH11:=Qo H11 (.string (g' 0).g) (.int .i64 (g' 0).n);replace H10:=Qg (Qg H10 ne 0 (.string (g' 0).g)) ne 1 (.int .i64 (g' 0).n)
          replace HC:=(HC.setCell (p:=⟨p2,0,none⟩) gp2 (.string (g' 0).g)).setCell (p:=⟨p2,1,none⟩) gp2 (.int .i64 (g' 0).n);clear z0 z1 x0 x1 lx H11;have H11:=NH11;clear NH11;generalize World.setCell _ _ _ = wq at *;refine Qf HC ?_;refine Qs (g:=1) [12] HC ?_
          constructor
          refine ⟨fun u hu => ?_,?_⟩
          ·have a0':=((hE.trans hu).cell (p:=⟨b,off,none⟩) hb).trans a0;have a1':=((hE.trans hu).cell (p:=⟨b,off + 1,none⟩) hb).trans a1;have lb:=Nat.lt_of_lt_of_le hb (hE.trans hu).size;have e0':=((hE.trans hu).cell (p:=⟨d,doff,none⟩) hd).trans e0;have e1':=((hE.trans hu).cell (p:=⟨d,doff + 1,none⟩) hd).trans e1;have ld:=Nat.lt_of_lt_of_le hd (hE.trans hu).size;exact Qk
          refine Qr 13 ?_;go_wp2;refine Qq ?_;refine Qx ?_
          (obtain ⟨po,hpo⟩ : ∃ x,x = doff + 2:=⟨_,rfl⟩;obtain ⟨pc,hpc⟩ : ∃ x,x = cb' - 1:=⟨_,rfl⟩;rw [← hpo] at hB2;rw [← hpo,← hpc];exact G6 off 0 po pc ⟨HC,H10,H11,Qm.nil,Nat.le_refl _,hB2,Qa⟩ rfl)
         ·subst hc2;obtain rfl : m' = 0:=Qa;refine Zc 14 [13] (fun x => Qc wo x) mixed rfl ?_;intro vz hvz;have HC:=h5.trans hvz;replace H10:=H10.ext hvz;replace H11:=H11.ext hvz;refine Qs (g:=4) [0,1,2,3,4,5,6,7,8,9] HC ?_
          constructor
          refine ⟨fun u hu => ?_,?_⟩
          ·have a0':=((hE.trans hu).cell (p:=⟨b,off,none⟩) hb).trans a0;have a1':=((hE.trans hu).cell (p:=⟨b,off + 1,none⟩) hb).trans a1;have lb:=Nat.lt_of_lt_of_le hb (hE.trans hu).size;have e0':=((hE.trans hu).cell (p:=⟨d,doff,none⟩) hd).trans e0;have e1':=((hE.trans hu).cell (p:=⟨d,doff + 1,none⟩) hd).trans e1;have ld:=Nat.lt_of_lt_of_le hd (hE.trans hu).size;exact Qk
          refine Qj 10 ?_;obtain ⟨z0,z1,x0,x1,lx⟩:=Qb.e2 H10;go_wp2;have NH10:=Qo H10 (.string (f' 0).g) (.int .i64 (f' 0).n);replace H11:=Qg (Qg H11 (Ne.symm ne) 0 (.string (f' 0).g)) (Ne.symm ne) 1 (.int .i64 (f' 0).n);replace HC:=(HC.setCell (p:=⟨p1,0,none⟩) gp1 (.string (f' 0).g)).setCell (p:=⟨p1,1,none⟩) gp1 (.int .i64 (f' 0).n);clear z0 z1 x0 x1 lx H10;have H10:=NH10;clear NH10;generalize World.setCell _ _ _ = wq at *;refine Qf HC ?_;refine Qj 11 ?_;obtain ⟨z0,z1,x0,x1,lx⟩:=Qb.e2 H11;go_wp2;have NH11:=Qo H11 (.string (g' 0).g) (.int .i64 (g' 0).n);replace H10:=Qg (Qg H10 ne 0 (.string (g' 0).g)) ne 1 (.int .i64 (g' 0).n)
          replace HC:=(HC.setCell (p:=⟨p2,0,none⟩) gp2 (.string (g' 0).g)).setCell (p:=⟨p2,1,none⟩) gp2 (.int .i64 (g' 0).n);clear z0 z1 x0 x1 lx H11;have H11:=NH11;clear NH11;generalize World.setCell _ _ _ = wq at *;refine Qf HC ?_;refine Qs (g:=1) [12] HC ?_
          constructor
          refine ⟨fun u hu => ?_,?_⟩
          ·have a0':=((hE.trans hu).cell (p:=⟨b,off,none⟩) hb).trans a0;have a1':=((hE.trans hu).cell (p:=⟨b,off + 1,none⟩) hb).trans a1;have lb:=Nat.lt_of_lt_of_le hb (hE.trans hu).size;have e0':=((hE.trans hu).cell (p:=⟨d,doff,none⟩) hd).trans e0;have e1':=((hE.trans hu).cell (p:=⟨d,doff + 1,none⟩) hd).trans e1;have ld:=Nat.lt_of_lt_of_le hd (hE.trans hu).size;exact Qk
          refine Qr 13 ?_;go_wp2;refine Qq ?_;refine Qx ?_
          (exact G6 off 0 doff 0 ⟨HC,H10,H11,Qm.nil,Nat.le_refl _,Qm.nil,Nat.le_refl _⟩ rfl)
       rintro o2 c2 o3 c3 w6 ⟨h6,H10,H11,hA3,hc3,hB3,hc4⟩;have NP:=Hv sg hsg (f' 0) (g' 0) (hf.out 0 Qa) (hg.out 0 Qa) (b9 + 1) bs bo F k cap xs w6 (HS.ext h6) (HO.ext h6) (J0 hO h6) Qa (by have:=h6.size;omega);obtain ⟨x0,x1,lx⟩:=Qb.d2 H10;obtain ⟨y0,y1,ly⟩:=Qb.d2 H11;have hkl:=Ow sg ((f' 0),(g' 0));cases hr : Xq sg (f' 0) (g' 0)
       ·rw [hr] at NP;have hno:=N8 hall.out hr;clear hall hout hr;go_wp2_with (first | (go_at_call 113;(with_reducible refine zc (NP) ?_);rintro e w9 ⟨rfl,HP,HQ⟩) | (go_at_fn 113;(with_reducible refine zc (NP) ?_);rintro e w9 ⟨rfl,HP,HQ⟩));go_ret;exact ⟨Jo hno.symm,HP.ext W0 (hE.trans h6) hbo Qa,fun h => by rw [hno] at h;cases h⟩
       ·rw [hr] at NP;have hyes:=zh (N9 hall.out hr);have hout2:=zh (Ho hout.out);clear hall hout hr;go_wp2_with (first | (go_at_call 113;(with_reducible refine zc (NP) ?_);rintro e w9 ⟨rfl,HP,HQ⟩) | (go_at_fn 113;(with_reducible refine zc (NP) ?_);rintro e w9 ⟨rfl,HP,HQ⟩));obtain ⟨F2,k2,cap2,HO2,hO2⟩:=HQ (by trivial);have hl2:=hO2.1;rw [List.length_append] at hl2;have hE9:=HP.ext W0 (hE.trans h6) hbo Qa;exact ⟨⟨n',m',q,(fun t => f' (t + 1)),(fun t => g' (t + 1)),some ⟨b,o2,none⟩,some ⟨d,o3,none⟩,c2,c3,rfl,rfl,Qa,Qa,Qa,hA3,hB3,zh (fun i hi => hf.out (i + 1) Qa),zh (fun i hi => hg.out (i + 1) Qa),hE9,HP.held _ _ _ (H9.ext h6) Qa Qa,HP.held _ _ _ (HS.ext h6) (Ol (HS.ext h6) (HO.ext h6) zD) hbs9,(HP.held _ _ _ (H9.ext h6) Qa Qa).lt,hbs9,F2,k2,cap2,_,HO2,hO2,hO2.1,Qa,hout2,hyes⟩,by simp [lenOf] <;> omega⟩
      ·rw [Qdz (.inr ⟨hs1,hs2⟩),show Y2 = ⟨⟨#[]⟩,0⟩ from rfl] at hout hall;go_upto_region 8 with fail
       apply Ul (S:=fun w' o2 c2 => Qc wo w' ∧ Qb w' p1 85 #[.string ⟨#[]⟩,.int .i64 0] ∧ Qb w' p2 85 #[.string (g' 0).g,.int .i64 (g' 0).n] ∧ Qm W0 (some ⟨d,o2,none⟩) m' 2 (Q5 (fun t => g' (t + 1))) ∧ m' ≤ c2)
       ·by_cases hc1 : cb' = 1;rotate_left
        ·refine Zc 7 [6] (fun x => Qc wo x) mixed rfl ?_;intro vz hvz;have HC:=h5.trans hvz;replace H10:=H10.ext hvz;replace H11:=H11.ext hvz;refine Qs (g:=3) [0,1,2,3] HC ?_
         constructor
         refine ⟨fun u hu => ?_,?_⟩
         ·have e0':=((hE.trans hu).cell (p:=⟨d,doff,none⟩) hd).trans e0;have e1':=((hE.trans hu).cell (p:=⟨d,doff + 1,none⟩) hd).trans e1;have ld:=Nat.lt_of_lt_of_le hd (hE.trans hu).size;exact Qk
         refine Zq 4 5 ?_ ?_
         ·go_wp2;refine Qf HC ?_;refine Qj 5 ?_;obtain ⟨z0,z1,x0,x1,lx⟩:=Qb.e2 H11;go_wp2;have H11':=Qo H11 (.string (g' 0).g) (.int .i64 (g' 0).n);replace H10:=Qg (Qg H10 ne 0 (.string (g' 0).g)) ne 1 (.int .i64 (g' 0).n);replace HC:=(HC.setCell (p:=⟨p2,0,none⟩) gp2 (.string (g' 0).g)).setCell (p:=⟨p2,1,none⟩) gp2 (.int .i64 (g' 0).n);clear H11 z0 z1 x0 x1 lx;generalize World.setCell _ _ _ = wq at *;refine Qf HC ?_;refine Qr 6 ?_;go_wp2;refine Qq ?_;refine Qx ?_
          (obtain ⟨oo,hoo⟩ : ∃ x,x = doff + 2:=⟨_,rfl⟩;obtain ⟨cc,hcc⟩ : ∃ x,x = cb' - 1:=⟨_,rfl⟩;rw [← hoo] at hB2;rw [← hoo,← hcc];exact Jl oo cc ⟨HC,H10,H11',hB2,Qa⟩ rfl)
         ·obtain ⟨z0,z1,x0,x1,lx⟩:=Qb.e2 H11;go_wp2;have H11':=Qo H11 (.string (g' 0).g) (.int .i64 (g' 0).n);replace H10:=Qg (Qg H10 ne 0 (.string (g' 0).g)) ne 1 (.int .i64 (g' 0).n);replace HC:=(HC.setCell (p:=⟨p2,0,none⟩) gp2 (.string (g' 0).g)).setCell (p:=⟨p2,1,none⟩) gp2 (.int .i64 (g' 0).n);clear H11 z0 z1 x0 x1 lx;generalize World.setCell _ _ _ = wq at *;refine Qf HC ?_;refine Qj 4 ?_;go_wp2;refine Qf HC ?_;refine Qr 6 ?_;go_wp2;refine Qq ?_;refine Qx ?_
          (obtain ⟨oo,hoo⟩ : ∃ x,x = doff + 2:=⟨_,rfl⟩;obtain ⟨cc,hcc⟩ : ∃ x,x = cb' - 1:=⟨_,rfl⟩;rw [← hoo] at hB2;rw [← hoo,← hcc];exact Jl oo cc ⟨HC,H10,H11',hB2,Qa⟩ rfl)
        ·subst hc1;obtain rfl : m' = 0:=Qa;refine Zc 7 [6] (fun x => Qc wo x) mixed rfl ?_;intro vz hvz;have HC:=h5.trans hvz;replace H10:=H10.ext hvz;replace H11:=H11.ext hvz;refine Qs (g:=3) [0,1,2,3] HC ?_
         constructor
         refine ⟨fun u hu => ?_,?_⟩
         ·have e0':=((hE.trans hu).cell (p:=⟨d,doff,none⟩) hd).trans e0;have e1':=((hE.trans hu).cell (p:=⟨d,doff + 1,none⟩) hd).trans e1;have ld:=Nat.lt_of_lt_of_le hd (hE.trans hu).size;exact Qk
         refine Zq 4 5 ?_ ?_
         ·go_wp2;refine Qf HC ?_;refine Qj 5 ?_;obtain ⟨z0,z1,x0,x1,lx⟩:=Qb.e2 H11;go_wp2;have H11':=Qo H11 (.string (g' 0).g) (.int .i64 (g' 0).n);replace H10:=Qg (Qg H10 ne 0 (.string (g' 0).g)) ne 1 (.int .i64 (g' 0).n);replace HC:=(HC.setCell (p:=⟨p2,0,none⟩) gp2 (.string (g' 0).g)).setCell (p:=⟨p2,1,none⟩) gp2 (.int .i64 (g' 0).n);clear H11 z0 z1 x0 x1 lx;generalize World.setCell _ _ _ = wq at *;refine Qf HC ?_;refine Qr 6 ?_;go_wp2;refine Qq ?_;refine Qx ?_;exact Jl doff 0 ⟨HC,H10,H11',Qm.nil,Nat.le_refl _⟩ rfl
         ·obtain ⟨z0,z1,x0,x1,lx⟩:=Qb.e2 H11;go_wp2;have H11':=Qo H11 (.string (g' 0).g) (.int .i64 (g' 0).n);replace H10:=Qg (Qg H10 ne 0 (.string (g' 0).g)) ne 1 (.int .i64 (g' 0).n);replace HC:=(HC.setCell (p:=⟨p2,0,none⟩) gp2 (.string (g' 0).g)).setCell (p:=⟨p2,1,none⟩) gp2 (.int .i64 (g' 0).n);clear H11 z0 z1 x0 x1 lx;generalize World.setCell _ _ _ = wq at *;refine Qf HC ?_;refine Qj 4 ?_;go_wp2;refine Qf HC ?_;refine Qr 6 ?_;go_wp2;refine Qq ?_;refine Qx ?_;exact Jl doff 0 ⟨HC,H10,H11',Qm.nil,Nat.le_refl _⟩ rfl
       rintro o2 c2 w6 ⟨h6,H10,H11,hB3,hc3⟩;have NP:=Hv sg hsg ⟨⟨#[]⟩,0⟩ (g' 0) (Tm) (hg.out 0 Qa) (b9 + 1) bs bo F k cap xs w6 (HS.ext h6) (HO.ext h6) (J0 hO h6) Qa (by have:=h6.size;omega);obtain ⟨x0,x1,lx⟩:=Qb.d2 H10;obtain ⟨y0,y1,ly⟩:=Qb.d2 H11;have hkl:=Ow sg (⟨⟨#[]⟩,0⟩,(g' 0));cases hr : Xq sg ⟨⟨#[]⟩,0⟩ (g' 0)
       ·rw [hr] at NP;have hno:=N8 hall.out hr;clear hall hout hr;go_wp2_with (first | (go_at_call 113;(with_reducible refine zc (NP) ?_);rintro e w9 ⟨rfl,HP,HQ⟩) | (go_at_fn 113;(with_reducible refine zc (NP) ?_);rintro e w9 ⟨rfl,HP,HQ⟩));go_ret;exact ⟨Jo hno.symm,HP.ext W0 (hE.trans h6) hbo Qa,fun h => by rw [hno] at h;cases h⟩
       ·rw [hr] at NP;have hyes:=zh (N9 hall.out hr);have hout2:=zh (Ho hout.out);clear hall hout hr;go_wp2_with (first | (go_at_call 113;(with_reducible refine zc (NP) ?_);rintro e w9 ⟨rfl,HP,HQ⟩) | (go_at_fn 113;(with_reducible refine zc (NP) ?_);rintro e w9 ⟨rfl,HP,HQ⟩));obtain ⟨F2,k2,cap2,HO2,hO2⟩:=HQ (by trivial);have hl2:=hO2.1;rw [List.length_append] at hl2;have hE9:=HP.ext W0 (hE.trans h6) hbo Qa;exact ⟨⟨(n' + 1),m',q,f',(fun t => g' (t + 1)),some ⟨b,off,none⟩,some ⟨d,o2,none⟩,ca',c2,rfl,rfl,Qa,Qa,Qa,hA,hB3,hf,zh (fun i hi => hg.out (i + 1) Qa),hE9,HP.held _ _ _ (H9.ext h6) Qa Qa,HP.held _ _ _ (HS.ext h6) (Ol (HS.ext h6) (HO.ext h6) zD) hbs9,(HP.held _ _ _ (H9.ext h6) Qa Qa).lt,hbs9,F2,k2,cap2,_,HO2,hO2,hO2.1,Qa,hout2,hyes⟩,by simp [lenOf] <;> omega⟩
     ·rw [Qdy (.inr hs1),show Y2 = ⟨⟨#[]⟩,0⟩ from rfl] at hout hall;go_upto_region 6 with fail
      apply Ul (S:=fun w' o2 c2 => Qc wo w' ∧ Qb w' p1 85 #[.string (f' 0).g,.int .i64 (f' 0).n] ∧ Qb w' p2 85 #[.string ⟨#[]⟩,.int .i64 0] ∧ Qm W0 (some ⟨b,o2,none⟩) n' 2 (Q5 (fun t => f' (t + 1))) ∧ n' ≤ c2)
      ·by_cases hc1 : ca' = 1;rotate_left
       ·refine Zc 7 [6] (fun x => Qc wo x) mixed rfl ?_;intro vz hvz;have HC:=h5.trans hvz;replace H10:=H10.ext hvz;replace H11:=H11.ext hvz;refine Qs (g:=3) [0,1,2,3] HC ?_
        constructor
        refine ⟨fun u hu => ?_,?_⟩
        ·have a0':=((hE.trans hu).cell (p:=⟨b,off,none⟩) hb).trans a0;have a1':=((hE.trans hu).cell (p:=⟨b,off + 1,none⟩) hb).trans a1;have lb:=Nat.lt_of_lt_of_le hb (hE.trans hu).size;exact Qk
        refine Zq 4 5 ?_ ?_
        ·go_wp2;refine Qf HC ?_;refine Qj 5 ?_;obtain ⟨z0,z1,x0,x1,lx⟩:=Qb.e2 H10;go_wp2;have H10':=Qo H10 (.string (f' 0).g) (.int .i64 (f' 0).n);replace H11:=Qg (Qg H11 (Ne.symm ne) 0 (.string (f' 0).g)) (Ne.symm ne) 1 (.int .i64 (f' 0).n);replace HC:=(HC.setCell (p:=⟨p1,0,none⟩) gp1 (.string (f' 0).g)).setCell (p:=⟨p1,1,none⟩) gp1 (.int .i64 (f' 0).n);clear H10 z0 z1 x0 x1 lx;generalize World.setCell _ _ _ = wq at *;refine Qf HC ?_;refine Qr 6 ?_;go_wp2;refine Qq ?_;refine Qx ?_
         (obtain ⟨oo,hoo⟩ : ∃ x,x = off + 2:=⟨_,rfl⟩;obtain ⟨cc,hcc⟩ : ∃ x,x = ca' - 1:=⟨_,rfl⟩;rw [← hoo] at hA2;rw [← hoo,← hcc];exact Jl oo cc ⟨HC,H10',H11,hA2,Qa⟩ rfl)
        ·obtain ⟨z0,z1,x0,x1,lx⟩:=Qb.e2 H10;go_wp2;have H10':=Qo H10 (.string (f' 0).g) (.int .i64 (f' 0).n);replace H11:=Qg (Qg H11 (Ne.symm ne) 0 (.string (f' 0).g)) (Ne.symm ne) 1 (.int .i64 (f' 0).n);replace HC:=(HC.setCell (p:=⟨p1,0,none⟩) gp1 (.string (f' 0).g)).setCell (p:=⟨p1,1,none⟩) gp1 (.int .i64 (f' 0).n);clear H10 z0 z1 x0 x1 lx;generalize World.setCell _ _ _ = wq at *;refine Qf HC ?_;refine Qj 4 ?_;go_wp2;refine Qf HC ?_;refine Qr 6 ?_;go_wp2;refine Qq ?_;refine Qx ?_
         (obtain ⟨oo,hoo⟩ : ∃ x,x = off + 2:=⟨_,rfl⟩;obtain ⟨cc,hcc⟩ : ∃ x,x = ca' - 1:=⟨_,rfl⟩;rw [← hoo] at hA2;rw [← hoo,← hcc];exact Jl oo cc ⟨HC,H10',H11,hA2,Qa⟩ rfl)
       ·subst hc1;obtain rfl : n' = 0:=Qa;refine Zc 7 [6] (fun x => Qc wo x) mixed rfl ?_;intro vz hvz;have HC:=h5.trans hvz;replace H10:=H10.ext hvz;replace H11:=H11.ext hvz;refine Qs (g:=3) [0,1,2,3] HC ?_
        constructor
        refine ⟨fun u hu => ?_,?_⟩
        ·have a0':=((hE.trans hu).cell (p:=⟨b,off,none⟩) hb).trans a0;have a1':=((hE.trans hu).cell (p:=⟨b,off + 1,none⟩) hb).trans a1;have lb:=Nat.lt_of_lt_of_le hb (hE.trans hu).size;exact Qk
        refine Zq 4 5 ?_ ?_
        ·go_wp2;refine Qf HC ?_;refine Qj 5 ?_;obtain ⟨z0,z1,x0,x1,lx⟩:=Qb.e2 H10;go_wp2;have H10':=Qo H10 (.string (f' 0).g) (.int .i64 (f' 0).n);replace H11:=Qg (Qg H11 (Ne.symm ne) 0 (.string (f' 0).g)) (Ne.symm ne) 1 (.int .i64 (f' 0).n);replace HC:=(HC.setCell (p:=⟨p1,0,none⟩) gp1 (.string (f' 0).g)).setCell (p:=⟨p1,1,none⟩) gp1 (.int .i64 (f' 0).n);clear H10 z0 z1 x0 x1 lx;generalize World.setCell _ _ _ = wq at *;refine Qf HC ?_;refine Qr 6 ?_;go_wp2;refine Qq ?_;refine Qx ?_;exact Jl off 0 ⟨HC,H10',H11,Qm.nil,Nat.le_refl _⟩ rfl
        ·obtain ⟨z0,z1,x0,x1,lx⟩:=Qb.e2 H10;go_wp2;have H10':=Qo H10 (.string (f' 0).g) (.int .i64 (f' 0).n);replace H11:=Qg (Qg H11 (Ne.symm ne) 0 (.string (f' 0).g)) (Ne.symm ne) 1 (.int .i64 (f' 0).n);replace HC:=(HC.setCell (p:=⟨p1,0,none⟩) gp1 (.string (f' 0).g)).setCell (p:=⟨p1,1,none⟩) gp1 (.int .i64 (f' 0).n);clear H10 z0 z1 x0 x1 lx;generalize World.setCell _ _ _ = wq at *;refine Qf HC ?_;refine Qj 4 ?_;go_wp2;refine Qf HC ?_;refine Qr 6 ?_;go_wp2;refine Qq ?_;refine Qx ?_;exact Jl off 0 ⟨HC,H10',H11,Qm.nil,Nat.le_refl _⟩ rfl
      rintro o2 c2 w6 ⟨h6,H10,H11,hA3,hc3⟩;have NP:=Hv sg hsg (f' 0) ⟨⟨#[]⟩,0⟩ (hf.out 0 Qa) (Tm) (b9 + 1) bs bo F k cap xs w6 (HS.ext h6) (HO.ext h6) (J0 hO h6) Qa (by have:=h6.size;omega);obtain ⟨x0,x1,lx⟩:=Qb.d2 H10;obtain ⟨y0,y1,ly⟩:=Qb.d2 H11;have hkl:=Ow sg ((f' 0),⟨⟨#[]⟩,0⟩);cases hr : Xq sg (f' 0) ⟨⟨#[]⟩,0⟩
      ·rw [hr] at NP;have hno:=N8 hall.out hr;clear hall hout hr;go_wp2_with (first | (go_at_call 113;(with_reducible refine zc (NP) ?_);rintro e w9 ⟨rfl,HP,HQ⟩) | (go_at_fn 113;(with_reducible refine zc (NP) ?_);rintro e w9 ⟨rfl,HP,HQ⟩));go_ret;exact ⟨Jo hno.symm,HP.ext W0 (hE.trans h6) hbo Qa,fun h => by rw [hno] at h;cases h⟩
      ·rw [hr] at NP;have hyes:=zh (N9 hall.out hr);have hout2:=zh (Ho hout.out);clear hall hout hr;go_wp2_with (first | (go_at_call 113;(with_reducible refine zc (NP) ?_);rintro e w9 ⟨rfl,HP,HQ⟩) | (go_at_fn 113;(with_reducible refine zc (NP) ?_);rintro e w9 ⟨rfl,HP,HQ⟩));obtain ⟨F2,k2,cap2,HO2,hO2⟩:=HQ (by trivial);have hl2:=hO2.1;rw [List.length_append] at hl2;have hE9:=HP.ext W0 (hE.trans h6) hbo Qa;exact ⟨⟨n',(m' + 1),q,(fun t => f' (t + 1)),g',some ⟨b,o2,none⟩,some ⟨d,doff,none⟩,c2,cb',rfl,rfl,Qa,Qa,Qa,hA3,hB,zh (fun i hi => hf.out (i + 1) Qa),hg,hE9,HP.held _ _ _ (H9.ext h6) Qa Qa,HP.held _ _ _ (HS.ext h6) (Ol (HS.ext h6) (HO.ext h6) zD) hbs9,(HP.held _ _ _ (H9.ext h6) Qa Qa).lt,hbs9,F2,k2,cap2,_,HO2,hO2,hO2.1,Qa,hout2,hyes⟩,by simp [lenOf] <;> omega⟩
theorem O0 {f : Nat → Lt} {n : Nat} (h : Jw f n = 0) : n ≤ 64 ∧ ∀ i,i < n → Ub (f i):=by
 unfold Jw at h;by_cases h64 : 64 < n
 ·rw [if_pos h64] at h;exact absurd h zD
 ·rw [if_neg h64] at h;by_cases ho : Oz f n = true
  ·refine ⟨Qa,fun i hi => ?_⟩;have h1:=List.all_eq_true.1 ho i (by simpa using hi);unfold Wp at h1;simp only [Bool.and_eq_true,decide_eq_true_eq] at h1;exact ⟨h1.2.2.2,h1.2.2.1⟩
  ·rw [if_neg ho] at h;exact absurd h zD
theorem Qed {f g : Nat → Lt} {n m : Nat} (h : Vp f n g m = 0) : Jw f n = 0 ∧ Jw g m = 0:=by
 unfold Vp at h;by_cases h1 : Jw f n ≠ 0
 ·rw [if_pos h1] at h;exact absurd h h1
 ·rw [if_neg h1] at h;exact ⟨Decidable.not_not.1 h1,h⟩
theorem Fk : ∀ l : List Lt,(l.flatMap Jq).length = l.length * 2
 | [] => rfl
 | x :: l => by rw [List.flatMap_cons,List.length_append,Fk l,List.length_cons];show 2 + _ = _;omega
theorem Lf {sg : Int} {f g : Nat → Lt} {n m : Nat} {e : Int} (h : Jp sg f n g m = e) (he : e ≠ 0) : Xc sg f n g m = []:=by unfold Xc;rw [h,if_neg he]
theorem Er (T : OA) (n cap : Nat) (f : Nat → Lt) (S : OA) (m cm : Nat) (g : Nat → Lt) (sg : Int) (hsg : sg = 1 ∨ sg = -1) (w : World) (hT : Qm w T n 2 (Q5 f)) (hcap : n ≤ cap) (hn : n ≤ 9223372036854775807) (hS : Qm w S m 2 (Q5 g)) (hcm : m ≤ cm) (hm : m ≤ 9223372036854775807) :
  Calls Tryz.prog 63 #[.slice T n cap,.slice S m cm,.int .i64 sg] w fun e w' => ∃ F k c,e = .returned (.tuple #[.slice F k c,.int .i64 (Jp sg f n g m)]) ∧ Qc w w' ∧ w'.ownsRow w.heap.size 85 2 (.slice F k c) k ((Xc sg f n g m).flatMap Jq):=by
 have N2:=Qgm T n cap f S m cm g;have hsz : ∀ (E : Int),Jp sg f n g m = E → E ≠ 0 → Xc sg f n g m = []:=fun E h he => Lf h he
 go_enter Tryz.func63,Tryz.ntmps63
 go_upto_region 1 with fail
 obtain ⟨v,b1,E,B1,hbr,hv,hb1⟩:=J4 w 3 #[.int .i64 sg];rw [← hv,← hb1];clear hv hb1;have T1:=hT.ext E;have S1:=hS.ext E;obtain ⟨q,hq⟩:=Qe (Vp f n g m);have NC:=N2 v T1 hcap hn S1 hcm hm;rw [← hq] at NC;clear N2;replace hq:=zh hq;by_cases e0 : q = 0;rotate_left
 ·have g0 : (q == 0) = false := zb e0;have g0n : (q != 0) = true := by rw [bne, g0]; rfl
  have hE2 : Hid (Jp sg f n g m = q):=by unfold Hid Jp;rw [if_pos (by rw [← hq.out];exact e0),hq.out]
  have hL2:=zh (hsz q hE2.out e0);clear hsz e0 hq;go_wp2_with (go_at_call 110;refine zc (NC) ?_;rintro e w1 ⟨rfl,h1⟩);have EE:=E.trans h1;go_ret2;exact ⟨none,0,0,by rw [hE2.out];rfl,EE,by rw [hL2.out];exact World.ownsRow_nil _ _ _ _⟩
 ·subst e0;obtain ⟨o1, o2⟩ := Qed hq.out.symm;obtain ⟨n64, bf⟩ := O0 o1;obtain ⟨m64, bg⟩ := O0 o2;have hE2 : Hid (Jp sg f n g m = if J5 sg (Xu f n g m) then (if 64 < (Yq sg (Xu f n g m)).length then 3 else 0) else 6) := by unfold Hid Jp; rw [if_neg (by rw [← hq.out]; simp)]
  have hL3 : Hid (Jp sg f n g m = 0 → Xc sg f n g m = Yq sg (Xu f n g m)):=fun h => by unfold Xc;rw [if_pos h]
  clear o1 o2 hq;go_upto_region 5 with (go_at_call 110;refine zc (NC) ?_;rintro e w1 ⟨rfl,h1⟩)
  obtain ⟨v3,hv⟩:=Qe (w1.alloc (.cells #[.slice none 0 0] 52));rw [← hv];have h3 : Qc w1 v3:=by rw [hv];exact (Qc.refl _).alloc _
  have HO : Qb v3 w1.heap.size 52 #[.slice none 0 0]:=by rw [hv];exact Qb.new _ _ _
  have hbo : w.heap.size ≤ w1.heap.size:=(E.trans h1).size;clear hv;generalize w1.heap.size = bo at *;have HS:=(B1.ext h1).ext h3;have EE:=(E.trans h1).trans h3;have NM:=Qkp w T S n m cap cm f g sg hsg bf bg n64 m64 hcap hcm hT hS b1 bo v3 EE hbo HS HO;clear NC h1 h3 B1 T1 S1 hsz bf bg E;generalize Xu f n g m = M at *;cases ha : J5 sg M
  ·rw [ha] at NM;have hE3 : Hid (Jp sg f n g m = 6) := by unfold Hid; rw [hE2.out, ha]; rfl
   have hL2:=zh (Lf hE3.out zD);clear hE2 hL3 ha;go_wp2_with (go_at_call 111;refine zc (NM) ?_;rintro e w4 ⟨rfl,h4,_⟩);go_ret2;exact ⟨none,0,0,by rw [hE3.out];rfl,h4,by rw [hL2.out];exact World.ownsRow_nil _ _ _ _⟩
  ·rw [ha] at NM;rw [ha,if_pos rfl] at hE2;clear ha;go_upto_region 8 with (go_at_call 111;refine zc (NM) ?_;rintro e w4 ⟨rfl,h4,h5⟩)
   obtain ⟨F,k,c,HO4,hown⟩:=h5 (by trivial);clear h5 NM
   have hk : k = (Yq sg M).length:=by
    have:=hown.1;rw [Fk] at this;omega
   have x0:=HO4.c1;have lx:=HO4.lt;by_cases h64 : 64 < k
   ·have d1 : decide ((64 : Int) < (k : Int)) = true := zt Qa;have hE3 : Hid (Jp sg f n g m = 3) := by unfold Hid; rw [hE2.out, if_pos Qa]
    have hL2:=zh (Lf hE3.out zD);clear hE2 hL3 hk;go_wp2;go_ret2;exact ⟨none,0,0,by rw [hE3.out];rfl,h4,by rw [hL2.out];exact World.ownsRow_nil _ _ _ _⟩
   ·have d1 : decide ((64 : Int) < (k : Int)) = false := zf Qa;have hE3 : Hid (Jp sg f n g m = 0) := by unfold Hid; rw [hE2.out, if_neg Qa]
    have hL2:=zh (hL3.out hE3.out);clear hE2 hL3 hk;go_wp2;go_ret2;exact ⟨F,k,c,by rw [hE3.out];rfl,h4,by rw [hL2.out];exact hown⟩
theorem Ck (T : OA) (n cap : Nat) (f : Nat → Lt) (S : OA) (m cm : Nat) (g : Nat → Lt) (w : World) (hT : Qm w T n 2 (Q5 f)) (hcap : n ≤ cap) (hn : n ≤ 9223372036854775807) (hS : Qm w S m 2 (Q5 g)) (hcm : m ≤ cm) (hm : m ≤ 9223372036854775807) :
  Calls Tryz.prog 19 #[.slice T n cap,.slice S m cm] w fun e w' => ∃ F k c,e = .returned (.tuple #[.slice F k c,.int .i64 (Jp 1 f n g m)]) ∧ Qc w w' ∧ w'.ownsRow w.heap.size 85 2 (.slice F k c) k ((Xc 1 f n g m).flatMap Jq):=by
 have NC:=Er T n cap f S m cm g 1 zD w hT hcap hn hS hcm hm;generalize Jp 1 f n g m = E at *;generalize Xc 1 f n g m = L at *
 go_enter Tryz.func19,Tryz.ntmps19
 go_wp2_with (go_at_call 63;refine zc (NC) ?_;rintro e w1 ⟨F,k,c,rfl,h1,ho⟩);go_ret2;exact ⟨F,k,c,rfl,h1,ho⟩
theorem Qd0 (T : OA) (n cap : Nat) (f : Nat → Lt) (S : OA) (m cm : Nat) (g : Nat → Lt) (w : World) (hT : Qm w T n 2 (Q5 f)) (hcap : n ≤ cap) (hn : n ≤ 9223372036854775807) (hS : Qm w S m 2 (Q5 g)) (hcm : m ≤ cm) (hm : m ≤ 9223372036854775807) :
  Calls Tryz.prog 108 #[.slice T n cap,.slice S m cm] w fun e w' => ∃ F k c,e = .returned (.tuple #[.slice F k c,.int .i64 (Jp (-1) f n g m)]) ∧ Qc w w' ∧ w'.ownsRow w.heap.size 85 2 (.slice F k c) k ((Xc (-1) f n g m).flatMap Jq):=by
 have NC:=Er T n cap f S m cm g (-1) zD w hT hcap hn hS hcm hm;generalize Jp (-1) f n g m = E at *;generalize Xc (-1) f n g m = L at *
 go_enter Tryz.func108,Tryz.ntmps108
 go_wp2_with (go_at_call 63;refine zc (NC) ?_;rintro e w1 ⟨F,k,c,rfl,h1,ho⟩);go_ret2;exact ⟨F,k,c,rfl,h1,ho⟩
def Zl (w : World) (v : Value) (l : List Lt) : Prop:=∃ A cap,v = .slice A l.length cap ∧ Qm w A l.length 2 (Q5 (Q8 l)) ∧ l.length ≤ cap ∧ cap ≤ maxLen ∧ (A = none → l.length = 0 ∧ cap = 0)
theorem Zl.ext {w w' : World} {v : Value} {l : List Lt} (h : Zl w v l) (e : Qc w w') : Zl w' v l:=by
 obtain ⟨A,cap,h1,h2,h3⟩:=h;exact ⟨A,cap,h1,h2.ext e,h3⟩
def Zm (d : Dl) (v : Value) : List Value:=[.int .i64 d.on.y,.int .i64 d.on.m,.bool d.on.s,.int .i64 d.on.d,.bool d.i,.string d.w,v]
def Va (w : World) (v : Value) (l : List Dl) : Prop:=∃ D cap,∃ vs : Nat → Value,v = .slice D l.length cap ∧ Qm w D l.length 7 (fun i => Zm (l.getD i Zd) (vs i)) ∧ l.length ≤ cap ∧ cap ≤ maxLen ∧ (D = none → l.length = 0 ∧ cap = 0) ∧ ∀ i,i < l.length → Zl w (vs i) (l.getD i Zd).l
theorem Va.ext {w w' : World} {v : Value} {l : List Dl} (h : Va w v l) (e : Qc w w') : Va w' v l:=by
 obtain ⟨D,cap,vs,h1,h2,h3,h4,h5,h6⟩:=h;exact ⟨D,cap,vs,h1,h2.ext e,h3,h4,h5,fun i hi => (h6 i hi).ext e⟩
structure Wb (w : World) (p : Pd) (vo vd vc : Value) : Prop where
 o : Zl w vo p.o
 d : Va w vd p.d
 c : Zl w vc p.c
theorem Wb.ext {w w' : World} {p : Pd} {vo vd vc : Value} (h : Wb w p vo vd vc) (e : Qc w w') : Wb w' p vo vd vc:=⟨h.o.ext e,h.d.ext e,h.c.ext e⟩
theorem Qfc (l : List Lt) : ((List.range l.length).any fun j => decide ((Q8 l j).n < 0)) = l.any fun x => decide (x.n < 0):=by
 conv => rhs;rw [← Qba l]
 unfold Q0;rw [List.any_map];rfl
section
variable {W : World} {b : Nat} {t : TypeId} {v0 v1 v2 v3 v4 v5 v6 v7 v8 v9 v10 v11 : Value}
theorem We (h : Qb W b t #[v0,v1,v2,v3,v4,v5,v6]) : W.cell? ⟨b,0,none⟩ = some v0 ∧ W.cell? ⟨b,1,none⟩ = some v1 ∧ W.cell? ⟨b,2,none⟩ = some v2 ∧ W.cell? ⟨b,3,none⟩ = some v3 ∧ W.cell? ⟨b,4,none⟩ = some v4 ∧ W.cell? ⟨b,5,none⟩ = some v5 ∧ W.cell? ⟨b,6,none⟩ = some v6:=⟨h.cell 0,h.cell 1,h.cell 2,h.cell 3,h.cell 4,h.cell 5,h.cell 6⟩
theorem Qb.c12 (h : Qb W b t #[v0,v1,v2,v3,v4,v5,v6,v7,v8,v9,v10,v11]) : W.cell? ⟨b,0,none⟩ = some v0 ∧ W.cell? ⟨b,1,none⟩ = some v1 ∧ W.cell? ⟨b,2,none⟩ = some v2 ∧ W.cell? ⟨b,3,none⟩ = some v3 ∧ W.cell? ⟨b,4,none⟩ = some v4 ∧ W.cell? ⟨b,5,none⟩ = some v5 ∧ W.cell? ⟨b,6,none⟩ = some v6 ∧ W.cell? ⟨b,7,none⟩ = some v7 ∧ W.cell? ⟨b,8,none⟩ = some v8 ∧ W.cell? ⟨b,9,none⟩ = some v9 ∧ W.cell? ⟨b,10,none⟩ = some v10 ∧ W.cell? ⟨b,11,none⟩ = some v11:=⟨h.cell 0,h.cell 1,h.cell 2,h.cell 3,h.cell 4,h.cell 5,h.cell 6,h.cell 7,h.cell 8,h.cell 9,h.cell 10,h.cell 11⟩
end
theorem Qid (l : Lt) (w : World) :
  Calls Tryz.prog 193 #[.agg #[.string l.g,.int .i64 l.n]] w fun e w' => e = .returned (.bool (decide (l.n < 0))) ∧ Qc w w':=by
 go_enter Tryz.func193,Tryz.ntmps193
 go_upto_region 1 with fail
 obtain ⟨v,hv⟩:=Qe (w.alloc (.cells #[.string l.g,.int .i64 l.n] 85));rw [← hv];have E : Qc w v:=by rw [hv];exact (Qc.refl _).alloc _
 have B1 : Qb v w.heap.size 85 #[.string l.g,.int .i64 l.n]:=by rw [hv];exact Qb.new _ _ _
 clear hv;generalize w.heap.size = b1 at *;obtain ⟨k0,k1,lk⟩:=Qb.d2 B1;go_wp2;go_ret;exact ⟨rfl,E⟩
theorem Qjc (A : OA) (n cap : Nat) (f : Nat → Lt) (w : World) (hA : Qm w A n 2 (Q5 f)) (hn : n ≤ 9223372036854775807) :
  Calls Tryz.prog 195 #[.slice A n cap,.func (.func 193) #[] #[]] w fun e w' => ∃ r : Int,e = .returned (.int .i64 r) ∧ decide (0 ≤ r) = ((List.range n).any fun j => decide ((f j).n < 0)) ∧ Qc w w':=by
 go_enter Tryz.func195,Tryz.ntmps195
 go_wp2
 go_loopw [8] (fun iv wr => ∃ k : Nat,k ≤ n ∧ iv = .int .i64 (k : Int) ∧ Hid (∀ j,j < k → decide ((f j).n < 0) = false) ∧ Qc w wr) (fun iv _ => n - (intOf iv).toNat)
 case atStart => exact ⟨0,Nat.zero_le _,rfl,fun j h => absurd h Qa,Qc.refl _⟩
 case round =>
  obtain ⟨k,hk0,rfl,hno,hE⟩:=hrel;obtain ⟨wo,rfl⟩:=Qe wr;by_cases hlt : k < n
  ·obtain ⟨b, off, hAA, hb, hc⟩ := (hA.ext hE) Qa;subst hAA;have c0 : wo.cell? ⟨b, off + k * 2, none⟩ = some (.string (f k).g) := by simpa [Q5] using hc k 0 _ hlt rfl
   have c1 : wo.cell? ⟨b,off + k * 2 + 1,none⟩ = some (.int .i64 (f k).n):=by simpa [Q5] using hc k 1 _ hlt rfl
   have NP:=Qid (f k) wo;clear hc hA;generalize hq : decide ((f k).n < 0) = q at *;have HQ:=zh hq;clear hq;cases q
   ·go_wp2_with (first | (go_at_call 193;(with_reducible refine zc (NP) ?_);rintro e w4 ⟨rfl,h⟩) | (go_at_fn 193;(with_reducible refine zc (NP) ?_);rintro e w4 ⟨rfl,h⟩))
    exact ⟨⟨k + 1,Qa,by go_num,fun j hj => by
     by_cases e : j = k
     ·subst e;exact HQ.out
     ·exact hno.out j Qa,hE.trans h⟩,zi⟩
   ·go_wp2_with (first | (go_at_call 193;(with_reducible refine zc (NP) ?_);rintro e w4 ⟨rfl,h⟩) | (go_at_fn 193;(with_reducible refine zc (NP) ?_);rintro e w4 ⟨rfl,h⟩));go_ret;exact ⟨_,rfl,by rw [zt Qa];exact (List.any_eq_true.2 ⟨k,by simpa using hlt,HQ.out⟩).symm,hE.trans h⟩
  ·obtain rfl : k = n:=Qa;go_wp2;go_ret;exact ⟨_,rfl,by rw [zf Qa];exact (List.any_eq_false.2 (fun j hj => by have:=hno.out j (by simpa using hj);simpa using this)).symm,hE⟩
theorem Qg0 (A : OA) (n cap : Nat) (f : Nat → Lt) (w : World) (hA : Qm w A n 2 (Q5 f)) (hn : n ≤ 9223372036854775807) :
  Calls Tryz.prog 192 #[.slice A n cap,.func (.func 193) #[] #[]] w fun e w' => e = .returned (.bool ((List.range n).any fun j => decide ((f j).n < 0))) ∧ Qc w w':=by
 have NI:=Qjc A n cap f w hA hn
 go_enter Tryz.func192,Tryz.ntmps192
 go_wp2_with (go_at_call 195;refine zc (NI) ?_;rintro e w4 ⟨r,rfl,hr,h⟩);go_ret;exact ⟨by rw [← hr];rfl,h⟩
theorem Qie (v : Value) (l : List Lt) (w : World) (hL : Zl w v l) :
  Calls Tryz.prog 184 #[v] w fun e w' => e = .returned (.bool (Wd l)) ∧ Qc w w':=by
 obtain ⟨T,cap,rfl,hT,hcap,hmax,_⟩:=hL;have hn : l.length ≤ 9223372036854775807:=Nat.le_trans hcap (Nat.le_trans hmax zD);have N1:=Oc T l.length cap (Q8 l) w hT hcap hn;have N2:=fun w h => Qg0 T l.length cap (Q8 l) w h hn
 rw [Qfc] at N2;have HR : Hid (Wd l = (decide (0 < l.length) && decide (Jw (Q8 l) l.length = 0) && !(l.any fun x => decide (x.n < 0)))):=rfl;generalize Wd l = r at *;generalize (l.any fun x => decide (x.n < 0)) = an at *;generalize Jw (Q8 l) l.length = e1 at *;generalize l.length = n at *;by_cases h0 : 0 < n
 ·have d0 : decide ((0 : Int) < (n : Int)) = true:=zt Qa;have d0' : decide (0 < n) = true:=zt h0;by_cases hz : e1 = 0
  ·subst hz;have hr : r = !an := by rw [HR.out, d0']; rfl
   clear HR;subst hr;cases an
   all_goals
    go_enter Tryz.func184,Tryz.ntmps184
    go_wp2_with (first | (go_at_call 68;refine zc (N1) ?_;rintro e w1 ⟨rfl,h1⟩) | (go_at_call 192;refine zc (N2 _ (hT.ext h1)) ?_;rintro e w2 ⟨rfl,h2⟩));go_ret;exact ⟨rfl,h1.trans h2⟩
  ·have g0 : (e1 == 0) = false := zb hz;have hr : r = false := by rw [HR.out, d0', zf hz]; rfl
   clear HR hz;subst hr
   go_enter Tryz.func184,Tryz.ntmps184
   go_wp2_with (go_at_call 68;refine zc (N1) ?_;rintro e w1 ⟨rfl,h1⟩);go_ret;exact ⟨rfl,h1⟩
 ·have d0 : decide ((0 : Int) < (n : Int)) = false := zf Qa;have d0' : decide (0 < n) = false := zf h0;have hr : r = false := by rw [HR.out, d0']; rfl
  clear HR;subst hr
  go_enter Tryz.func184,Tryz.ntmps184
  go_wp2;go_ret;exact ⟨rfl,Qc.refl _⟩
theorem Lp {w : World} {T : OA} {cap : Nat} {l : List Lt} (h : Zl w (.slice T l.length cap) l) : Qm w T l.length 2 (Q5 (Q8 l)):=by
 obtain ⟨A,cap',e,h2,_⟩:=h;cases e
 exact h2
theorem Qmi (A A' : OA) (ca cb : Nat) (c : Qd) (p : Pd) (vo vd vc : Value) (w : World) (hC : Za w A ca A' cb c) (hP : Wb w p vo vd vc) :
  Calls Tryz.prog 159 #[.agg #[.slice A c.nk ca,.slice A' c.ny cb],.agg #[.string p.h,.int .i64 p.a.y,.int .i64 p.a.m,.bool p.a.s,.int .i64 p.a.d,.int .i64 p.b.y,.int .i64 p.b.m,.bool p.b.s,.int .i64 p.b.d,vo,vd,vc]] w fun e w' => e = .returned (.bool (c.perOk p)) ∧ Qc w w':=by
 obtain ⟨R,hR0⟩:=Qe (c.perOk p);rw [← hR0];have HR:=zh hR0;clear hR0;have NS:=fun w h => Bh A A' ca cb c p.a p.b w h
 go_enter Tryz.func159,Tryz.ntmps159
 go_upto_region 1 with fail
 obtain ⟨v,b1,b2,E,B1,B2,hbr1,hbr,hn21,hv,hb1,hb2⟩:=Jy w 130 #[.slice A c.nk ca,.slice A' c.ny cb] 55 #[.string p.h,.int .i64 p.a.y,.int .i64 p.a.m,.bool p.a.s,.int .i64 p.a.d,.int .i64 p.b.y,.int .i64 p.b.m,.bool p.b.s,.int .i64 p.b.d,vo,vd,vc];rw [← hv,← hb2,← hb1];clear hv hb1 hb2;have C:=hC.ext E;have P:=hP.ext E;clear hC hP;obtain ⟨TO,co,rfl,_,co1,co2,_⟩:=P.o;obtain ⟨TC,cc,rfl,_,cc1,cc2,_⟩:=P.c;obtain ⟨TD,cd,vs,rfl,_,cd1,cd2,_,_⟩:=P.d;have no : p.o.length ≤ 9223372036854775807:=Nat.le_trans co1 (Nat.le_trans co2 zD);have nc : p.c.length ≤ 9223372036854775807:=Nat.le_trans cc1 (Nat.le_trans cc2 zD);have nd : p.d.length ≤ 9223372036854775807:=Nat.le_trans cd1 (Nat.le_trans cd2 zD)
 have KO:=fun w h => Oc TO p.o.length co (Q8 p.o) w h co1 no
 have KC:=fun w h => Oc TC p.c.length cc (Q8 p.c) w h cc1 nc
 clear co1 co2 cc1 cc2 cd1 cd2;have HH : Hid (c.perHead p = (Zu p.h && c.spanV p.a p.b && decide (Jw (Q8 p.o) p.o.length = 0) && decide (Jw (Q8 p.c) p.c.length = 0) && decide (p.d.length ≤ 64))):=rfl;have hbad : Hid (c.perHead p = false → R = false):=fun h => by rw [HR.out];exact Qc0 h
 obtain ⟨nm,hnm⟩:=Qe (Zu p.h);have NN:=fun w => Ot p.h w
 rw [← hnm] at HH NN;replace hnm:=zh hnm;have NSP : Hid (c.spanV p.a p.b = _):=show c.spanV p.a p.b = (decide (0 < c.numV p.a) && decide (c.numV p.a ≤ c.numV p.b)) from rfl
 unfold Qd.spanV at HH;generalize (decide (0 < c.numV p.a) && decide (c.numV p.a ≤ c.numV p.b)) = sp at *;clear NSP;obtain ⟨eo,heo⟩:=Qe (Jw (Q8 p.o) p.o.length);rw [← heo] at HH KO;replace heo:=zh heo;obtain ⟨ec,hec⟩:=Qe (Jw (Q8 p.c) p.c.length);rw [← hec] at HH KC;replace hec:=zh hec;obtain ⟨k0,k1,lk⟩:=Qb.d2 B1;obtain ⟨p0,p1,p2,p3,p4,p5,p6,p7,p8,p9,p10,p11,lp⟩:=Qb.d12 B2;by_cases hz : nm = false
 ·have hr:=hbad.out (by rw [HH.out,hz];rfl);subst hz;clear HH hbad HR NS KO KC hnm heo hec;go_wp2_with (go_at_call 120;refine zc (NN _) ?_;rintro e wn ⟨rfl,rfl⟩);go_ret;exact ⟨by rw [hr];rfl,E⟩
 obtain rfl : nm = true:=by simpa using hz
 clear hz;by_cases hz : sp = false
 ·have hr:=hbad.out (by rw [HH.out,hz];rfl);subst hz;clear HH hbad HR KO KC hnm heo hec;go_wp2_with (first | (go_at_call 120;refine zc (NN _) ?_;rintro e wn ⟨rfl,rfl⟩) | (go_at_call 91;refine zc (NS _ C) ?_;rintro e w1 ⟨rfl,h1⟩;replace E:=E.trans h1;replace C:=C.ext h1;replace P:=P.ext h1;replace B1:=B1.ext h1;replace B2:=B2.ext h1;clear h1 k0 k1 lk p0 p1 p2 p3 p4 p5 p6 p7 p8 p9 p10 p11 lp;obtain ⟨k0,k1⟩:=B1.c2;have lk:=B1.lt;obtain ⟨p0,p1,p2,p3,p4,p5,p6,p7,p8,p9,p10,p11⟩:=B2.c12;have lp:=B2.lt));go_ret;exact ⟨by rw [hr];rfl,E⟩
 obtain rfl : sp = true:=by simpa using hz
 clear hz;by_cases hz : eo = 0;rotate_left
 ·have hr := hbad.out (by rw [HH.out, zf hz]; rfl);have g0 : (eo == 0) = false := zb hz;have g0n : (eo != 0) = true := by rw [bne, g0]; rfl
  clear HH hbad HR KC hnm heo hec hz;go_wp2_with (first | (go_at_call 120;refine zc (NN _) ?_;rintro e wn ⟨rfl,rfl⟩) | (go_at_call 91;refine zc (NS _ C) ?_;rintro e w1 ⟨rfl,h1⟩;replace E:=E.trans h1;replace C:=C.ext h1;replace P:=P.ext h1;replace B1:=B1.ext h1;replace B2:=B2.ext h1;clear h1 k0 k1 lk p0 p1 p2 p3 p4 p5 p6 p7 p8 p9 p10 p11 lp;obtain ⟨k0,k1⟩:=B1.c2;have lk:=B1.lt;obtain ⟨p0,p1,p2,p3,p4,p5,p6,p7,p8,p9,p10,p11⟩:=B2.c12;have lp:=B2.lt) | (go_at_call 68;refine zc (KO _ (Lp P.o)) ?_;rintro e w2 ⟨rfl,h1⟩;replace E:=E.trans h1;replace C:=C.ext h1;replace P:=P.ext h1;replace B1:=B1.ext h1;replace B2:=B2.ext h1;clear h1 k0 k1 lk p0 p1 p2 p3 p4 p5 p6 p7 p8 p9 p10 p11 lp;obtain ⟨k0,k1⟩:=B1.c2;have lk:=B1.lt;obtain ⟨p0,p1,p2,p3,p4,p5,p6,p7,p8,p9,p10,p11⟩:=B2.c12;have lp:=B2.lt))
  go_ret;exact ⟨by rw [hr];rfl,E⟩
 subst hz;by_cases hz : ec = 0;rotate_left
 ·have hr := hbad.out (by rw [HH.out, zf hz, Bool.and_false]; rfl);have g0 : (ec == 0) = false := zb hz;have g0n : (ec != 0) = true := by rw [bne, g0]; rfl
  clear HH hbad HR hnm heo hec hz;go_wp2_with (first | (go_at_call 120;refine zc (NN _) ?_;rintro e wn ⟨rfl,rfl⟩) | (go_at_call 91;refine zc (NS _ C) ?_;rintro e w1 ⟨rfl,h1⟩;replace E:=E.trans h1;replace C:=C.ext h1;replace P:=P.ext h1;replace B1:=B1.ext h1;replace B2:=B2.ext h1;clear h1 k0 k1 lk p0 p1 p2 p3 p4 p5 p6 p7 p8 p9 p10 p11 lp;obtain ⟨k0,k1⟩:=B1.c2;have lk:=B1.lt;obtain ⟨p0,p1,p2,p3,p4,p5,p6,p7,p8,p9,p10,p11⟩:=B2.c12;have lp:=B2.lt) | (go_at_call 68;(with_reducible refine zc (KO _ (Lp P.o)) ?_);rintro e w2 ⟨rfl,h1⟩;replace E:=E.trans h1;replace C:=C.ext h1;replace P:=P.ext h1;replace B1:=B1.ext h1;replace B2:=B2.ext h1;clear h1 k0 k1 lk p0 p1 p2 p3 p4 p5 p6 p7 p8 p9 p10 p11 lp;obtain ⟨k0,k1⟩:=B1.c2;have lk:=B1.lt;obtain ⟨p0,p1,p2,p3,p4,p5,p6,p7,p8,p9,p10,p11⟩:=B2.c12;have lp:=B2.lt) | (go_at_call 68;(with_reducible refine zc (KC _ (Lp P.c)) ?_);rintro e w3 ⟨rfl,h1⟩;replace E:=E.trans h1;replace C:=C.ext h1;replace P:=P.ext h1;replace B1:=B1.ext h1;replace B2:=B2.ext h1;clear h1 k0 k1 lk p0 p1 p2 p3 p4 p5 p6 p7 p8 p9 p10 p11 lp;obtain ⟨k0,k1⟩:=B1.c2;have lk:=B1.lt;obtain ⟨p0,p1,p2,p3,p4,p5,p6,p7,p8,p9,p10,p11⟩:=B2.c12;have lp:=B2.lt))
  go_ret;exact ⟨by rw [hr];rfl,E⟩
 subst hz;by_cases hz : p.d.length ≤ 64;rotate_left
 ·have hr:=hbad.out (by rw [HH.out,zf hz,Bool.and_false]);have d1 : decide ((64 : Int) < (p.d.length : Int)) = true:=zt Qa;clear HH hbad HR hnm heo hec hz;go_wp2_with (first | (go_at_call 120;refine zc (NN _) ?_;rintro e wn ⟨rfl,rfl⟩) | (go_at_call 91;refine zc (NS _ C) ?_;rintro e w1 ⟨rfl,h1⟩;replace E:=E.trans h1;replace C:=C.ext h1;replace P:=P.ext h1;replace B1:=B1.ext h1;replace B2:=B2.ext h1;clear h1 k0 k1 lk p0 p1 p2 p3 p4 p5 p6 p7 p8 p9 p10 p11 lp;obtain ⟨k0,k1⟩:=B1.c2;have lk:=B1.lt;obtain ⟨p0,p1,p2,p3,p4,p5,p6,p7,p8,p9,p10,p11⟩:=B2.c12;have lp:=B2.lt) | (go_at_call 68;(with_reducible refine zc (KO _ (Lp P.o)) ?_);rintro e w2 ⟨rfl,h1⟩;replace E:=E.trans h1;replace C:=C.ext h1;replace P:=P.ext h1;replace B1:=B1.ext h1;replace B2:=B2.ext h1;clear h1 k0 k1 lk p0 p1 p2 p3 p4 p5 p6 p7 p8 p9 p10 p11 lp;obtain ⟨k0,k1⟩:=B1.c2;have lk:=B1.lt;obtain ⟨p0,p1,p2,p3,p4,p5,p6,p7,p8,p9,p10,p11⟩:=B2.c12;have lp:=B2.lt) | (go_at_call 68;(with_reducible refine zc (KC _ (Lp P.c)) ?_);rintro e w3 ⟨rfl,h1⟩;replace E:=E.trans h1;replace C:=C.ext h1;replace P:=P.ext h1;replace B1:=B1.ext h1;replace B2:=B2.ext h1;clear h1 k0 k1 lk p0 p1 p2 p3 p4 p5 p6 p7 p8 p9 p10 p11 lp;obtain ⟨k0,k1⟩:=B1.c2;have lk:=B1.lt;obtain ⟨p0,p1,p2,p3,p4,p5,p6,p7,p8,p9,p10,p11⟩:=B2.c12;have lp:=B2.lt))
  go_ret;exact ⟨by rw [hr];rfl,E⟩
 have hh : c.perHead p = true:=by rw [HH.out,zt hz];rfl
 have HR2 : Hid (R = (List.range p.d.length).all (c.dealOk p)):=by unfold Hid;rw [HR.out];unfold Qd.perOk;rw [hh];rfl
 have d1 : decide ((64 : Int) < (p.d.length : Int)) = false:=zf Qa;clear HH hbad HR hnm heo hec hz hh;have NA:=fun w h => Xr A A' ca cb c p.a w h
 have NB:=fun w h => Xr A A' ca cb c p.b w h
 go_upto_region 3 with (first | (go_at_call 120;refine zc (NN _) ?_;rintro e wn ⟨rfl,rfl⟩) | (go_at_call 91;refine zc (NS _ C) ?_;rintro e w1 ⟨rfl,h1⟩;replace E:=E.trans h1;replace C:=C.ext h1;replace P:=P.ext h1;replace B1:=B1.ext h1;replace B2:=B2.ext h1;clear h1 k0 k1 lk p0 p1 p2 p3 p4 p5 p6 p7 p8 p9 p10 p11 lp;obtain ⟨k0,k1⟩:=B1.c2;have lk:=B1.lt;obtain ⟨p0,p1,p2,p3,p4,p5,p6,p7,p8,p9,p10,p11⟩:=B2.c12;have lp:=B2.lt) | (go_at_call 68;(with_reducible refine zc (KO _ (Lp P.o)) ?_);rintro e w2 ⟨rfl,h1⟩;replace E:=E.trans h1;replace C:=C.ext h1;replace P:=P.ext h1;replace B1:=B1.ext h1;replace B2:=B2.ext h1;clear h1 k0 k1 lk p0 p1 p2 p3 p4 p5 p6 p7 p8 p9 p10 p11 lp;obtain ⟨k0,k1⟩:=B1.c2;have lk:=B1.lt;obtain ⟨p0,p1,p2,p3,p4,p5,p6,p7,p8,p9,p10,p11⟩:=B2.c12;have lp:=B2.lt) | (go_at_call 68;(with_reducible refine zc (KC _ (Lp P.c)) ?_);rintro e w3 ⟨rfl,h1⟩;replace E:=E.trans h1;replace C:=C.ext h1;replace P:=P.ext h1;replace B1:=B1.ext h1;replace B2:=B2.ext h1;clear h1 k0 k1 lk p0 p1 p2 p3 p4 p5 p6 p7 p8 p9 p10 p11 lp;obtain ⟨k0,k1⟩:=B1.c2;have lk:=B1.lt;obtain ⟨p0,p1,p2,p3,p4,p5,p6,p7,p8,p9,p10,p11⟩:=B2.c12;have lp:=B2.lt))
 clear NS KO KC NN;have n1:=fun u : XW _ => NA _ (C.ext u.e)
 have n2:=fun u : XW _ => NB _ (C.ext u.e)
 refine Qy w3 ?_;intro vl hvl;clear n1 n2;obtain ⟨_,_,_,_⟩:=Qv w3 hvl;replace E:=E.trans hvl;replace C:=C.ext hvl;replace P:=P.ext hvl;replace B1:=B1.ext hvl;replace B2:=B2.ext hvl;clear k0 k1 lk p0 p1 p2 p3 p4 p5 p6 p7 p8 p9 p10 p11 lp NA NB;obtain ⟨p0,p1,p2,p3,p4,p5,p6,p7,p8,p9,p10,p11,lp⟩:=Qb.d12 B2;go_upto_region 5 with fail
 clear p0 p1 p2 p3 p4 p5 p6 p7 p8 p9 p10 p11 lp;obtain ⟨n,hnl⟩:=Qe (p.d.length);rw [← hnl] at nd d1 HR2 ⊢;replace hnl:=zh hnl;obtain ⟨_,_,vs',e1,hD,_,_,_,hat⟩:=P.d;cases e1
 rw [← hnl.out] at hD hat;replace hD : Qm vl TD n 7 (fun i => Zm (p.dl i) (vs' i)):=hD;replace hat : Hid (∀ i,i < n → Zl vl (vs' i) (p.dl i).l):=hat;clear P
 go_loopw [5,52] (fun lv iv wr => ∃ k : Nat,k ≤ n ∧ iv = .int .i64 k ∧ lv = .int .i64 (c.lastD p k) ∧ Hid (∀ j,j < k → c.dealOk p j = true) ∧ Qc vl wr) (fun _ i _ => n - (intOf i).toNat)
 case atStart => exact ⟨0,Nat.zero_le _,rfl,rfl,(fun j h => absurd h Qa),Qc.refl _⟩
 case round =>
  obtain ⟨k,hk,rfl,rfl,hall,hE⟩:=hrel;obtain ⟨wo,rfl⟩:=Qe wr;by_cases hlt : k < n
  ·obtain ⟨b, off, rfl, hb, hc⟩ := (hD.ext hE) Qa;have hL := (hat.out k hlt).ext hE;have c0 : wo.cell? ⟨b, off + k * 7, none⟩ = some (.int .i64 (p.dl k).on.y) := by simpa [Zm] using hc k 0 _ hlt rfl
   have c1 : wo.cell? ⟨b,off + k * 7 + 1,none⟩ = some (.int .i64 (p.dl k).on.m):=by simpa [Zm] using hc k 1 _ hlt rfl
   have c2 : wo.cell? ⟨b,off + k * 7 + 2,none⟩ = some (.bool (p.dl k).on.s):=by simpa [Zm] using hc k 2 _ hlt rfl
   have c3 : wo.cell? ⟨b,off + k * 7 + 3,none⟩ = some (.int .i64 (p.dl k).on.d):=by simpa [Zm] using hc k 3 _ hlt rfl
   have c4 : wo.cell? ⟨b,off + k * 7 + 4,none⟩ = some (.bool (p.dl k).i):=by simpa [Zm] using hc k 4 _ hlt rfl
   have c5 : wo.cell? ⟨b,off + k * 7 + 5,none⟩ = some (.string (p.dl k).w):=by simpa [Zm] using hc k 5 _ hlt rfl
   have c6 : wo.cell? ⟨b,off + k * 7 + 6,none⟩ = some (vs' k):=by simpa [Zm] using hc k 6 _ hlt rfl
   have NG:=fun w h => Qie (vs' k) (p.dl k).l w h
   have ND:=fun w h => Xr A A' ca cb c (p.dl k).on w h
   have NN:=fun w => Ot (p.dl k).w w
   have HK : Hid (c.dealOk p k = !(decide (c.numV (p.dl k).on < c.lastD p k) || decide (c.numV p.b < c.numV (p.dl k).on) || !Zu (p.dl k).w || ((p.dl k).w.toList == p.h.toList) || !Wd (p.dl k).l)):=by
    unfold Hid;rw [Qhg,Nm]
   have hno : Hid (c.dealOk p k = false → R = false):=fun h => by
    rw [HR2.out];exact List.all_eq_false.2 ⟨k,by simpa using hlt,by simp [h]⟩
   have hyes : Hid (c.dealOk p k = true → ∀ j,j < k + 1 → c.dealOk p j = true):=fun h j hj => by
    by_cases e : j = k
    ·subst e;exact h
    ·exact hall.out j Qa
   have hlo : Hid (c.lastD p (k + 1) = c.numV (p.dl k).on):=rfl;obtain ⟨VL,hvl⟩:=Qe (vs' k);rw [← hvl] at c6 NG hL;clear hvl hc hall HR2 hD hat;obtain ⟨TL,cl,hVL,_⟩:=id hL;subst hVL;generalize c.dealOk p k = dk at *;generalize c.lastD p k = L0 at *;generalize c.numV (p.dl k).on = L1 at *;generalize c.numV p.b = L2 at *;generalize Zu (p.dl k).w = nm at *;generalize hse : ((p.dl k).w.toList == p.h.toList) = se at *;generalize Wd (p.dl k).l = gv1 at *;go_upto_region 7 with fail
   obtain ⟨v3,hv⟩:=Qe (wo.alloc (.cells #[.int .i64 (p.dl k).on.y,.int .i64 (p.dl k).on.m,.bool (p.dl k).on.s,.int .i64 (p.dl k).on.d,.bool (p.dl k).i,.string (p.dl k).w,.slice TL (p.dl k).l.length cl] 57));rw [← hv];have E3 : Qc wo v3:=by rw [hv];exact (Qc.refl _).alloc _
   have H3 : Qb v3 wo.heap.size 57 #[.int .i64 (p.dl k).on.y,.int .i64 (p.dl k).on.m,.bool (p.dl k).on.s,.int .i64 (p.dl k).on.d,.bool (p.dl k).i,.string (p.dl k).w,.slice TL (p.dl k).l.length cl]:=by rw [hv];exact Qb.new _ _ _
   clear hv;generalize wo.heap.size = b3 at *;clear c0 c1 c2 c3 c4 c5 c6;replace hL:=hL.ext E3;replace hE:=hE.trans E3;clear E3;have B1e:=B1.ext hE;obtain ⟨k0,k1,lk⟩:=Qb.d2 B1e;obtain ⟨q0,q1,q2,q3,q4,q5,q6,lq⟩:=Qb.d7 H3;go_upto_region 8 with (go_at_call 48;refine zc (ND _ (C.ext hE)) ?_;rintro e w4 ⟨rfl,h4⟩)
   replace hE:=hE.trans h4;replace H3:=H3.ext h4;replace hL:=hL.ext h4;clear h4 q0 q1 q2 q3 q4 q5 q6 lq k0 k1 lk B1e ND;obtain ⟨q0,q1,q2,q3,q4,q5,q6,lq⟩:=Qb.d7 H3;have B2e:=B2.ext hE;obtain ⟨p0,p1,p2,p3,p4,p5,p6,p7,p8,p9,p10,p11,lp⟩:=Qb.d12 B2e;by_cases a1 : L1 < L0
   ·have g1 : decide (L1 < L0) = true:=zt a1;have hr:=hno.out (by rw [HK.out,g1];rfl);clear HK hno hyes hlo a1 hse;go_wp2;go_ret;exact ⟨by rw [hr];rfl,E.trans hE⟩
   have g1 : decide (L1 < L0) = false:=zf a1;rw [g1] at HK;clear a1;by_cases a2 : L2 < L1
   ·have g2 : decide (L2 < L1) = true:=zt a2;have hr:=hno.out (by rw [HK.out,g2];rfl);clear HK hno hyes hlo a2 hse;go_wp2;go_ret;exact ⟨by rw [hr];rfl,E.trans hE⟩
   have g2 : decide (L2 < L1) = false:=zf a2;rw [g2] at HK;clear a2;cases nm
   ·have hr:=hno.out (by rw [HK.out];rfl);clear HK hno hyes hlo hse;go_wp2_with (first | (go_at_call 120;refine zc (NN _) ?_;rintro e wn ⟨rfl,rfl⟩));go_ret;exact ⟨by rw [hr];rfl,E.trans hE⟩
   cases se
   rotate_left
   ·have hr:=hno.out (by rw [HK.out];rfl);clear HK hno hyes hlo;go_wp2_with (first | (go_at_call 120;refine zc (NN _) ?_;rintro e wn ⟨rfl,rfl⟩));go_ret;exact ⟨by rw [hr];rfl,E.trans hE⟩
   cases gv1
   ·have hr:=hno.out (by rw [HK.out];rfl);clear HK hno hyes hlo;go_wp2_with (first | (go_at_call 120;refine zc (NN _) ?_;rintro e wn ⟨rfl,rfl⟩) | (go_at_call 184;refine zc (NG _ hL) ?_;rintro e w6 ⟨rfl,h6⟩));go_ret;exact ⟨by rw [hr];rfl,(E.trans hE).trans h6⟩
   have hx:=zh (hyes.out (by rw [HK.out];rfl));clear HK hno hyes;go_wp2_with (first | (go_at_call 120;refine zc (NN _) ?_;rintro e wn ⟨rfl,rfl⟩) | (go_at_call 184;refine zc (NG _ hL) ?_;rintro e w6 ⟨rfl,h6⟩));exact ⟨⟨k + 1,Qa,by go_num,by rw [hlo.out],hx,hE.trans h6⟩,zi⟩
  ·obtain rfl : k = n:=Qa
   have hr : R = true:=by
    rw [HR2.out];exact List.all_eq_true.2 fun j hj => hall.out j (by simpa using hj)
   clear HR2 hall;subst hr;go_wp2;go_ret;exact ⟨rfl,E.trans hE⟩
end
section
open Go Go.RowKit
theorem zp7 {w : World} {b off n k : Nat} {g : Nat → Dl} {vs : Nat → Value} (hc : ∀ i j v,i < n → (Zm (g i) (vs i))[j]? = some v → w.cell? ⟨b,off + i * 7 + j,none⟩ = some v) (hk : k < n) :
  w.cell? ⟨b,off + k * 7,none⟩ = some (.int .i64 (g k).on.y) ∧ w.cell? ⟨b,off + k * 7 + 1,none⟩ = some (.int .i64 (g k).on.m) ∧ w.cell? ⟨b,off + k * 7 + 2,none⟩ = some (.bool (g k).on.s) ∧ w.cell? ⟨b,off + k * 7 + 3,none⟩ = some (.int .i64 (g k).on.d) ∧ w.cell? ⟨b,off + k * 7 + 4,none⟩ = some (.bool (g k).i) ∧ w.cell? ⟨b,off + k * 7 + 5,none⟩ = some (.string (g k).w) ∧ w.cell? ⟨b,off + k * 7 + 6,none⟩ = some (vs k) :=
 ⟨hc k 0 _ hk rfl,hc k 1 _ hk rfl,hc k 2 _ hk rfl,hc k 3 _ hk rfl,hc k 4 _ hk rfl,hc k 5 _ hk rfl,hc k 6 _ hk rfl⟩
end
end Go.Proofs.YtoflcheopfppoaaGreatDoor

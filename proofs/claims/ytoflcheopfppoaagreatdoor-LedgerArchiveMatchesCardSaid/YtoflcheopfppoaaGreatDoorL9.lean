/- Walks of the program's functions and plain facts, packed; proved: the lemmas below; no conditions but those that each states. -/
import Derived.Test.YtoflcheopfppoaaGreatDoorL8
import Derived.Laws.EntriesVeiled
import Derived.Test.YtoflcheopfppoaaGreatDoorL1
set_option maxRecDepth 100000
set_option maxHeartbeats 4000000
namespace Go.Proofs.YtoflcheopfppoaaGreatDoor
section
open Go Go.RowKit Go.Shelf
attribute [local go_sem] Z5
def Ur (x : Lt) : Prop:=-1099511627776 ≤ x.n ∧ x.n ≤ 1099511627776
def lenOf : Value → Nat
 | .slice _ n _ => n
 | _ => 0
theorem K3 {w : World} {base base' size n : Nat} {e : TypeId} {v : Value} {xs : List Value} (h : w.ownsRow base e size v n xs) (hb : base' ≤ base) : w.ownsRow base' e size v n xs :=
 ⟨h.1,h.2.elim Or.inl (fun ⟨g,cap,cur,hv,hg,r⟩ => Or.inr ⟨g,cap,cur,hv,Nat.le_trans hb hg,r⟩)⟩
theorem Kw (f : Nat → Lt) (n : Nat) : Jm f (n + 1) = f 0 :: Jm (fun t => f (t + 1)) n:=by
 unfold Jm;rw [List.range_succ_eq_map,List.map_cons,List.map_map];rfl
theorem Hj {w : World} {b off n : Nat} {f : Nat → Lt} (h : Qp w (some ⟨b,off,none⟩) (n + 1) 2 (Zc f)) : Qp w (some ⟨b,off + 2,none⟩) n 2 (Zc (fun t => f (t + 1))):=fun _ => by
 obtain ⟨b',off',hA,hb,hc⟩:=h (by omega);obtain ⟨rfl,rfl⟩ : b = b' ∧ off = off':=by simpa using hA
 exact ⟨b,off + 2,rfl,hb,fun i j v hi hv => by
  have:=hc (i + 1) j v (by omega) hv;rw [show off + 2 + i * 2 + j = off + (i + 1) * 2 + j by omega];exact this⟩
theorem I6 {q n m : Nat} {f g : Nat → Lt} (h : m = 0 ∨ J3 (f 0).g (g 0).g = true) : Yl (q + 1) (Jm f (n + 1)) (Jm g m) = (f 0,Xg) :: Yl q (Jm (fun t => f (t + 1)) n) (Jm g m):=by
 rw [Kw]
 cases m with
 | zero => rfl
 | succ m => rw [Kw g m,Yl,if_pos (h.resolve_left (by omega))]
theorem I7 {q n m : Nat} {f g : Nat → Lt} (h : n = 0 ∨ (J3 (f 0).g (g 0).g = false ∧ J3 (g 0).g (f 0).g = true)) : Yl (q + 1) (Jm f n) (Jm g (m + 1)) = (Xg,g 0) :: Yl q (Jm f n) (Jm (fun t => g (t + 1)) m):=by
 rw [Kw]
 cases n with
 | zero => rfl
 | succ n =>
  have h2:=h.resolve_left (by omega);rw [Kw f n,Yl,if_neg (by rw [h2.1];decide),if_pos h2.2]
theorem step_b {q n m : Nat} {f g : Nat → Lt} (h1 : J3 (f 0).g (g 0).g = false) (h2 : J3 (g 0).g (f 0).g = false) : Yl (q + 1) (Jm f (n + 1)) (Jm g (m + 1)) = (f 0,g 0) :: Yl q (Jm (fun t => f (t + 1)) n) (Jm (fun t => g (t + 1)) m):=by
 rw [Kw,Kw,Yl,if_neg (by rw [h1];decide),if_neg (by rw [h2];decide)]
theorem Mg {sg : Int} {p : Lt × Lt} {L T : List (Lt × Lt)} {xs : List Value} (h : xs ++ (Xr sg (p :: L)).flatMap J1 = (Xr sg T).flatMap J1) : (xs ++ (Vj sg p).flatMap J1) ++ (Xr sg L).flatMap J1 = (Xr sg T).flatMap J1:=by
 rw [← h];unfold Xr;rw [List.flatMap_cons,List.flatMap_append,List.append_assoc]
theorem Lm {sg : Int} {p : Lt × Lt} {L T : List (Lt × Lt)} (h : Xb sg (p :: L) = Xb sg T) (hp : Xw sg p.1 p.2 = true) : Xb sg L = Xb sg T:=by
 rw [← h];unfold Xb;rw [List.all_cons,hp,Bool.true_and]
theorem Ll {sg : Int} {p : Lt × Lt} {L T : List (Lt × Lt)} (h : Xb sg (p :: L) = Xb sg T) (hp : Xw sg p.1 p.2 = false) : Xb sg T = false:=by
 rw [← h];unfold Xb;rw [List.all_cons,hp,Bool.false_and]
theorem L4 (sg : Int) (p : Lt × Lt) : ((Vj sg p).flatMap J1).length ≤ 2:=by
 unfold Vj;split <;> simp [J1]
theorem sg_bd {sg n : Int} (hs : sg = 1 ∨ sg = -1) (h1 : -1099511627776 ≤ n) (h2 : n ≤ 1099511627776) : -1099511627776 ≤ sg * n ∧ sg * n ≤ 1099511627776:=by
 rcases hs with rfl | rfl <;> omega
theorem Lx {W : World} {b b' : Nat} {t t' : TypeId} {cs cs' : Array Value} (h : Qa W b t cs) (h' : Qa W b' t' cs') (hne : t ≠ t') : b ≠ b':=fun e => by
 subst e;have e:=(show W.heap[b]? = _ from h).symm.trans h';simp at e;exact hne e.2
theorem Mj (sg : Int) (hs : sg = 1 ∨ sg = -1) (x y : Lt) (hx : Ur x) (hy : Ur y) (B0 bs bo : Nat) (F : Option Addr) (k cap : Nat) (xs : List Value) (w : World) (HS : Qa w bs 3 #[.int .i64 sg]) (HO : Qa w bo 52 #[.slice F k cap]) (hO : w.ownsRow B0 85 2 (.slice F k cap) k xs) (hk : k ≤ 1000) (hb0 : B0 ≤ w.heap.size) :
  Calls Tryz.prog 113 #[.agg #[.string x.g,.int .i64 x.n],.agg #[.string y.g,.int .i64 y.n],.pointer (some ⟨bs,0,none⟩),.pointer (some ⟨bo,0,none⟩)] w fun e w' => e = .returned (.bool (Xw sg x y)) ∧ Xl B0 bo w w' ∧ (Xw sg x y = true → ∃ F' k' cap',Qa w' bo 52 #[.slice F' k' cap'] ∧ w'.ownsRow B0 85 2 (.slice F' k' cap') k' (xs ++ (Vj sg (x,y)).flatMap J1)):=by
 have h1:=sg_bd hs hy.1 hy.2;have h2:=hx.1;have h3:=hx.2;exact Qg3 sg x y B0 bs bo F k cap xs w HS HO hO hk hO.1 hb0 (by omega) (by omega) (by omega) (by omega)
theorem Gh : Ur ⟨⟨#[]⟩,0⟩:=by unfold Ur;decide
theorem Qg2 (m : Nat) : Yl m [] [] = []:=by cases m <;> rfl
def Df (A : Nat → Nat → Nat → Nat → Act) (S : World → Nat → Nat → Nat → Nat → Prop) : Exit → Act → World → Prop:=fun e a' w' => e = .normal ∧ ∃ p q r s,S w' p q r s ∧ a' = A p q r s
theorem Ng {A : Nat → Nat → Nat → Nat → Act} {S : World → Nat → Nat → Nat → Nat → Prop} {w' : World} (p q r s : Nat) {a' : Act} (h : S w' p q r s) (ha : a' = A p q r s) : Df A S .normal a' w':=⟨rfl,p,q,r,s,h,ha⟩
theorem Qjg {P : Program} {c : Code} {Q : Exit → Act → World → Prop} {a : Act} {w : World} {A : Nat → Nat → Nat → Nat → Act} (S : World → Nat → Nat → Nat → Nat → Prop) (h1 : c.wp P (Df A S) a w) (h2 : ∀ p q r s w',S w' p q r s → Q .normal (A p q r s) w') : c.wp P Q a w :=
 Code.wp_mono (fun e a' w' ⟨he,p,q,r,s,hs,ha⟩ => by subst he;subst ha;exact h2 p q r s w' hs) h1
def Dc (A : Nat → Nat → Act) (S : World → Nat → Nat → Prop) : Exit → Act → World → Prop:=fun e a' w' => e = .normal ∧ ∃ p q,S w' p q ∧ a' = A p q
theorem Ja {A : Nat → Nat → Act} {S : World → Nat → Nat → Prop} {w' : World} (p q : Nat) {a' : Act} (h : S w' p q) (ha : a' = A p q) : Dc A S .normal a' w':=⟨rfl,p,q,h,ha⟩
theorem W8 {P : Program} {c : Code} {Q : Exit → Act → World → Prop} {a : Act} {w : World} {A : Nat → Nat → Act} (S : World → Nat → Nat → Prop) (h1 : c.wp P (Dc A S) a w) (h2 : ∀ p q w',S w' p q → Q .normal (A p q) w') : c.wp P Q a w :=
 Code.wp_mono (fun e a' w' ⟨he,p,q,hs,ha⟩ => by subst he;subst ha;exact h2 p q w' hs) h1
theorem Qfp (W0 : World) (A B : Option Addr) (n m ca cb : Nat) (f g : Nat → Lt) (sg : Int) (hsg : sg = 1 ∨ sg = -1) (hf : ∀ i,i < n → Ur (f i)) (hg : ∀ i,i < m → Ur (g i)) (hn : n ≤ 64) (hm : m ≤ 64) (hca : n ≤ ca) (hcb : m ≤ cb) (hA : Qp W0 A n 2 (Zc f)) (hB : Qp W0 B m 2 (Zc g)) (bs bo : Nat) (w : World) (hE : Qb W0 w) (hbo : W0.heap.size ≤ bo) (HS : Qa w bs 3 #[.int .i64 sg]) (HO : Qa w bo 52 #[.slice none 0 0]) :
  Calls Tryz.prog 111 #[.slice A n ca,.slice B m cb,.func (.func 112) #[] #[],.func (.func 113) #[] #[.pointer (some ⟨bs,0,none⟩),.pointer (some ⟨bo,0,none⟩)]] w fun e w' => e = .returned (.bool (Xb sg (Wv f n g m))) ∧ Qb W0 w' ∧ (Xb sg (Wv f n g m) = true → ∃ F k cap,Qa w' bo 52 #[.slice F k cap] ∧ w'.ownsRow W0.heap.size 85 2 (.slice F k cap) k ((Xr sg (Wv f n g m)).flatMap J1)):=by
 obtain ⟨T,hT0⟩:=Qg (Wv f n g m);rw [← hT0];replace hT0:=Lib.hid hT0;replace hf:=Lib.hid hf;replace hg:=Lib.hid hg
 go_enter Tryz.func111,Tryz.ntmps111
 go_upto_region 2 with (fail)
 obtain ⟨v,hv⟩:=Qg (w.alloc (.cells #[.string ⟨#[]⟩,.int .i64 0] 85));rw [← hv];have E : Qb w v:=by rw [hv];exact (Qb.refl _).alloc _
 have B9 : Qa v w.heap.size 85 #[.string ⟨#[]⟩,.int .i64 0]:=by rw [hv];exact (Qa.new _ _ _)
 clear hv;obtain ⟨b1,hb1⟩:=Qg (w.heap.size);rw [← hb1] at B9 ⊢;have hbr : w.heap.size ≤ b1:=by omega
 clear hb1;have hE0:=hE.trans E;have hbs0:=HS.lt;have hbo0:=HO.lt;replace HS:=HS.ext E;replace HO:=HO.ext E;have hW9 : W0.heap.size ≤ b1:=by have:=hE.size;omega
 have hbs : bs < b1 + 1:=by omega
 have hbo9' : bo < b1:=by omega
 clear E;obtain ⟨b9,hb9⟩:=Qg b1;rw [← hb9] at B9 hW9 hbs hbo9' ⊢;clear hb9
 go_loopw [0,1] (fun av bv wr => ∃ (n' m' q : Nat) (f' g' : Nat → Lt) (A' B' : Option Addr) (ca' cb' : Nat),av = .slice A' n' ca' ∧ bv = .slice B' m' cb' ∧ n' + m' ≤ q ∧ n' ≤ ca' ∧ m' ≤ cb' ∧ Qp W0 A' n' 2 (Zc f') ∧ Qp W0 B' m' 2 (Zc g') ∧ Hid (∀ i,i < n' → Ur (f' i)) ∧ Hid (∀ i,i < m' → Ur (g' i)) ∧ Qb W0 wr ∧ Qa wr b9 85 #[.string ⟨#[]⟩,.int .i64 0] ∧ Qa wr bs 3 #[.int .i64 sg] ∧ b9 < wr.heap.size ∧ bs < b9 + 1 ∧ ∃ (F : Option Addr) (k cap : Nat) (xs : List Value),Qa wr bo 52 #[.slice F k cap] ∧ wr.ownsRow (b9 + 1) 85 2 (.slice F k cap) k xs ∧ xs.length = k * 2 ∧ k + n' + m' ≤ 128 ∧ Hid (xs ++ (Xr sg (Yl q (Jm f' n') (Jm g' m'))).flatMap J1 = (Xr sg T).flatMap J1) ∧ Hid (Xb sg (Yl q (Jm f' n') (Jm g' m')) = Xb sg T)) (fun av bv _ => lenOf av + lenOf bv)
 case atStart => exact ⟨n,m,n + m,f,g,A,B,ca,cb,rfl,rfl,Nat.le_refl _,hca,hcb,hA,hB,hf,hg,hE0,B9,HS,B9.lt,by omega,none,0,0,[],HO,World.ownsRow_nil _ _ _ _,rfl,by omega,by rw [List.nil_append];unfold Hid;rw [hT0.out];rfl,by unfold Hid;rw [hT0.out];rfl⟩
 case round =>
  clear hE0 B9 HS HO hf hg hA hB;obtain ⟨n',m',q,f',g',A',B',ca',cb',rfl,rfl,hq,hca',hcb',hA,hB,hf,hg,hE,H9,HS,l9,hbs9,F,k,cap,xs,HO,hO,hlen,hk,hout,hall⟩:=hrel;obtain ⟨wo,rfl⟩:=Qg wr;by_cases h0 : n' + m' = 0
  ·obtain ⟨rfl, rfl⟩ : n' = 0 ∧ m' = 0 := by omega
   go_wp2;go_ret;have e1 : Yl q (Jm f' 0) (Jm g' 0) = []:=Qg2 q;refine ⟨Jd (by rw [← hall.out,e1];rfl),hE,fun _ => ⟨F,k,cap,HO,?_⟩⟩;have h2:=hout.out;rw [e1] at h2;rw [← h2,show (Xr sg ([] : List (Lt × Lt))).flatMap J1 = [] from rfl,List.append_nil];exact K3 hO (by omega)
  ·obtain ⟨q, rfl⟩ : ∃ j, q = j + 1 := ⟨q - 1, by omega⟩;have hlen := hO.1;by_cases hm0 : m' = 0
   ·subst hm0;obtain ⟨n', rfl⟩ : ∃ j, n' = j + 1 := ⟨n' - 1, by omega⟩;rw [I6 (.inl rfl), show Xg = ⟨⟨#[]⟩, 0⟩ from rfl] at hout hall;obtain ⟨b, off, rfl, hb, hc⟩ := hA (by omega);have hA2 := Hj hA;have a0 : W0.cell? ⟨b, off, none⟩ = some (.string (f' 0).g) := by simpa using hc 0 0 _ (by omega) rfl
    have a1 : W0.cell? ⟨b,off + 1,none⟩ = some (.int .i64 (f' 0).n):=by simpa using hc 0 1 _ (by omega) rfl
    clear hc;go_upto_region 3 with (fail)
    apply W8 (S:=fun w' p1 p2 => Qb wo w' ∧ wo.heap.size ≤ p1 ∧ wo.heap.size ≤ p2 ∧ p1 ≠ p2 ∧ Qa w' p1 85 #[.string ⟨#[]⟩,.int .i64 0] ∧ Qa w' p2 85 #[.string ⟨#[]⟩,.int .i64 0])
    ·refine Zb 6 [5] (fun x => Qb wo x) Qo rfl ?_;intro vz hvz;have HC:=hvz;refine Qs (g:=4) [0,1] [_,_] ⟨rfl,rfl,trivial⟩ (by kernel_rfl) (by kernel_rfl) HC ?_;simp only [Qc,Qd,Qe];apply Exists.intro;refine ⟨fun u hu => ?_,?_⟩
     ·obtain ⟨q0,q1⟩:=(H9.ext hu).c2;have lq:=(H9.ext hu).lt;repeat (first | go_big_quiet_skip | (go_big_quiet_want;go_big_quiet_op;go_big_quiet_on))
      refine wpQuiet_nil ?_;rfl
     refine Zh 2 3 rfl rfl (by kernel_rfl) ?_ ?_
     ·simp only [Qc, Qd, Qe];go_wp2;obtain ⟨p1, wb, hbq, hwb, H10, HC', hx, gp1⟩ := Qn HC 85 #[.string ⟨#[]⟩, .int .i64 0];rw [← hbq, ← hwb];try have ne : p2 < p1 := by have := H11.lt; omega
      replace HC:=HC';try replace H11:=H11.ext hx
      clear hbq hwb hx HC';refine Qh HC ?_;refine Ql 3 rfl (by kernel_rfl) ?_;simp only [Qc,Qd,Qe];go_wp2;obtain ⟨p2,wb,hbq,hwb,H11,HC',hx,gp2⟩:=Qn HC 85 #[.string ⟨#[]⟩,.int .i64 0];rw [← hbq,← hwb];try have ne : p1 < p2:=by have:=H10.lt;omega
      replace HC:=HC';try replace H10:=H10.ext hx
      clear hbq hwb hx HC';refine Qh HC ?_;refine Ql 4 rfl (by kernel_rfl) ?_;simp only [Qc,Qd,Qe];have z0:=H10.frozen 0;have z1:=H10.frozen 1;obtain ⟨x0,x1⟩:=H10.c2;have lx:=H10.lt;go_wp2;have H10':=Qm H10 (.string ⟨#[]⟩) (.int .i64 0);have H11':=Qi (Qi H11 (show p2 ≠ p1 by omega) 0 (.string ⟨#[]⟩)) (show p2 ≠ p1 by omega) 1 (.int .i64 0);replace HC:=(HC.setCell (p:=⟨p1,0,none⟩) gp1 (.string ⟨#[]⟩)).setCell (p:=⟨p1,1,none⟩) gp1 (.int .i64 0);clear H10 H11 z0 z1 x0 x1 lx;generalize World.setCell _ _ _ = wq at *;refine Qh HC ?_;refine Qr 5 rfl (by kernel_rfl) ?_;simp only [Qc,Qd,Qe];have z0:=H11'.frozen 0;have z1:=H11'.frozen 1
      obtain ⟨x0,x1⟩:=H11'.c2;have lx:=H11'.lt;go_wp2;have H11:=Qm H11' (.string ⟨#[]⟩) (.int .i64 0);have H10:=Qi (Qi H10' (show p1 ≠ p2 by omega) 0 (.string ⟨#[]⟩)) (show p1 ≠ p2 by omega) 1 (.int .i64 0);replace HC:=(HC.setCell (p:=⟨p2,0,none⟩) gp2 (.string ⟨#[]⟩)).setCell (p:=⟨p2,1,none⟩) gp2 (.int .i64 0);clear H10' H11' z0 z1 x0 x1 lx;generalize World.setCell _ _ _ = wq at *;refine Qq ?_;refine Qv (by kernel_rfl) ?_;exact Ja p1 p2 ⟨HC,gp1,gp2,by omega,H10,H11⟩ rfl
     ·simp only [Qc, Qd, Qe];go_wp2;obtain ⟨p2, wb, hbq, hwb, H11, HC', hx, gp2⟩ := Qn HC 85 #[.string ⟨#[]⟩, .int .i64 0];rw [← hbq, ← hwb];try have ne : p1 < p2 := by have := H10.lt; omega
      replace HC:=HC';try replace H10:=H10.ext hx
      clear hbq hwb hx HC';refine Qh HC ?_;refine Ql 2 rfl (by kernel_rfl) ?_;simp only [Qc,Qd,Qe];go_wp2;obtain ⟨p1,wb,hbq,hwb,H10,HC',hx,gp1⟩:=Qn HC 85 #[.string ⟨#[]⟩,.int .i64 0];rw [← hbq,← hwb];try have ne : p2 < p1:=by have:=H11.lt;omega
      replace HC:=HC';try replace H11:=H11.ext hx
      clear hbq hwb hx HC';refine Qh HC ?_;refine Ql 4 rfl (by kernel_rfl) ?_;simp only [Qc,Qd,Qe];have z0:=H10.frozen 0;have z1:=H10.frozen 1;obtain ⟨x0,x1⟩:=H10.c2;have lx:=H10.lt;go_wp2;have H10':=Qm H10 (.string ⟨#[]⟩) (.int .i64 0);have H11':=Qi (Qi H11 (show p2 ≠ p1 by omega) 0 (.string ⟨#[]⟩)) (show p2 ≠ p1 by omega) 1 (.int .i64 0);replace HC:=(HC.setCell (p:=⟨p1,0,none⟩) gp1 (.string ⟨#[]⟩)).setCell (p:=⟨p1,1,none⟩) gp1 (.int .i64 0);clear H10 H11 z0 z1 x0 x1 lx;generalize World.setCell _ _ _ = wq at *;refine Qh HC ?_;refine Qr 5 rfl (by kernel_rfl) ?_;simp only [Qc,Qd,Qe];have z0:=H11'.frozen 0;have z1:=H11'.frozen 1
      obtain ⟨x0,x1⟩:=H11'.c2;have lx:=H11'.lt;go_wp2;have H11:=Qm H11' (.string ⟨#[]⟩) (.int .i64 0);have H10:=Qi (Qi H10' (show p1 ≠ p2 by omega) 0 (.string ⟨#[]⟩)) (show p1 ≠ p2 by omega) 1 (.int .i64 0);replace HC:=(HC.setCell (p:=⟨p2,0,none⟩) gp2 (.string ⟨#[]⟩)).setCell (p:=⟨p2,1,none⟩) gp2 (.int .i64 0);clear H10' H11' z0 z1 x0 x1 lx;generalize World.setCell _ _ _ = wq at *;refine Qq ?_;refine Qv (by kernel_rfl) ?_;exact Ja p1 p2 ⟨HC,gp1,gp2,by omega,H10,H11⟩ rfl
    rintro p1 p2 w3 ⟨h3,gp1,gp2,ne,H10,H11⟩;go_upto_region 5 with (fail)
    refine Zd w3 Qo (by kernel_rfl) Qj ?_;intro hne hrx hry;try simp only []
    try simp only [List.append_eq,List.cons_append,List.nil_append]
    skip
    repeat (first
     | go_big_quiet_skip
     | (go_big_quiet_want;go_big_quiet_op;go_big_quiet_on))
    clear hne hry hrx;refine wpQuiet_nil ?_;intro w5 h5;obtain ⟨hcw5,hfw5,hzw5⟩:=Qb.rules h5;try simp only [World.size_alloc] at hzw5
    obtain ⟨hcbw5,hfbw5,hzbw5⟩:=Qb.rules (show Qb w3 w5 from Qj);clear hcw5 hfw5;replace H10:=H10.ext h5;replace H11:=H11.ext h5;replace h5:=h3.trans h5;go_upto_region 6 with (fail)
    apply W8 (S:=fun w' o2 c2 => Qb wo w' ∧ Qa w' p1 85 #[.string (f' 0).g,.int .i64 (f' 0).n] ∧ Qa w' p2 85 #[.string ⟨#[]⟩,.int .i64 0] ∧ Qp W0 (some ⟨b,o2,none⟩) n' 2 (Zc (fun t => f' (t + 1))) ∧ n' ≤ c2)
    ·by_cases hc1 : ca' = 1;rotate_left
     ·refine Zb 7 [6] (fun x => Qb wo x) Qo rfl ?_;intro vz hvz;have HC:=h5.trans hvz;replace H10:=H10.ext hvz;replace H11:=H11.ext hvz;refine Qs (g:=3) [0,1,2,3] [_,_,_,_] ⟨rfl,rfl,rfl,rfl,trivial⟩ (by kernel_rfl) (by kernel_rfl) HC ?_;simp only [Qc,Qd,Qe];apply Exists.intro;refine ⟨fun u hu => ?_,?_⟩
      ·have a0':=((hE.trans hu).cell (p:=⟨b,off,none⟩) hb).trans a0;have a1':=((hE.trans hu).cell (p:=⟨b,off + 1,none⟩) hb).trans a1;have lb:=Nat.lt_of_lt_of_le hb (hE.trans hu).size;repeat (first | go_big_quiet_skip | (go_big_quiet_want;go_big_quiet_op;go_big_quiet_on))
       refine wpQuiet_nil ?_;rfl
      refine Zh 4 5 rfl rfl (by kernel_rfl) ?_ ?_
      ·simp only [Qc,Qd,Qe];go_wp2;refine Qh HC ?_;refine Ql 5 rfl (by kernel_rfl) ?_;simp only [Qc,Qd,Qe];have z0:=H10.frozen 0;have z1:=H10.frozen 1;obtain ⟨x0,x1⟩:=H10.c2;have lx:=H10.lt;go_wp2;have H10':=Qm H10 (.string (f' 0).g) (.int .i64 (f' 0).n);replace H11:=Qi (Qi H11 (Ne.symm ne) 0 (.string (f' 0).g)) (Ne.symm ne) 1 (.int .i64 (f' 0).n);replace HC:=(HC.setCell (p:=⟨p1,0,none⟩) gp1 (.string (f' 0).g)).setCell (p:=⟨p1,1,none⟩) gp1 (.int .i64 (f' 0).n);clear H10 z0 z1 x0 x1 lx;generalize World.setCell _ _ _ = wq at *;refine Qh HC ?_;refine Qr 6 rfl (by kernel_rfl) ?_;simp only [Qc,Qd,Qe];go_wp2;refine Qq ?_;refine Qv (by kernel_rfl) ?_
       (obtain ⟨oo,hoo⟩ : ∃ x,x = off + 2:=⟨_,rfl⟩;obtain ⟨cc,hcc⟩ : ∃ x,x = ca' - 1:=⟨_,rfl⟩;rw [← hoo] at hA2;rw [← hoo,← hcc];exact Ja oo cc ⟨HC,H10',H11,hA2,by omega⟩ rfl)
      ·simp only [Qc,Qd,Qe];have z0:=H10.frozen 0;have z1:=H10.frozen 1;obtain ⟨x0,x1⟩:=H10.c2;have lx:=H10.lt;go_wp2;have H10':=Qm H10 (.string (f' 0).g) (.int .i64 (f' 0).n);replace H11:=Qi (Qi H11 (Ne.symm ne) 0 (.string (f' 0).g)) (Ne.symm ne) 1 (.int .i64 (f' 0).n);replace HC:=(HC.setCell (p:=⟨p1,0,none⟩) gp1 (.string (f' 0).g)).setCell (p:=⟨p1,1,none⟩) gp1 (.int .i64 (f' 0).n);clear H10 z0 z1 x0 x1 lx;generalize World.setCell _ _ _ = wq at *;refine Qh HC ?_;refine Ql 4 rfl (by kernel_rfl) ?_;simp only [Qc,Qd,Qe];go_wp2;refine Qh HC ?_;refine Qr 6 rfl (by kernel_rfl) ?_;simp only [Qc,Qd,Qe];go_wp2;refine Qq ?_;refine Qv (by kernel_rfl) ?_
       (obtain ⟨oo,hoo⟩ : ∃ x,x = off + 2:=⟨_,rfl⟩;obtain ⟨cc,hcc⟩ : ∃ x,x = ca' - 1:=⟨_,rfl⟩;rw [← hoo] at hA2;rw [← hoo,← hcc];exact Ja oo cc ⟨HC,H10',H11,hA2,by omega⟩ rfl)
     ·subst hc1;obtain rfl : n' = 0 := by omega
      refine Zb 7 [6] (fun x => Qb wo x) Qo rfl ?_;intro vz hvz;have HC:=h5.trans hvz;replace H10:=H10.ext hvz;replace H11:=H11.ext hvz;refine Qs (g:=3) [0,1,2,3] [_,_,_,_] ⟨rfl,rfl,rfl,rfl,trivial⟩ (by kernel_rfl) (by kernel_rfl) HC ?_;simp only [Qc,Qd,Qe];apply Exists.intro;refine ⟨fun u hu => ?_,?_⟩
      ·have a0':=((hE.trans hu).cell (p:=⟨b,off,none⟩) hb).trans a0;have a1':=((hE.trans hu).cell (p:=⟨b,off + 1,none⟩) hb).trans a1;have lb:=Nat.lt_of_lt_of_le hb (hE.trans hu).size;repeat (first | go_big_quiet_skip | (go_big_quiet_want;go_big_quiet_op;go_big_quiet_on))
       refine wpQuiet_nil ?_;rfl
      refine Zh 4 5 rfl rfl (by kernel_rfl) ?_ ?_
      ·simp only [Qc,Qd,Qe];go_wp2;refine Qh HC ?_;refine Ql 5 rfl (by kernel_rfl) ?_;simp only [Qc,Qd,Qe];have z0:=H10.frozen 0;have z1:=H10.frozen 1;obtain ⟨x0,x1⟩:=H10.c2;have lx:=H10.lt;go_wp2;have H10':=Qm H10 (.string (f' 0).g) (.int .i64 (f' 0).n);replace H11:=Qi (Qi H11 (Ne.symm ne) 0 (.string (f' 0).g)) (Ne.symm ne) 1 (.int .i64 (f' 0).n);replace HC:=(HC.setCell (p:=⟨p1,0,none⟩) gp1 (.string (f' 0).g)).setCell (p:=⟨p1,1,none⟩) gp1 (.int .i64 (f' 0).n);clear H10 z0 z1 x0 x1 lx;generalize World.setCell _ _ _ = wq at *;refine Qh HC ?_;refine Qr 6 rfl (by kernel_rfl) ?_;simp only [Qc,Qd,Qe];go_wp2;refine Qq ?_;refine Qv (by kernel_rfl) ?_
       exact Ja off 0 ⟨HC,H10',H11,Qp.nil,Nat.le_refl _⟩ rfl
      ·simp only [Qc,Qd,Qe];have z0:=H10.frozen 0;have z1:=H10.frozen 1;obtain ⟨x0,x1⟩:=H10.c2;have lx:=H10.lt;go_wp2;have H10':=Qm H10 (.string (f' 0).g) (.int .i64 (f' 0).n);replace H11:=Qi (Qi H11 (Ne.symm ne) 0 (.string (f' 0).g)) (Ne.symm ne) 1 (.int .i64 (f' 0).n);replace HC:=(HC.setCell (p:=⟨p1,0,none⟩) gp1 (.string (f' 0).g)).setCell (p:=⟨p1,1,none⟩) gp1 (.int .i64 (f' 0).n);clear H10 z0 z1 x0 x1 lx;generalize World.setCell _ _ _ = wq at *;refine Qh HC ?_;refine Ql 4 rfl (by kernel_rfl) ?_;simp only [Qc,Qd,Qe];go_wp2;refine Qh HC ?_;refine Qr 6 rfl (by kernel_rfl) ?_;simp only [Qc,Qd,Qe];go_wp2;refine Qq ?_;refine Qv (by kernel_rfl) ?_
       exact Ja off 0 ⟨HC,H10',H11,Qp.nil,Nat.le_refl _⟩ rfl
    rintro o2 c2 w6 ⟨h6,H10,H11,hA3,hc3⟩;clear hA hA2 a0 a1;have NP:=Mj sg hsg (f' 0) ⟨⟨#[]⟩,0⟩ (hf.out 0 (by omega)) (Gh) (b9 + 1) bs bo F k cap xs w6 (HS.ext h6) (HO.ext h6) (Jo hO h6) (by omega) (by have:=h6.size;omega);obtain ⟨x0,x1⟩:=H10.c2;have lx:=H10.lt;obtain ⟨y0,y1⟩:=H11.c2;have ly:=H11.lt;have hkl:=L4 sg ((f' 0),⟨⟨#[]⟩,0⟩);cases hr : Xw sg (f' 0) ⟨⟨#[]⟩,0⟩
    ·rw [hr] at NP;have hno:=Ll hall.out hr;clear hall hout hr;go_wp2_with (first | (go_at_call 113;(with_reducible refine Calls.mono (NP) ?_);rintro e w9 ⟨rfl,HP,HQ⟩) | (go_at_fn 113;(with_reducible refine Calls.mono (NP) ?_);rintro e w9 ⟨rfl,HP,HQ⟩));go_ret;exact ⟨Jd hno.symm,HP.ext W0 (hE.trans h6) hbo (by omega),fun h => by rw [hno] at h;cases h⟩
    ·rw [hr] at NP;have hyes:=Lib.hid (Lm hall.out hr);have hout2:=Lib.hid (Mg hout.out);clear hall hout hr;go_wp2_with (first | (go_at_call 113;(with_reducible refine Calls.mono (NP) ?_);rintro e w9 ⟨rfl,HP,HQ⟩) | (go_at_fn 113;(with_reducible refine Calls.mono (NP) ?_);rintro e w9 ⟨rfl,HP,HQ⟩));obtain ⟨F2,k2,cap2,HO2,hO2⟩:=HQ (by trivial);have hl2:=hO2.1;rw [List.length_append] at hl2;have hE9:=HP.ext W0 (hE.trans h6) hbo (by omega);exact ⟨⟨n',0,q,(fun t => f' (t + 1)),g',some ⟨b,o2,none⟩,B',c2,cb',rfl,rfl,by omega,by omega,by omega,hA3,hB,Lib.hid (fun i hi => hf.out (i + 1) (by omega)),hg,hE9,HP.held _ _ _ (H9.ext h6) (by omega) (by omega),HP.held _ _ _ (HS.ext h6) (Lx (HS.ext h6) (HO.ext h6) (by decide)) hbs9,(HP.held _ _ _ (H9.ext h6) (by omega) (by omega)).lt,hbs9,F2,k2,cap2,_,HO2,hO2,hO2.1,by omega,hout2,hyes⟩,by simp [lenOf] <;> omega⟩
   ·obtain ⟨m', rfl⟩ : ∃ j, m' = j + 1 := ⟨m' - 1, by omega⟩;have zb1 : (((m' : Int) + 1) == 0) = false := beq_eq_false_iff_ne.2 (by omega);by_cases hn0 : n' = 0
    ·subst hn0;rw [I7 (.inl rfl), show Xg = ⟨⟨#[]⟩, 0⟩ from rfl] at hout hall;obtain ⟨d, doff, rfl, hd, hcd⟩ := hB (by omega);have hB2 := Hj hB;have e0 : W0.cell? ⟨d, doff, none⟩ = some (.string (g' 0).g) := by simpa using hcd 0 0 _ (by omega) rfl
     have e1 : W0.cell? ⟨d,doff + 1,none⟩ = some (.int .i64 (g' 0).n):=by simpa using hcd 0 1 _ (by omega) rfl
     clear hcd;go_upto_region 3 with (fail)
     apply W8 (S:=fun w' p1 p2 => Qb wo w' ∧ wo.heap.size ≤ p1 ∧ wo.heap.size ≤ p2 ∧ p1 ≠ p2 ∧ Qa w' p1 85 #[.string ⟨#[]⟩,.int .i64 0] ∧ Qa w' p2 85 #[.string ⟨#[]⟩,.int .i64 0])
     ·refine Zb 6 [5] (fun x => Qb wo x) Qo rfl ?_;intro vz hvz;have HC:=hvz;refine Qs (g:=4) [0,1] [_,_] ⟨rfl,rfl,trivial⟩ (by kernel_rfl) (by kernel_rfl) HC ?_;simp only [Qc,Qd,Qe];apply Exists.intro;refine ⟨fun u hu => ?_,?_⟩
      ·obtain ⟨q0,q1⟩:=(H9.ext hu).c2;have lq:=(H9.ext hu).lt;repeat (first | go_big_quiet_skip | (go_big_quiet_want;go_big_quiet_op;go_big_quiet_on))
       refine wpQuiet_nil ?_;rfl
      refine Zh 2 3 rfl rfl (by kernel_rfl) ?_ ?_
      ·simp only [Qc, Qd, Qe];go_wp2;obtain ⟨p1, wb, hbq, hwb, H10, HC', hx, gp1⟩ := Qn HC 85 #[.string ⟨#[]⟩, .int .i64 0];rw [← hbq, ← hwb];try have ne : p2 < p1 := by have := H11.lt; omega
       replace HC:=HC';try replace H11:=H11.ext hx
       clear hbq hwb hx HC';refine Qh HC ?_;refine Ql 3 rfl (by kernel_rfl) ?_;simp only [Qc,Qd,Qe];go_wp2;obtain ⟨p2,wb,hbq,hwb,H11,HC',hx,gp2⟩:=Qn HC 85 #[.string ⟨#[]⟩,.int .i64 0];rw [← hbq,← hwb];try have ne : p1 < p2:=by have:=H10.lt;omega
       replace HC:=HC';try replace H10:=H10.ext hx
       clear hbq hwb hx HC';refine Qh HC ?_;refine Ql 4 rfl (by kernel_rfl) ?_;simp only [Qc,Qd,Qe];have z0:=H10.frozen 0;have z1:=H10.frozen 1;obtain ⟨x0,x1⟩:=H10.c2;have lx:=H10.lt;go_wp2;have H10':=Qm H10 (.string ⟨#[]⟩) (.int .i64 0);have H11':=Qi (Qi H11 (show p2 ≠ p1 by omega) 0 (.string ⟨#[]⟩)) (show p2 ≠ p1 by omega) 1 (.int .i64 0);replace HC:=(HC.setCell (p:=⟨p1,0,none⟩) gp1 (.string ⟨#[]⟩)).setCell (p:=⟨p1,1,none⟩) gp1 (.int .i64 0);clear H10 H11 z0 z1 x0 x1 lx;generalize World.setCell _ _ _ = wq at *;refine Qh HC ?_;refine Qr 5 rfl (by kernel_rfl) ?_;simp only [Qc,Qd,Qe];have z0:=H11'.frozen 0;have z1:=H11'.frozen 1
       obtain ⟨x0,x1⟩:=H11'.c2;have lx:=H11'.lt;go_wp2;have H11:=Qm H11' (.string ⟨#[]⟩) (.int .i64 0);have H10:=Qi (Qi H10' (show p1 ≠ p2 by omega) 0 (.string ⟨#[]⟩)) (show p1 ≠ p2 by omega) 1 (.int .i64 0);replace HC:=(HC.setCell (p:=⟨p2,0,none⟩) gp2 (.string ⟨#[]⟩)).setCell (p:=⟨p2,1,none⟩) gp2 (.int .i64 0);clear H10' H11' z0 z1 x0 x1 lx;generalize World.setCell _ _ _ = wq at *;refine Qq ?_;refine Qv (by kernel_rfl) ?_;exact Ja p1 p2 ⟨HC,gp1,gp2,by omega,H10,H11⟩ rfl
      ·simp only [Qc, Qd, Qe];go_wp2;obtain ⟨p2, wb, hbq, hwb, H11, HC', hx, gp2⟩ := Qn HC 85 #[.string ⟨#[]⟩, .int .i64 0];rw [← hbq, ← hwb];try have ne : p1 < p2 := by have := H10.lt; omega
       replace HC:=HC';try replace H10:=H10.ext hx
       clear hbq hwb hx HC';refine Qh HC ?_;refine Ql 2 rfl (by kernel_rfl) ?_;simp only [Qc,Qd,Qe];go_wp2;obtain ⟨p1,wb,hbq,hwb,H10,HC',hx,gp1⟩:=Qn HC 85 #[.string ⟨#[]⟩,.int .i64 0];rw [← hbq,← hwb];try have ne : p2 < p1:=by have:=H11.lt;omega
       replace HC:=HC';try replace H11:=H11.ext hx
       clear hbq hwb hx HC';refine Qh HC ?_;refine Ql 4 rfl (by kernel_rfl) ?_;simp only [Qc,Qd,Qe];have z0:=H10.frozen 0;have z1:=H10.frozen 1;obtain ⟨x0,x1⟩:=H10.c2;have lx:=H10.lt;go_wp2;have H10':=Qm H10 (.string ⟨#[]⟩) (.int .i64 0);have H11':=Qi (Qi H11 (show p2 ≠ p1 by omega) 0 (.string ⟨#[]⟩)) (show p2 ≠ p1 by omega) 1 (.int .i64 0);replace HC:=(HC.setCell (p:=⟨p1,0,none⟩) gp1 (.string ⟨#[]⟩)).setCell (p:=⟨p1,1,none⟩) gp1 (.int .i64 0);clear H10 H11 z0 z1 x0 x1 lx;generalize World.setCell _ _ _ = wq at *;refine Qh HC ?_;refine Qr 5 rfl (by kernel_rfl) ?_;simp only [Qc,Qd,Qe];have z0:=H11'.frozen 0;have z1:=H11'.frozen 1
       obtain ⟨x0,x1⟩:=H11'.c2;have lx:=H11'.lt;go_wp2;have H11:=Qm H11' (.string ⟨#[]⟩) (.int .i64 0);have H10:=Qi (Qi H10' (show p1 ≠ p2 by omega) 0 (.string ⟨#[]⟩)) (show p1 ≠ p2 by omega) 1 (.int .i64 0);replace HC:=(HC.setCell (p:=⟨p2,0,none⟩) gp2 (.string ⟨#[]⟩)).setCell (p:=⟨p2,1,none⟩) gp2 (.int .i64 0);clear H10' H11' z0 z1 x0 x1 lx;generalize World.setCell _ _ _ = wq at *;refine Qq ?_;refine Qv (by kernel_rfl) ?_;exact Ja p1 p2 ⟨HC,gp1,gp2,by omega,H10,H11⟩ rfl
     rintro p1 p2 w3 ⟨h3,gp1,gp2,ne,H10,H11⟩;go_upto_region 5 with (fail)
     refine Zd w3 Qo (by kernel_rfl) Qj ?_;intro hne hrx hry;try simp only []
     try simp only [List.append_eq,List.cons_append,List.nil_append]
     skip
     repeat (first
      | go_big_quiet_skip
      | (go_big_quiet_want;go_big_quiet_op;go_big_quiet_on))
     clear hne hry hrx;refine wpQuiet_nil ?_;intro w5 hh;obtain ⟨hcw5,hfw5,hzw5⟩:=Qb.rules hh;try simp only [World.size_alloc] at hzw5
     obtain ⟨hcbw5,hfbw5,hzbw5⟩:=Qb.rules (show Qb w3 w5 from Qj);clear hcw5 hfw5;replace H10:=H10.ext hh;replace H11:=H11.ext hh;have h5:=h3.trans hh;go_upto_region 7 with (fail)
     refine Zd w5 Qo (by kernel_rfl) Qj ?_;intro hne hrx hry;try simp only []
     try simp only [List.append_eq,List.cons_append,List.nil_append]
     skip
     repeat (first
      | go_big_quiet_skip
      | (go_big_quiet_want;go_big_quiet_op;go_big_quiet_on))
     clear hne hry hrx;refine wpQuiet_nil ?_;intro w7 hk7;obtain ⟨hcw7,hfw7,hzw7⟩:=Qb.rules hk7;try simp only [World.size_alloc] at hzw7
     obtain ⟨hcbw7,hfbw7,hzbw7⟩:=Qb.rules (show Qb w5 w7 from Qj);clear hcw7 hfw7;replace H10:=H10.ext hk7;replace H11:=H11.ext hk7;replace h5:=h5.trans hk7;go_upto_region 8 with (fail)
     apply W8 (S:=fun w' o2 c2 => Qb wo w' ∧ Qa w' p1 85 #[.string ⟨#[]⟩,.int .i64 0] ∧ Qa w' p2 85 #[.string (g' 0).g,.int .i64 (g' 0).n] ∧ Qp W0 (some ⟨d,o2,none⟩) m' 2 (Zc (fun t => g' (t + 1))) ∧ m' ≤ c2)
     ·by_cases hc1 : cb' = 1;rotate_left
      ·refine Zb 7 [6] (fun x => Qb wo x) Qo rfl ?_;intro vz hvz;have HC:=h5.trans hvz;replace H10:=H10.ext hvz;replace H11:=H11.ext hvz;refine Qs (g:=3) [0,1,2,3] [_,_,_,_] ⟨rfl,rfl,rfl,rfl,trivial⟩ (by kernel_rfl) (by kernel_rfl) HC ?_;simp only [Qc,Qd,Qe];apply Exists.intro;refine ⟨fun u hu => ?_,?_⟩
       ·have e0':=((hE.trans hu).cell (p:=⟨d,doff,none⟩) hd).trans e0;have e1':=((hE.trans hu).cell (p:=⟨d,doff + 1,none⟩) hd).trans e1;have ld:=Nat.lt_of_lt_of_le hd (hE.trans hu).size;repeat (first | go_big_quiet_skip | (go_big_quiet_want;go_big_quiet_op;go_big_quiet_on))
        refine wpQuiet_nil ?_;rfl
       refine Zh 4 5 rfl rfl (by kernel_rfl) ?_ ?_
       ·simp only [Qc,Qd,Qe];go_wp2;refine Qh HC ?_;refine Ql 5 rfl (by kernel_rfl) ?_;simp only [Qc,Qd,Qe];have z0:=H11.frozen 0;have z1:=H11.frozen 1;obtain ⟨x0,x1⟩:=H11.c2;have lx:=H11.lt;go_wp2;have H11':=Qm H11 (.string (g' 0).g) (.int .i64 (g' 0).n);replace H10:=Qi (Qi H10 ne 0 (.string (g' 0).g)) ne 1 (.int .i64 (g' 0).n);replace HC:=(HC.setCell (p:=⟨p2,0,none⟩) gp2 (.string (g' 0).g)).setCell (p:=⟨p2,1,none⟩) gp2 (.int .i64 (g' 0).n);clear H11 z0 z1 x0 x1 lx;generalize World.setCell _ _ _ = wq at *;refine Qh HC ?_;refine Qr 6 rfl (by kernel_rfl) ?_;simp only [Qc,Qd,Qe];go_wp2;refine Qq ?_;refine Qv (by kernel_rfl) ?_
        (obtain ⟨oo,hoo⟩ : ∃ x,x = doff + 2:=⟨_,rfl⟩;obtain ⟨cc,hcc⟩ : ∃ x,x = cb' - 1:=⟨_,rfl⟩;rw [← hoo] at hB2;rw [← hoo,← hcc];exact Ja oo cc ⟨HC,H10,H11',hB2,by omega⟩ rfl)
       ·simp only [Qc,Qd,Qe];have z0:=H11.frozen 0;have z1:=H11.frozen 1;obtain ⟨x0,x1⟩:=H11.c2;have lx:=H11.lt;go_wp2;have H11':=Qm H11 (.string (g' 0).g) (.int .i64 (g' 0).n);replace H10:=Qi (Qi H10 ne 0 (.string (g' 0).g)) ne 1 (.int .i64 (g' 0).n);replace HC:=(HC.setCell (p:=⟨p2,0,none⟩) gp2 (.string (g' 0).g)).setCell (p:=⟨p2,1,none⟩) gp2 (.int .i64 (g' 0).n);clear H11 z0 z1 x0 x1 lx;generalize World.setCell _ _ _ = wq at *;refine Qh HC ?_;refine Ql 4 rfl (by kernel_rfl) ?_;simp only [Qc,Qd,Qe];go_wp2;refine Qh HC ?_;refine Qr 6 rfl (by kernel_rfl) ?_;simp only [Qc,Qd,Qe];go_wp2;refine Qq ?_;refine Qv (by kernel_rfl) ?_
        (obtain ⟨oo,hoo⟩ : ∃ x,x = doff + 2:=⟨_,rfl⟩;obtain ⟨cc,hcc⟩ : ∃ x,x = cb' - 1:=⟨_,rfl⟩;rw [← hoo] at hB2;rw [← hoo,← hcc];exact Ja oo cc ⟨HC,H10,H11',hB2,by omega⟩ rfl)
      ·subst hc1;obtain rfl : m' = 0 := by omega
       refine Zb 7 [6] (fun x => Qb wo x) Qo rfl ?_;intro vz hvz;have HC:=h5.trans hvz;replace H10:=H10.ext hvz;replace H11:=H11.ext hvz;refine Qs (g:=3) [0,1,2,3] [_,_,_,_] ⟨rfl,rfl,rfl,rfl,trivial⟩ (by kernel_rfl) (by kernel_rfl) HC ?_;simp only [Qc,Qd,Qe];apply Exists.intro;refine ⟨fun u hu => ?_,?_⟩
       ·have e0':=((hE.trans hu).cell (p:=⟨d,doff,none⟩) hd).trans e0;have e1':=((hE.trans hu).cell (p:=⟨d,doff + 1,none⟩) hd).trans e1;have ld:=Nat.lt_of_lt_of_le hd (hE.trans hu).size;repeat (first | go_big_quiet_skip | (go_big_quiet_want;go_big_quiet_op;go_big_quiet_on))
        refine wpQuiet_nil ?_;rfl
       refine Zh 4 5 rfl rfl (by kernel_rfl) ?_ ?_
       ·simp only [Qc,Qd,Qe];go_wp2;refine Qh HC ?_;refine Ql 5 rfl (by kernel_rfl) ?_;simp only [Qc,Qd,Qe];have z0:=H11.frozen 0;have z1:=H11.frozen 1;obtain ⟨x0,x1⟩:=H11.c2;have lx:=H11.lt;go_wp2;have H11':=Qm H11 (.string (g' 0).g) (.int .i64 (g' 0).n);replace H10:=Qi (Qi H10 ne 0 (.string (g' 0).g)) ne 1 (.int .i64 (g' 0).n);replace HC:=(HC.setCell (p:=⟨p2,0,none⟩) gp2 (.string (g' 0).g)).setCell (p:=⟨p2,1,none⟩) gp2 (.int .i64 (g' 0).n);clear H11 z0 z1 x0 x1 lx;generalize World.setCell _ _ _ = wq at *;refine Qh HC ?_;refine Qr 6 rfl (by kernel_rfl) ?_;simp only [Qc,Qd,Qe];go_wp2;refine Qq ?_;refine Qv (by kernel_rfl) ?_
        exact Ja doff 0 ⟨HC,H10,H11',Qp.nil,Nat.le_refl _⟩ rfl
       ·simp only [Qc,Qd,Qe];have z0:=H11.frozen 0;have z1:=H11.frozen 1;obtain ⟨x0,x1⟩:=H11.c2;have lx:=H11.lt;go_wp2;have H11':=Qm H11 (.string (g' 0).g) (.int .i64 (g' 0).n);replace H10:=Qi (Qi H10 ne 0 (.string (g' 0).g)) ne 1 (.int .i64 (g' 0).n);replace HC:=(HC.setCell (p:=⟨p2,0,none⟩) gp2 (.string (g' 0).g)).setCell (p:=⟨p2,1,none⟩) gp2 (.int .i64 (g' 0).n);clear H11 z0 z1 x0 x1 lx;generalize World.setCell _ _ _ = wq at *;refine Qh HC ?_;refine Ql 4 rfl (by kernel_rfl) ?_;simp only [Qc,Qd,Qe];go_wp2;refine Qh HC ?_;refine Qr 6 rfl (by kernel_rfl) ?_;simp only [Qc,Qd,Qe];go_wp2;refine Qq ?_;refine Qv (by kernel_rfl) ?_
        exact Ja doff 0 ⟨HC,H10,H11',Qp.nil,Nat.le_refl _⟩ rfl
     rintro o2 c2 w6 ⟨h6,H10,H11,hB3,hc3⟩;have NP:=Mj sg hsg ⟨⟨#[]⟩,0⟩ (g' 0) (Gh) (hg.out 0 (by omega)) (b9 + 1) bs bo F k cap xs w6 (HS.ext h6) (HO.ext h6) (Jo hO h6) (by omega) (by have:=h6.size;omega);obtain ⟨x0,x1⟩:=H10.c2;have lx:=H10.lt;obtain ⟨y0,y1⟩:=H11.c2;have ly:=H11.lt;have hkl:=L4 sg (⟨⟨#[]⟩,0⟩,(g' 0));cases hr : Xw sg ⟨⟨#[]⟩,0⟩ (g' 0)
     ·rw [hr] at NP;have hno:=Ll hall.out hr;clear hall hout hr;go_wp2_with (first | (go_at_call 113;(with_reducible refine Calls.mono (NP) ?_);rintro e w9 ⟨rfl,HP,HQ⟩) | (go_at_fn 113;(with_reducible refine Calls.mono (NP) ?_);rintro e w9 ⟨rfl,HP,HQ⟩));go_ret;exact ⟨Jd hno.symm,HP.ext W0 (hE.trans h6) hbo (by omega),fun h => by rw [hno] at h;cases h⟩
     ·rw [hr] at NP;have hyes:=Lib.hid (Lm hall.out hr);have hout2:=Lib.hid (Mg hout.out);clear hall hout hr;go_wp2_with (first | (go_at_call 113;(with_reducible refine Calls.mono (NP) ?_);rintro e w9 ⟨rfl,HP,HQ⟩) | (go_at_fn 113;(with_reducible refine Calls.mono (NP) ?_);rintro e w9 ⟨rfl,HP,HQ⟩));obtain ⟨F2,k2,cap2,HO2,hO2⟩:=HQ (by trivial);have hl2:=hO2.1;rw [List.length_append] at hl2;have hE9:=HP.ext W0 (hE.trans h6) hbo (by omega);exact ⟨⟨0,m',q,f',(fun t => g' (t + 1)),A',some ⟨d,o2,none⟩,ca',c2,rfl,rfl,by omega,by omega,by omega,hA,hB3,hf,Lib.hid (fun i hi => hg.out (i + 1) (by omega)),hE9,HP.held _ _ _ (H9.ext h6) (by omega) (by omega),HP.held _ _ _ (HS.ext h6) (Lx (HS.ext h6) (HO.ext h6) (by decide)) hbs9,(HP.held _ _ _ (H9.ext h6) (by omega) (by omega)).lt,hbs9,F2,k2,cap2,_,HO2,hO2,hO2.1,by omega,hout2,hyes⟩,by simp [lenOf] <;> omega⟩
    ·obtain ⟨n', rfl⟩ : ∃ j, n' = j + 1 := ⟨n' - 1, by omega⟩;have za1 : (((n' : Int) + 1) == 0) = false := beq_eq_false_iff_ne.2 (by omega);obtain ⟨b, off, rfl, hb, hc⟩ := hA (by omega);have hA2 := Hj hA;have a0 : W0.cell? ⟨b, off, none⟩ = some (.string (f' 0).g) := by simpa using hc 0 0 _ (by omega) rfl
     have a1 : W0.cell? ⟨b,off + 1,none⟩ = some (.int .i64 (f' 0).n):=by simpa using hc 0 1 _ (by omega) rfl
     clear hc;obtain ⟨d,doff,rfl,hd,hcd⟩:=hB (by omega);have hB2:=Hj hB;have e0 : W0.cell? ⟨d,doff,none⟩ = some (.string (g' 0).g):=by simpa using hcd 0 0 _ (by omega) rfl
     have e1 : W0.cell? ⟨d,doff + 1,none⟩ = some (.int .i64 (g' 0).n):=by simpa using hcd 0 1 _ (by omega) rfl
     clear hcd;go_upto_region 3 with (fail)
     apply W8 (S:=fun w' p1 p2 => Qb wo w' ∧ wo.heap.size ≤ p1 ∧ wo.heap.size ≤ p2 ∧ p1 ≠ p2 ∧ Qa w' p1 85 #[.string ⟨#[]⟩,.int .i64 0] ∧ Qa w' p2 85 #[.string ⟨#[]⟩,.int .i64 0])
     ·refine Zb 6 [5] (fun x => Qb wo x) Qo rfl ?_;intro vz hvz;have HC:=hvz;refine Qs (g:=4) [0,1] [_,_] ⟨rfl,rfl,trivial⟩ (by kernel_rfl) (by kernel_rfl) HC ?_;simp only [Qc,Qd,Qe];apply Exists.intro;refine ⟨fun u hu => ?_,?_⟩
      ·obtain ⟨q0,q1⟩:=(H9.ext hu).c2;have lq:=(H9.ext hu).lt;repeat (first | go_big_quiet_skip | (go_big_quiet_want;go_big_quiet_op;go_big_quiet_on))
       refine wpQuiet_nil ?_;rfl
      refine Zh 2 3 rfl rfl (by kernel_rfl) ?_ ?_
      ·simp only [Qc, Qd, Qe];go_wp2;obtain ⟨p1, wb, hbq, hwb, H10, HC', hx, gp1⟩ := Qn HC 85 #[.string ⟨#[]⟩, .int .i64 0];rw [← hbq, ← hwb];try have ne : p2 < p1 := by have := H11.lt; omega
       replace HC:=HC';try replace H11:=H11.ext hx
       clear hbq hwb hx HC';refine Qh HC ?_;refine Ql 3 rfl (by kernel_rfl) ?_;simp only [Qc,Qd,Qe];go_wp2;obtain ⟨p2,wb,hbq,hwb,H11,HC',hx,gp2⟩:=Qn HC 85 #[.string ⟨#[]⟩,.int .i64 0];rw [← hbq,← hwb];try have ne : p1 < p2:=by have:=H10.lt;omega
       replace HC:=HC';try replace H10:=H10.ext hx
       clear hbq hwb hx HC';refine Qh HC ?_;refine Ql 4 rfl (by kernel_rfl) ?_;simp only [Qc,Qd,Qe];have z0:=H10.frozen 0;have z1:=H10.frozen 1;obtain ⟨x0,x1⟩:=H10.c2;have lx:=H10.lt;go_wp2;have H10':=Qm H10 (.string ⟨#[]⟩) (.int .i64 0);have H11':=Qi (Qi H11 (show p2 ≠ p1 by omega) 0 (.string ⟨#[]⟩)) (show p2 ≠ p1 by omega) 1 (.int .i64 0);replace HC:=(HC.setCell (p:=⟨p1,0,none⟩) gp1 (.string ⟨#[]⟩)).setCell (p:=⟨p1,1,none⟩) gp1 (.int .i64 0);clear H10 H11 z0 z1 x0 x1 lx;generalize World.setCell _ _ _ = wq at *;refine Qh HC ?_;refine Qr 5 rfl (by kernel_rfl) ?_;simp only [Qc,Qd,Qe];have z0:=H11'.frozen 0;have z1:=H11'.frozen 1
       obtain ⟨x0,x1⟩:=H11'.c2;have lx:=H11'.lt;go_wp2;have H11:=Qm H11' (.string ⟨#[]⟩) (.int .i64 0);have H10:=Qi (Qi H10' (show p1 ≠ p2 by omega) 0 (.string ⟨#[]⟩)) (show p1 ≠ p2 by omega) 1 (.int .i64 0);replace HC:=(HC.setCell (p:=⟨p2,0,none⟩) gp2 (.string ⟨#[]⟩)).setCell (p:=⟨p2,1,none⟩) gp2 (.int .i64 0);clear H10' H11' z0 z1 x0 x1 lx;generalize World.setCell _ _ _ = wq at *;refine Qq ?_;refine Qv (by kernel_rfl) ?_;exact Ja p1 p2 ⟨HC,gp1,gp2,by omega,H10,H11⟩ rfl
      ·simp only [Qc, Qd, Qe];go_wp2;obtain ⟨p2, wb, hbq, hwb, H11, HC', hx, gp2⟩ := Qn HC 85 #[.string ⟨#[]⟩, .int .i64 0];rw [← hbq, ← hwb];try have ne : p1 < p2 := by have := H10.lt; omega
       replace HC:=HC';try replace H10:=H10.ext hx
       clear hbq hwb hx HC';refine Qh HC ?_;refine Ql 2 rfl (by kernel_rfl) ?_;simp only [Qc,Qd,Qe];go_wp2;obtain ⟨p1,wb,hbq,hwb,H10,HC',hx,gp1⟩:=Qn HC 85 #[.string ⟨#[]⟩,.int .i64 0];rw [← hbq,← hwb];try have ne : p2 < p1:=by have:=H11.lt;omega
       replace HC:=HC';try replace H11:=H11.ext hx
       clear hbq hwb hx HC';refine Qh HC ?_;refine Ql 4 rfl (by kernel_rfl) ?_;simp only [Qc,Qd,Qe];have z0:=H10.frozen 0;have z1:=H10.frozen 1;obtain ⟨x0,x1⟩:=H10.c2;have lx:=H10.lt;go_wp2;have H10':=Qm H10 (.string ⟨#[]⟩) (.int .i64 0);have H11':=Qi (Qi H11 (show p2 ≠ p1 by omega) 0 (.string ⟨#[]⟩)) (show p2 ≠ p1 by omega) 1 (.int .i64 0);replace HC:=(HC.setCell (p:=⟨p1,0,none⟩) gp1 (.string ⟨#[]⟩)).setCell (p:=⟨p1,1,none⟩) gp1 (.int .i64 0);clear H10 H11 z0 z1 x0 x1 lx;generalize World.setCell _ _ _ = wq at *;refine Qh HC ?_;refine Qr 5 rfl (by kernel_rfl) ?_;simp only [Qc,Qd,Qe];have z0:=H11'.frozen 0;have z1:=H11'.frozen 1
       obtain ⟨x0,x1⟩:=H11'.c2;have lx:=H11'.lt;go_wp2;have H11:=Qm H11' (.string ⟨#[]⟩) (.int .i64 0);have H10:=Qi (Qi H10' (show p1 ≠ p2 by omega) 0 (.string ⟨#[]⟩)) (show p1 ≠ p2 by omega) 1 (.int .i64 0);replace HC:=(HC.setCell (p:=⟨p2,0,none⟩) gp2 (.string ⟨#[]⟩)).setCell (p:=⟨p2,1,none⟩) gp2 (.int .i64 0);clear H10' H11' z0 z1 x0 x1 lx;generalize World.setCell _ _ _ = wq at *;refine Qq ?_;refine Qv (by kernel_rfl) ?_;exact Ja p1 p2 ⟨HC,gp1,gp2,by omega,H10,H11⟩ rfl
     rintro p1 p2 w3 ⟨h3,gp1,gp2,ne,H10,H11⟩;have a0w:=((hE.trans h3).cell (p:=⟨b,off,none⟩) hb).trans a0;have a1w:=((hE.trans h3).cell (p:=⟨b,off + 1,none⟩) hb).trans a1;have e0w:=((hE.trans h3).cell (p:=⟨d,doff,none⟩) hd).trans e0;have e1w:=((hE.trans h3).cell (p:=⟨d,doff + 1,none⟩) hd).trans e1;have lbw:=Nat.lt_of_lt_of_le hb (hE.trans h3).size;have ldw:=Nat.lt_of_lt_of_le hd (hE.trans h3).size;go_upto_region 5 with (fail)
     refine Zd w3 Qo (by kernel_rfl) Qj ?_;intro hne hrx hry;try simp only []
     try simp only [List.append_eq,List.cons_append,List.nil_append]
     skip
     repeat (first
      | go_big_quiet_skip
      | (go_big_quiet_want;go_big_quiet_op;go_big_quiet_on)
      | (go_big_quiet_want;go_big_quiet_op;apply Exists.intro;refine ⟨fun u => ?_,?_⟩
         ·first
           | (go_at_call 112;(with_reducible refine Calls.mono (Na (f' 0) (g' 0) _) ?_);rintro e w' ⟨rfl,hb'⟩;exact ⟨rfl,u.back hb'⟩)
           | (go_at_fn 112;(with_reducible refine Calls.mono (Na (f' 0) (g' 0) _) ?_);rintro e w' ⟨rfl,hb'⟩;exact ⟨rfl,u.back hb'⟩)
         go_big_quiet_on))
     clear hne hry hrx;refine wpQuiet_nil ?_;intro w5 hh;obtain ⟨hcw5,hfw5,hzw5⟩:=Qb.rules hh;try simp only [World.size_alloc] at hzw5
     obtain ⟨hcbw5,hfbw5,hzbw5⟩:=Qb.rules (show Qb w3 w5 from Qj);clear hcw5 hfw5;replace H10:=H10.ext hh;replace H11:=H11.ext hh;clear a0w a1w e0w e1w lbw ldw;have h5:=h3.trans hh;cases hs1 : J3 (f' 0).g (g' 0).g
     ·have a0w:=((hE.trans h5).cell (p:=⟨b,off,none⟩) hb).trans a0;have a1w:=((hE.trans h5).cell (p:=⟨b,off + 1,none⟩) hb).trans a1;have e0w:=((hE.trans h5).cell (p:=⟨d,doff,none⟩) hd).trans e0;have e1w:=((hE.trans h5).cell (p:=⟨d,doff + 1,none⟩) hd).trans e1;have lbw:=Nat.lt_of_lt_of_le hb (hE.trans h5).size;have ldw:=Nat.lt_of_lt_of_le hd (hE.trans h5).size;go_upto_region 7 with (fail)
      refine Zd w5 Qo (by kernel_rfl) Qj ?_;intro hne hrx hry;try simp only []
      try simp only [List.append_eq,List.cons_append,List.nil_append]
      skip
      repeat (first
       | go_big_quiet_skip
       | (go_big_quiet_want;go_big_quiet_op;go_big_quiet_on)
       | (go_big_quiet_want;go_big_quiet_op;apply Exists.intro;refine ⟨fun u => ?_,?_⟩
          ·first
            | (go_at_call 112;(with_reducible refine Calls.mono (Na (g' 0) (f' 0) _) ?_);rintro e w' ⟨rfl,hb'⟩;exact ⟨rfl,u.back hb'⟩)
            | (go_at_fn 112;(with_reducible refine Calls.mono (Na (g' 0) (f' 0) _) ?_);rintro e w' ⟨rfl,hb'⟩;exact ⟨rfl,u.back hb'⟩)
          go_big_quiet_on))
      clear hne hry hrx;refine wpQuiet_nil ?_;intro w7 hk7;obtain ⟨hcw7,hfw7,hzw7⟩:=Qb.rules hk7;try simp only [World.size_alloc] at hzw7
      obtain ⟨hcbw7,hfbw7,hzbw7⟩:=Qb.rules (show Qb w5 w7 from Qj);clear hcw7 hfw7;replace H10:=H10.ext hk7;replace H11:=H11.ext hk7;clear a0w a1w e0w e1w lbw ldw;replace h5:=h5.trans hk7;cases hs2 : J3 (g' 0).g (f' 0).g
      ·rw [step_b hs1 hs2] at hout hall;go_upto_region 4 with (fail)
       apply Qjg (S:=fun w' o2 c2 o3 c3 => Qb wo w' ∧ Qa w' p1 85 #[.string (f' 0).g,.int .i64 (f' 0).n] ∧ Qa w' p2 85 #[.string (g' 0).g,.int .i64 (g' 0).n] ∧ Qp W0 (some ⟨b,o2,none⟩) n' 2 (Zc (fun t => f' (t + 1))) ∧ n' ≤ c2 ∧ Qp W0 (some ⟨d,o3,none⟩) m' 2 (Zc (fun t => g' (t + 1))) ∧ m' ≤ c3)
       ·by_cases hc1 : ca' = 1;rotate_left
        ·by_cases hc2 : cb' = 1;rotate_left
         ·refine Zb 14 [13] (fun x => Qb wo x) Qo rfl ?_;intro vz hvz;have HC:=h5.trans hvz;replace H10:=H10.ext hvz;replace H11:=H11.ext hvz;refine Qs (g:=4) [0,1,2,3,4,5,6,7,8,9] [_,_,_,_,_,_,_,_,_,_] ⟨rfl,rfl,rfl,rfl,rfl,rfl,rfl,rfl,rfl,rfl,trivial⟩ (by kernel_rfl) (by kernel_rfl) HC ?_;simp only [Qc,Qd,Qe];apply Exists.intro;refine ⟨fun u hu => ?_,?_⟩
          ·have a0':=((hE.trans hu).cell (p:=⟨b,off,none⟩) hb).trans a0;have a1':=((hE.trans hu).cell (p:=⟨b,off + 1,none⟩) hb).trans a1;have lb:=Nat.lt_of_lt_of_le hb (hE.trans hu).size;have e0':=((hE.trans hu).cell (p:=⟨d,doff,none⟩) hd).trans e0;have e1':=((hE.trans hu).cell (p:=⟨d,doff + 1,none⟩) hd).trans e1;have ld:=Nat.lt_of_lt_of_le hd (hE.trans hu).size;repeat (first | go_big_quiet_skip | (go_big_quiet_want;go_big_quiet_op;go_big_quiet_on))
           refine wpQuiet_nil ?_;rfl
          refine Ql 10 rfl (by kernel_rfl) ?_;simp only [Qc,Qd,Qe];have z0:=H10.frozen 0;have z1:=H10.frozen 1;obtain ⟨x0,x1⟩:=H10.c2;have lx:=H10.lt;go_wp2;have NH10:=Qm H10 (.string (f' 0).g) (.int .i64 (f' 0).n);replace H11:=Qi (Qi H11 (Ne.symm ne) 0 (.string (f' 0).g)) (Ne.symm ne) 1 (.int .i64 (f' 0).n);replace HC:=(HC.setCell (p:=⟨p1,0,none⟩) gp1 (.string (f' 0).g)).setCell (p:=⟨p1,1,none⟩) gp1 (.int .i64 (f' 0).n);clear z0 z1 x0 x1 lx H10;have H10:=NH10;clear NH10;generalize World.setCell _ _ _ = wq at *;refine Qh HC ?_;refine Ql 11 rfl (by kernel_rfl) ?_;simp only [Qc,Qd,Qe];have z0:=H11.frozen 0;have z1:=H11.frozen 1
          obtain ⟨x0,x1⟩:=H11.c2;have lx:=H11.lt;go_wp2;have NH11:=Qm H11 (.string (g' 0).g) (.int .i64 (g' 0).n);replace H10:=Qi (Qi H10 ne 0 (.string (g' 0).g)) ne 1 (.int .i64 (g' 0).n);replace HC:=(HC.setCell (p:=⟨p2,0,none⟩) gp2 (.string (g' 0).g)).setCell (p:=⟨p2,1,none⟩) gp2 (.int .i64 (g' 0).n);clear z0 z1 x0 x1 lx H11;have H11:=NH11;clear NH11;generalize World.setCell _ _ _ = wq at *;refine Qh HC ?_;refine Qs (g:=1) [12] [_] ⟨rfl,trivial⟩ (by kernel_rfl) (by kernel_rfl) HC ?_;simp only [Qc,Qd,Qe];apply Exists.intro;refine ⟨fun u hu => ?_,?_⟩
          ·have a0':=((hE.trans hu).cell (p:=⟨b,off,none⟩) hb).trans a0;have a1':=((hE.trans hu).cell (p:=⟨b,off + 1,none⟩) hb).trans a1;have lb:=Nat.lt_of_lt_of_le hb (hE.trans hu).size;have e0':=((hE.trans hu).cell (p:=⟨d,doff,none⟩) hd).trans e0;have e1':=((hE.trans hu).cell (p:=⟨d,doff + 1,none⟩) hd).trans e1;have ld:=Nat.lt_of_lt_of_le hd (hE.trans hu).size;repeat (first | go_big_quiet_skip | (go_big_quiet_want;go_big_quiet_op;go_big_quiet_on))
           refine wpQuiet_nil ?_;rfl
          refine Qr 13 rfl (by kernel_rfl) ?_;simp only [Qc,Qd,Qe];go_wp2;refine Qq ?_;refine Qv (by kernel_rfl) ?_
          (obtain ⟨oo,hoo⟩ : ∃ x,x = off + 2:=⟨_,rfl⟩;obtain ⟨cc,hcc⟩ : ∃ x,x = ca' - 1:=⟨_,rfl⟩;rw [← hoo] at hA2;rw [← hoo,← hcc];obtain ⟨po,hpo⟩ : ∃ x,x = doff + 2:=⟨_,rfl⟩;obtain ⟨pc,hpc⟩ : ∃ x,x = cb' - 1:=⟨_,rfl⟩;rw [← hpo] at hB2;rw [← hpo,← hpc];exact Ng oo cc po pc ⟨HC,H10,H11,hA2,by omega,hB2,by omega⟩ rfl)
         ·subst hc2;obtain rfl : m' = 0 := by omega
          refine Zb 14 [13] (fun x => Qb wo x) Qo rfl ?_;intro vz hvz;have HC:=h5.trans hvz;replace H10:=H10.ext hvz;replace H11:=H11.ext hvz;refine Qs (g:=4) [0,1,2,3,4,5,6,7,8,9] [_,_,_,_,_,_,_,_,_,_] ⟨rfl,rfl,rfl,rfl,rfl,rfl,rfl,rfl,rfl,rfl,trivial⟩ (by kernel_rfl) (by kernel_rfl) HC ?_;simp only [Qc,Qd,Qe];apply Exists.intro;refine ⟨fun u hu => ?_,?_⟩
          ·have a0':=((hE.trans hu).cell (p:=⟨b,off,none⟩) hb).trans a0;have a1':=((hE.trans hu).cell (p:=⟨b,off + 1,none⟩) hb).trans a1;have lb:=Nat.lt_of_lt_of_le hb (hE.trans hu).size;have e0':=((hE.trans hu).cell (p:=⟨d,doff,none⟩) hd).trans e0;have e1':=((hE.trans hu).cell (p:=⟨d,doff + 1,none⟩) hd).trans e1;have ld:=Nat.lt_of_lt_of_le hd (hE.trans hu).size;repeat (first | go_big_quiet_skip | (go_big_quiet_want;go_big_quiet_op;go_big_quiet_on))
           refine wpQuiet_nil ?_;rfl
          refine Ql 10 rfl (by kernel_rfl) ?_;simp only [Qc,Qd,Qe];have z0:=H10.frozen 0;have z1:=H10.frozen 1;obtain ⟨x0,x1⟩:=H10.c2;have lx:=H10.lt;go_wp2;have NH10:=Qm H10 (.string (f' 0).g) (.int .i64 (f' 0).n);replace H11:=Qi (Qi H11 (Ne.symm ne) 0 (.string (f' 0).g)) (Ne.symm ne) 1 (.int .i64 (f' 0).n);replace HC:=(HC.setCell (p:=⟨p1,0,none⟩) gp1 (.string (f' 0).g)).setCell (p:=⟨p1,1,none⟩) gp1 (.int .i64 (f' 0).n);clear z0 z1 x0 x1 lx H10;have H10:=NH10;clear NH10;generalize World.setCell _ _ _ = wq at *;refine Qh HC ?_;refine Ql 11 rfl (by kernel_rfl) ?_;simp only [Qc,Qd,Qe];have z0:=H11.frozen 0;have z1:=H11.frozen 1
          obtain ⟨x0,x1⟩:=H11.c2;have lx:=H11.lt;go_wp2;have NH11:=Qm H11 (.string (g' 0).g) (.int .i64 (g' 0).n);replace H10:=Qi (Qi H10 ne 0 (.string (g' 0).g)) ne 1 (.int .i64 (g' 0).n);replace HC:=(HC.setCell (p:=⟨p2,0,none⟩) gp2 (.string (g' 0).g)).setCell (p:=⟨p2,1,none⟩) gp2 (.int .i64 (g' 0).n);clear z0 z1 x0 x1 lx H11;have H11:=NH11;clear NH11;generalize World.setCell _ _ _ = wq at *;refine Qh HC ?_;refine Qs (g:=1) [12] [_] ⟨rfl,trivial⟩ (by kernel_rfl) (by kernel_rfl) HC ?_;simp only [Qc,Qd,Qe];apply Exists.intro;refine ⟨fun u hu => ?_,?_⟩
          ·have a0':=((hE.trans hu).cell (p:=⟨b,off,none⟩) hb).trans a0;have a1':=((hE.trans hu).cell (p:=⟨b,off + 1,none⟩) hb).trans a1;have lb:=Nat.lt_of_lt_of_le hb (hE.trans hu).size;have e0':=((hE.trans hu).cell (p:=⟨d,doff,none⟩) hd).trans e0;have e1':=((hE.trans hu).cell (p:=⟨d,doff + 1,none⟩) hd).trans e1;have ld:=Nat.lt_of_lt_of_le hd (hE.trans hu).size;repeat (first | go_big_quiet_skip | (go_big_quiet_want;go_big_quiet_op;go_big_quiet_on))
           refine wpQuiet_nil ?_;rfl
          refine Qr 13 rfl (by kernel_rfl) ?_;simp only [Qc,Qd,Qe];go_wp2;refine Qq ?_;refine Qv (by kernel_rfl) ?_
          (obtain ⟨oo,hoo⟩ : ∃ x,x = off + 2:=⟨_,rfl⟩;obtain ⟨cc,hcc⟩ : ∃ x,x = ca' - 1:=⟨_,rfl⟩;rw [← hoo] at hA2;rw [← hoo,← hcc];exact Ng oo cc doff 0 ⟨HC,H10,H11,hA2,by omega,Qp.nil,Nat.le_refl _⟩ rfl)
        ·subst hc1;obtain rfl : n' = 0 := by omega
         by_cases hc2 : cb' = 1;rotate_left
         ·refine Zb 14 [13] (fun x => Qb wo x) Qo rfl ?_;intro vz hvz;have HC:=h5.trans hvz;replace H10:=H10.ext hvz;replace H11:=H11.ext hvz;refine Qs (g:=4) [0,1,2,3,4,5,6,7,8,9] [_,_,_,_,_,_,_,_,_,_] ⟨rfl,rfl,rfl,rfl,rfl,rfl,rfl,rfl,rfl,rfl,trivial⟩ (by kernel_rfl) (by kernel_rfl) HC ?_;simp only [Qc,Qd,Qe];apply Exists.intro;refine ⟨fun u hu => ?_,?_⟩
          ·have a0':=((hE.trans hu).cell (p:=⟨b,off,none⟩) hb).trans a0;have a1':=((hE.trans hu).cell (p:=⟨b,off + 1,none⟩) hb).trans a1;have lb:=Nat.lt_of_lt_of_le hb (hE.trans hu).size;have e0':=((hE.trans hu).cell (p:=⟨d,doff,none⟩) hd).trans e0;have e1':=((hE.trans hu).cell (p:=⟨d,doff + 1,none⟩) hd).trans e1;have ld:=Nat.lt_of_lt_of_le hd (hE.trans hu).size;repeat (first | go_big_quiet_skip | (go_big_quiet_want;go_big_quiet_op;go_big_quiet_on))
           refine wpQuiet_nil ?_;rfl
          refine Ql 10 rfl (by kernel_rfl) ?_;simp only [Qc,Qd,Qe];have z0:=H10.frozen 0;have z1:=H10.frozen 1;obtain ⟨x0,x1⟩:=H10.c2;have lx:=H10.lt;go_wp2;have NH10:=Qm H10 (.string (f' 0).g) (.int .i64 (f' 0).n);replace H11:=Qi (Qi H11 (Ne.symm ne) 0 (.string (f' 0).g)) (Ne.symm ne) 1 (.int .i64 (f' 0).n);replace HC:=(HC.setCell (p:=⟨p1,0,none⟩) gp1 (.string (f' 0).g)).setCell (p:=⟨p1,1,none⟩) gp1 (.int .i64 (f' 0).n);clear z0 z1 x0 x1 lx H10;have H10:=NH10;clear NH10;generalize World.setCell _ _ _ = wq at *;refine Qh HC ?_;refine Ql 11 rfl (by kernel_rfl) ?_;simp only [Qc,Qd,Qe];have z0:=H11.frozen 0;have z1:=H11.frozen 1
          obtain ⟨x0,x1⟩:=H11.c2;have lx:=H11.lt;go_wp2;have NH11:=Qm H11 (.string (g' 0).g) (.int .i64 (g' 0).n);replace H10:=Qi (Qi H10 ne 0 (.string (g' 0).g)) ne 1 (.int .i64 (g' 0).n);replace HC:=(HC.setCell (p:=⟨p2,0,none⟩) gp2 (.string (g' 0).g)).setCell (p:=⟨p2,1,none⟩) gp2 (.int .i64 (g' 0).n);clear z0 z1 x0 x1 lx H11;have H11:=NH11;clear NH11;generalize World.setCell _ _ _ = wq at *;refine Qh HC ?_;refine Qs (g:=1) [12] [_] ⟨rfl,trivial⟩ (by kernel_rfl) (by kernel_rfl) HC ?_;simp only [Qc,Qd,Qe];apply Exists.intro;refine ⟨fun u hu => ?_,?_⟩
          ·have a0':=((hE.trans hu).cell (p:=⟨b,off,none⟩) hb).trans a0;have a1':=((hE.trans hu).cell (p:=⟨b,off + 1,none⟩) hb).trans a1;have lb:=Nat.lt_of_lt_of_le hb (hE.trans hu).size;have e0':=((hE.trans hu).cell (p:=⟨d,doff,none⟩) hd).trans e0;have e1':=((hE.trans hu).cell (p:=⟨d,doff + 1,none⟩) hd).trans e1;have ld:=Nat.lt_of_lt_of_le hd (hE.trans hu).size;repeat (first | go_big_quiet_skip | (go_big_quiet_want;go_big_quiet_op;go_big_quiet_on))
           refine wpQuiet_nil ?_;rfl
          refine Qr 13 rfl (by kernel_rfl) ?_;simp only [Qc,Qd,Qe];go_wp2;refine Qq ?_;refine Qv (by kernel_rfl) ?_
          (obtain ⟨po,hpo⟩ : ∃ x,x = doff + 2:=⟨_,rfl⟩;obtain ⟨pc,hpc⟩ : ∃ x,x = cb' - 1:=⟨_,rfl⟩;rw [← hpo] at hB2;rw [← hpo,← hpc];exact Ng off 0 po pc ⟨HC,H10,H11,Qp.nil,Nat.le_refl _,hB2,by omega⟩ rfl)
         ·subst hc2;obtain rfl : m' = 0 := by omega
          refine Zb 14 [13] (fun x => Qb wo x) Qo rfl ?_;intro vz hvz;have HC:=h5.trans hvz;replace H10:=H10.ext hvz;replace H11:=H11.ext hvz;refine Qs (g:=4) [0,1,2,3,4,5,6,7,8,9] [_,_,_,_,_,_,_,_,_,_] ⟨rfl,rfl,rfl,rfl,rfl,rfl,rfl,rfl,rfl,rfl,trivial⟩ (by kernel_rfl) (by kernel_rfl) HC ?_;simp only [Qc,Qd,Qe];apply Exists.intro;refine ⟨fun u hu => ?_,?_⟩
          ·have a0':=((hE.trans hu).cell (p:=⟨b,off,none⟩) hb).trans a0;have a1':=((hE.trans hu).cell (p:=⟨b,off + 1,none⟩) hb).trans a1;have lb:=Nat.lt_of_lt_of_le hb (hE.trans hu).size;have e0':=((hE.trans hu).cell (p:=⟨d,doff,none⟩) hd).trans e0;have e1':=((hE.trans hu).cell (p:=⟨d,doff + 1,none⟩) hd).trans e1;have ld:=Nat.lt_of_lt_of_le hd (hE.trans hu).size;repeat (first | go_big_quiet_skip | (go_big_quiet_want;go_big_quiet_op;go_big_quiet_on))
           refine wpQuiet_nil ?_;rfl
          refine Ql 10 rfl (by kernel_rfl) ?_;simp only [Qc,Qd,Qe];have z0:=H10.frozen 0;have z1:=H10.frozen 1;obtain ⟨x0,x1⟩:=H10.c2;have lx:=H10.lt;go_wp2;have NH10:=Qm H10 (.string (f' 0).g) (.int .i64 (f' 0).n);replace H11:=Qi (Qi H11 (Ne.symm ne) 0 (.string (f' 0).g)) (Ne.symm ne) 1 (.int .i64 (f' 0).n);replace HC:=(HC.setCell (p:=⟨p1,0,none⟩) gp1 (.string (f' 0).g)).setCell (p:=⟨p1,1,none⟩) gp1 (.int .i64 (f' 0).n);clear z0 z1 x0 x1 lx H10;have H10:=NH10;clear NH10;generalize World.setCell _ _ _ = wq at *;refine Qh HC ?_;refine Ql 11 rfl (by kernel_rfl) ?_;simp only [Qc,Qd,Qe];have z0:=H11.frozen 0;have z1:=H11.frozen 1
          obtain ⟨x0,x1⟩:=H11.c2;have lx:=H11.lt;go_wp2;have NH11:=Qm H11 (.string (g' 0).g) (.int .i64 (g' 0).n);replace H10:=Qi (Qi H10 ne 0 (.string (g' 0).g)) ne 1 (.int .i64 (g' 0).n);replace HC:=(HC.setCell (p:=⟨p2,0,none⟩) gp2 (.string (g' 0).g)).setCell (p:=⟨p2,1,none⟩) gp2 (.int .i64 (g' 0).n);clear z0 z1 x0 x1 lx H11;have H11:=NH11;clear NH11;generalize World.setCell _ _ _ = wq at *;refine Qh HC ?_;refine Qs (g:=1) [12] [_] ⟨rfl,trivial⟩ (by kernel_rfl) (by kernel_rfl) HC ?_;simp only [Qc,Qd,Qe];apply Exists.intro;refine ⟨fun u hu => ?_,?_⟩
          ·have a0':=((hE.trans hu).cell (p:=⟨b,off,none⟩) hb).trans a0;have a1':=((hE.trans hu).cell (p:=⟨b,off + 1,none⟩) hb).trans a1;have lb:=Nat.lt_of_lt_of_le hb (hE.trans hu).size;have e0':=((hE.trans hu).cell (p:=⟨d,doff,none⟩) hd).trans e0;have e1':=((hE.trans hu).cell (p:=⟨d,doff + 1,none⟩) hd).trans e1;have ld:=Nat.lt_of_lt_of_le hd (hE.trans hu).size;repeat (first | go_big_quiet_skip | (go_big_quiet_want;go_big_quiet_op;go_big_quiet_on))
           refine wpQuiet_nil ?_;rfl
          refine Qr 13 rfl (by kernel_rfl) ?_;simp only [Qc,Qd,Qe];go_wp2;refine Qq ?_;refine Qv (by kernel_rfl) ?_
          (exact Ng off 0 doff 0 ⟨HC,H10,H11,Qp.nil,Nat.le_refl _,Qp.nil,Nat.le_refl _⟩ rfl)
       rintro o2 c2 o3 c3 w6 ⟨h6,H10,H11,hA3,hc3,hB3,hc4⟩;have NP:=Mj sg hsg (f' 0) (g' 0) (hf.out 0 (by omega)) (hg.out 0 (by omega)) (b9 + 1) bs bo F k cap xs w6 (HS.ext h6) (HO.ext h6) (Jo hO h6) (by omega) (by have:=h6.size;omega);obtain ⟨x0,x1⟩:=H10.c2;have lx:=H10.lt;obtain ⟨y0,y1⟩:=H11.c2;have ly:=H11.lt;have hkl:=L4 sg ((f' 0),(g' 0));cases hr : Xw sg (f' 0) (g' 0)
       ·rw [hr] at NP;have hno:=Ll hall.out hr;clear hall hout hr;go_wp2_with (first | (go_at_call 113;(with_reducible refine Calls.mono (NP) ?_);rintro e w9 ⟨rfl,HP,HQ⟩) | (go_at_fn 113;(with_reducible refine Calls.mono (NP) ?_);rintro e w9 ⟨rfl,HP,HQ⟩));go_ret;exact ⟨Jd hno.symm,HP.ext W0 (hE.trans h6) hbo (by omega),fun h => by rw [hno] at h;cases h⟩
       ·rw [hr] at NP;have hyes:=Lib.hid (Lm hall.out hr);have hout2:=Lib.hid (Mg hout.out);clear hall hout hr;go_wp2_with (first | (go_at_call 113;(with_reducible refine Calls.mono (NP) ?_);rintro e w9 ⟨rfl,HP,HQ⟩) | (go_at_fn 113;(with_reducible refine Calls.mono (NP) ?_);rintro e w9 ⟨rfl,HP,HQ⟩));obtain ⟨F2,k2,cap2,HO2,hO2⟩:=HQ (by trivial);have hl2:=hO2.1;rw [List.length_append] at hl2;have hE9:=HP.ext W0 (hE.trans h6) hbo (by omega);exact ⟨⟨n',m',q,(fun t => f' (t + 1)),(fun t => g' (t + 1)),some ⟨b,o2,none⟩,some ⟨d,o3,none⟩,c2,c3,rfl,rfl,by omega,by omega,by omega,hA3,hB3,Lib.hid (fun i hi => hf.out (i + 1) (by omega)),Lib.hid (fun i hi => hg.out (i + 1) (by omega)),hE9,HP.held _ _ _ (H9.ext h6) (by omega) (by omega),HP.held _ _ _ (HS.ext h6) (Lx (HS.ext h6) (HO.ext h6) (by decide)) hbs9,(HP.held _ _ _ (H9.ext h6) (by omega) (by omega)).lt,hbs9,F2,k2,cap2,_,HO2,hO2,hO2.1,by omega,hout2,hyes⟩,by simp [lenOf] <;> omega⟩
      ·rw [I7 (.inr ⟨hs1,hs2⟩),show Xg = ⟨⟨#[]⟩,0⟩ from rfl] at hout hall;go_upto_region 8 with (fail)
       apply W8 (S:=fun w' o2 c2 => Qb wo w' ∧ Qa w' p1 85 #[.string ⟨#[]⟩,.int .i64 0] ∧ Qa w' p2 85 #[.string (g' 0).g,.int .i64 (g' 0).n] ∧ Qp W0 (some ⟨d,o2,none⟩) m' 2 (Zc (fun t => g' (t + 1))) ∧ m' ≤ c2)
       ·by_cases hc1 : cb' = 1;rotate_left
        ·refine Zb 7 [6] (fun x => Qb wo x) Qo rfl ?_;intro vz hvz;have HC:=h5.trans hvz;replace H10:=H10.ext hvz;replace H11:=H11.ext hvz;refine Qs (g:=3) [0,1,2,3] [_,_,_,_] ⟨rfl,rfl,rfl,rfl,trivial⟩ (by kernel_rfl) (by kernel_rfl) HC ?_;simp only [Qc,Qd,Qe];apply Exists.intro;refine ⟨fun u hu => ?_,?_⟩
         ·have e0':=((hE.trans hu).cell (p:=⟨d,doff,none⟩) hd).trans e0;have e1':=((hE.trans hu).cell (p:=⟨d,doff + 1,none⟩) hd).trans e1;have ld:=Nat.lt_of_lt_of_le hd (hE.trans hu).size;repeat (first | go_big_quiet_skip | (go_big_quiet_want;go_big_quiet_op;go_big_quiet_on))
          refine wpQuiet_nil ?_;rfl
         refine Zh 4 5 rfl rfl (by kernel_rfl) ?_ ?_
         ·simp only [Qc,Qd,Qe];go_wp2;refine Qh HC ?_;refine Ql 5 rfl (by kernel_rfl) ?_;simp only [Qc,Qd,Qe];have z0:=H11.frozen 0;have z1:=H11.frozen 1;obtain ⟨x0,x1⟩:=H11.c2;have lx:=H11.lt;go_wp2;have H11':=Qm H11 (.string (g' 0).g) (.int .i64 (g' 0).n);replace H10:=Qi (Qi H10 ne 0 (.string (g' 0).g)) ne 1 (.int .i64 (g' 0).n);replace HC:=(HC.setCell (p:=⟨p2,0,none⟩) gp2 (.string (g' 0).g)).setCell (p:=⟨p2,1,none⟩) gp2 (.int .i64 (g' 0).n);clear H11 z0 z1 x0 x1 lx;generalize World.setCell _ _ _ = wq at *;refine Qh HC ?_;refine Qr 6 rfl (by kernel_rfl) ?_;simp only [Qc,Qd,Qe];go_wp2;refine Qq ?_;refine Qv (by kernel_rfl) ?_
          (obtain ⟨oo,hoo⟩ : ∃ x,x = doff + 2:=⟨_,rfl⟩;obtain ⟨cc,hcc⟩ : ∃ x,x = cb' - 1:=⟨_,rfl⟩;rw [← hoo] at hB2;rw [← hoo,← hcc];exact Ja oo cc ⟨HC,H10,H11',hB2,by omega⟩ rfl)
         ·simp only [Qc,Qd,Qe];have z0:=H11.frozen 0;have z1:=H11.frozen 1;obtain ⟨x0,x1⟩:=H11.c2;have lx:=H11.lt;go_wp2;have H11':=Qm H11 (.string (g' 0).g) (.int .i64 (g' 0).n);replace H10:=Qi (Qi H10 ne 0 (.string (g' 0).g)) ne 1 (.int .i64 (g' 0).n);replace HC:=(HC.setCell (p:=⟨p2,0,none⟩) gp2 (.string (g' 0).g)).setCell (p:=⟨p2,1,none⟩) gp2 (.int .i64 (g' 0).n);clear H11 z0 z1 x0 x1 lx;generalize World.setCell _ _ _ = wq at *;refine Qh HC ?_;refine Ql 4 rfl (by kernel_rfl) ?_;simp only [Qc,Qd,Qe];go_wp2;refine Qh HC ?_;refine Qr 6 rfl (by kernel_rfl) ?_;simp only [Qc,Qd,Qe];go_wp2;refine Qq ?_;refine Qv (by kernel_rfl) ?_
          (obtain ⟨oo,hoo⟩ : ∃ x,x = doff + 2:=⟨_,rfl⟩;obtain ⟨cc,hcc⟩ : ∃ x,x = cb' - 1:=⟨_,rfl⟩;rw [← hoo] at hB2;rw [← hoo,← hcc];exact Ja oo cc ⟨HC,H10,H11',hB2,by omega⟩ rfl)
        ·subst hc1;obtain rfl : m' = 0 := by omega
         refine Zb 7 [6] (fun x => Qb wo x) Qo rfl ?_;intro vz hvz;have HC:=h5.trans hvz;replace H10:=H10.ext hvz;replace H11:=H11.ext hvz;refine Qs (g:=3) [0,1,2,3] [_,_,_,_] ⟨rfl,rfl,rfl,rfl,trivial⟩ (by kernel_rfl) (by kernel_rfl) HC ?_;simp only [Qc,Qd,Qe];apply Exists.intro;refine ⟨fun u hu => ?_,?_⟩
         ·have e0':=((hE.trans hu).cell (p:=⟨d,doff,none⟩) hd).trans e0;have e1':=((hE.trans hu).cell (p:=⟨d,doff + 1,none⟩) hd).trans e1;have ld:=Nat.lt_of_lt_of_le hd (hE.trans hu).size;repeat (first | go_big_quiet_skip | (go_big_quiet_want;go_big_quiet_op;go_big_quiet_on))
          refine wpQuiet_nil ?_;rfl
         refine Zh 4 5 rfl rfl (by kernel_rfl) ?_ ?_
         ·simp only [Qc,Qd,Qe];go_wp2;refine Qh HC ?_;refine Ql 5 rfl (by kernel_rfl) ?_;simp only [Qc,Qd,Qe];have z0:=H11.frozen 0;have z1:=H11.frozen 1;obtain ⟨x0,x1⟩:=H11.c2;have lx:=H11.lt;go_wp2;have H11':=Qm H11 (.string (g' 0).g) (.int .i64 (g' 0).n);replace H10:=Qi (Qi H10 ne 0 (.string (g' 0).g)) ne 1 (.int .i64 (g' 0).n);replace HC:=(HC.setCell (p:=⟨p2,0,none⟩) gp2 (.string (g' 0).g)).setCell (p:=⟨p2,1,none⟩) gp2 (.int .i64 (g' 0).n);clear H11 z0 z1 x0 x1 lx;generalize World.setCell _ _ _ = wq at *;refine Qh HC ?_;refine Qr 6 rfl (by kernel_rfl) ?_;simp only [Qc,Qd,Qe];go_wp2;refine Qq ?_;refine Qv (by kernel_rfl) ?_
          exact Ja doff 0 ⟨HC,H10,H11',Qp.nil,Nat.le_refl _⟩ rfl
         ·simp only [Qc,Qd,Qe];have z0:=H11.frozen 0;have z1:=H11.frozen 1;obtain ⟨x0,x1⟩:=H11.c2;have lx:=H11.lt;go_wp2;have H11':=Qm H11 (.string (g' 0).g) (.int .i64 (g' 0).n);replace H10:=Qi (Qi H10 ne 0 (.string (g' 0).g)) ne 1 (.int .i64 (g' 0).n);replace HC:=(HC.setCell (p:=⟨p2,0,none⟩) gp2 (.string (g' 0).g)).setCell (p:=⟨p2,1,none⟩) gp2 (.int .i64 (g' 0).n);clear H11 z0 z1 x0 x1 lx;generalize World.setCell _ _ _ = wq at *;refine Qh HC ?_;refine Ql 4 rfl (by kernel_rfl) ?_;simp only [Qc,Qd,Qe];go_wp2;refine Qh HC ?_;refine Qr 6 rfl (by kernel_rfl) ?_;simp only [Qc,Qd,Qe];go_wp2;refine Qq ?_;refine Qv (by kernel_rfl) ?_
          exact Ja doff 0 ⟨HC,H10,H11',Qp.nil,Nat.le_refl _⟩ rfl
       rintro o2 c2 w6 ⟨h6,H10,H11,hB3,hc3⟩;have NP:=Mj sg hsg ⟨⟨#[]⟩,0⟩ (g' 0) (Gh) (hg.out 0 (by omega)) (b9 + 1) bs bo F k cap xs w6 (HS.ext h6) (HO.ext h6) (Jo hO h6) (by omega) (by have:=h6.size;omega);obtain ⟨x0,x1⟩:=H10.c2;have lx:=H10.lt;obtain ⟨y0,y1⟩:=H11.c2;have ly:=H11.lt;have hkl:=L4 sg (⟨⟨#[]⟩,0⟩,(g' 0));cases hr : Xw sg ⟨⟨#[]⟩,0⟩ (g' 0)
       ·rw [hr] at NP;have hno:=Ll hall.out hr;clear hall hout hr;go_wp2_with (first | (go_at_call 113;(with_reducible refine Calls.mono (NP) ?_);rintro e w9 ⟨rfl,HP,HQ⟩) | (go_at_fn 113;(with_reducible refine Calls.mono (NP) ?_);rintro e w9 ⟨rfl,HP,HQ⟩));go_ret;exact ⟨Jd hno.symm,HP.ext W0 (hE.trans h6) hbo (by omega),fun h => by rw [hno] at h;cases h⟩
       ·rw [hr] at NP;have hyes:=Lib.hid (Lm hall.out hr);have hout2:=Lib.hid (Mg hout.out);clear hall hout hr;go_wp2_with (first | (go_at_call 113;(with_reducible refine Calls.mono (NP) ?_);rintro e w9 ⟨rfl,HP,HQ⟩) | (go_at_fn 113;(with_reducible refine Calls.mono (NP) ?_);rintro e w9 ⟨rfl,HP,HQ⟩));obtain ⟨F2,k2,cap2,HO2,hO2⟩:=HQ (by trivial);have hl2:=hO2.1;rw [List.length_append] at hl2;have hE9:=HP.ext W0 (hE.trans h6) hbo (by omega);exact ⟨⟨(n' + 1),m',q,f',(fun t => g' (t + 1)),some ⟨b,off,none⟩,some ⟨d,o2,none⟩,ca',c2,rfl,rfl,by omega,by omega,by omega,hA,hB3,hf,Lib.hid (fun i hi => hg.out (i + 1) (by omega)),hE9,HP.held _ _ _ (H9.ext h6) (by omega) (by omega),HP.held _ _ _ (HS.ext h6) (Lx (HS.ext h6) (HO.ext h6) (by decide)) hbs9,(HP.held _ _ _ (H9.ext h6) (by omega) (by omega)).lt,hbs9,F2,k2,cap2,_,HO2,hO2,hO2.1,by omega,hout2,hyes⟩,by simp [lenOf] <;> omega⟩
     ·rw [I6 (.inr hs1),show Xg = ⟨⟨#[]⟩,0⟩ from rfl] at hout hall;go_upto_region 6 with (fail)
      apply W8 (S:=fun w' o2 c2 => Qb wo w' ∧ Qa w' p1 85 #[.string (f' 0).g,.int .i64 (f' 0).n] ∧ Qa w' p2 85 #[.string ⟨#[]⟩,.int .i64 0] ∧ Qp W0 (some ⟨b,o2,none⟩) n' 2 (Zc (fun t => f' (t + 1))) ∧ n' ≤ c2)
      ·by_cases hc1 : ca' = 1;rotate_left
       ·refine Zb 7 [6] (fun x => Qb wo x) Qo rfl ?_;intro vz hvz;have HC:=h5.trans hvz;replace H10:=H10.ext hvz;replace H11:=H11.ext hvz;refine Qs (g:=3) [0,1,2,3] [_,_,_,_] ⟨rfl,rfl,rfl,rfl,trivial⟩ (by kernel_rfl) (by kernel_rfl) HC ?_;simp only [Qc,Qd,Qe];apply Exists.intro;refine ⟨fun u hu => ?_,?_⟩
        ·have a0':=((hE.trans hu).cell (p:=⟨b,off,none⟩) hb).trans a0;have a1':=((hE.trans hu).cell (p:=⟨b,off + 1,none⟩) hb).trans a1;have lb:=Nat.lt_of_lt_of_le hb (hE.trans hu).size;repeat (first | go_big_quiet_skip | (go_big_quiet_want;go_big_quiet_op;go_big_quiet_on))
         refine wpQuiet_nil ?_;rfl
        refine Zh 4 5 rfl rfl (by kernel_rfl) ?_ ?_
        ·simp only [Qc,Qd,Qe];go_wp2;refine Qh HC ?_;refine Ql 5 rfl (by kernel_rfl) ?_;simp only [Qc,Qd,Qe];have z0:=H10.frozen 0;have z1:=H10.frozen 1;obtain ⟨x0,x1⟩:=H10.c2;have lx:=H10.lt;go_wp2;have H10':=Qm H10 (.string (f' 0).g) (.int .i64 (f' 0).n);replace H11:=Qi (Qi H11 (Ne.symm ne) 0 (.string (f' 0).g)) (Ne.symm ne) 1 (.int .i64 (f' 0).n);replace HC:=(HC.setCell (p:=⟨p1,0,none⟩) gp1 (.string (f' 0).g)).setCell (p:=⟨p1,1,none⟩) gp1 (.int .i64 (f' 0).n);clear H10 z0 z1 x0 x1 lx;generalize World.setCell _ _ _ = wq at *;refine Qh HC ?_;refine Qr 6 rfl (by kernel_rfl) ?_;simp only [Qc,Qd,Qe];go_wp2;refine Qq ?_
         refine Qv (by kernel_rfl) ?_
         (obtain ⟨oo,hoo⟩ : ∃ x,x = off + 2:=⟨_,rfl⟩;obtain ⟨cc,hcc⟩ : ∃ x,x = ca' - 1:=⟨_,rfl⟩;rw [← hoo] at hA2;rw [← hoo,← hcc];exact Ja oo cc ⟨HC,H10',H11,hA2,by omega⟩ rfl)
        ·simp only [Qc,Qd,Qe];have z0:=H10.frozen 0;have z1:=H10.frozen 1;obtain ⟨x0,x1⟩:=H10.c2;have lx:=H10.lt;go_wp2;have H10':=Qm H10 (.string (f' 0).g) (.int .i64 (f' 0).n);replace H11:=Qi (Qi H11 (Ne.symm ne) 0 (.string (f' 0).g)) (Ne.symm ne) 1 (.int .i64 (f' 0).n);replace HC:=(HC.setCell (p:=⟨p1,0,none⟩) gp1 (.string (f' 0).g)).setCell (p:=⟨p1,1,none⟩) gp1 (.int .i64 (f' 0).n);clear H10 z0 z1 x0 x1 lx;generalize World.setCell _ _ _ = wq at *;refine Qh HC ?_;refine Ql 4 rfl (by kernel_rfl) ?_;simp only [Qc,Qd,Qe];go_wp2;refine Qh HC ?_;refine Qr 6 rfl (by kernel_rfl) ?_;simp only [Qc,Qd,Qe];go_wp2;refine Qq ?_
         refine Qv (by kernel_rfl) ?_
         (obtain ⟨oo,hoo⟩ : ∃ x,x = off + 2:=⟨_,rfl⟩;obtain ⟨cc,hcc⟩ : ∃ x,x = ca' - 1:=⟨_,rfl⟩;rw [← hoo] at hA2;rw [← hoo,← hcc];exact Ja oo cc ⟨HC,H10',H11,hA2,by omega⟩ rfl)
       ·subst hc1;obtain rfl : n' = 0 := by omega
        refine Zb 7 [6] (fun x => Qb wo x) Qo rfl ?_;intro vz hvz;have HC:=h5.trans hvz;replace H10:=H10.ext hvz;replace H11:=H11.ext hvz;refine Qs (g:=3) [0,1,2,3] [_,_,_,_] ⟨rfl,rfl,rfl,rfl,trivial⟩ (by kernel_rfl) (by kernel_rfl) HC ?_;simp only [Qc,Qd,Qe];apply Exists.intro;refine ⟨fun u hu => ?_,?_⟩
        ·have a0':=((hE.trans hu).cell (p:=⟨b,off,none⟩) hb).trans a0;have a1':=((hE.trans hu).cell (p:=⟨b,off + 1,none⟩) hb).trans a1;have lb:=Nat.lt_of_lt_of_le hb (hE.trans hu).size;repeat (first | go_big_quiet_skip | (go_big_quiet_want;go_big_quiet_op;go_big_quiet_on))
         refine wpQuiet_nil ?_;rfl
        refine Zh 4 5 rfl rfl (by kernel_rfl) ?_ ?_
        ·simp only [Qc,Qd,Qe];go_wp2;refine Qh HC ?_;refine Ql 5 rfl (by kernel_rfl) ?_;simp only [Qc,Qd,Qe];have z0:=H10.frozen 0;have z1:=H10.frozen 1;obtain ⟨x0,x1⟩:=H10.c2;have lx:=H10.lt;go_wp2;have H10':=Qm H10 (.string (f' 0).g) (.int .i64 (f' 0).n);replace H11:=Qi (Qi H11 (Ne.symm ne) 0 (.string (f' 0).g)) (Ne.symm ne) 1 (.int .i64 (f' 0).n);replace HC:=(HC.setCell (p:=⟨p1,0,none⟩) gp1 (.string (f' 0).g)).setCell (p:=⟨p1,1,none⟩) gp1 (.int .i64 (f' 0).n);clear H10 z0 z1 x0 x1 lx;generalize World.setCell _ _ _ = wq at *;refine Qh HC ?_;refine Qr 6 rfl (by kernel_rfl) ?_;simp only [Qc,Qd,Qe];go_wp2;refine Qq ?_
         refine Qv (by kernel_rfl) ?_;exact Ja off 0 ⟨HC,H10',H11,Qp.nil,Nat.le_refl _⟩ rfl
        ·simp only [Qc,Qd,Qe];have z0:=H10.frozen 0;have z1:=H10.frozen 1;obtain ⟨x0,x1⟩:=H10.c2;have lx:=H10.lt;go_wp2;have H10':=Qm H10 (.string (f' 0).g) (.int .i64 (f' 0).n);replace H11:=Qi (Qi H11 (Ne.symm ne) 0 (.string (f' 0).g)) (Ne.symm ne) 1 (.int .i64 (f' 0).n);replace HC:=(HC.setCell (p:=⟨p1,0,none⟩) gp1 (.string (f' 0).g)).setCell (p:=⟨p1,1,none⟩) gp1 (.int .i64 (f' 0).n);clear H10 z0 z1 x0 x1 lx;generalize World.setCell _ _ _ = wq at *;refine Qh HC ?_;refine Ql 4 rfl (by kernel_rfl) ?_;simp only [Qc,Qd,Qe];go_wp2;refine Qh HC ?_;refine Qr 6 rfl (by kernel_rfl) ?_;simp only [Qc,Qd,Qe];go_wp2;refine Qq ?_
         refine Qv (by kernel_rfl) ?_;exact Ja off 0 ⟨HC,H10',H11,Qp.nil,Nat.le_refl _⟩ rfl
      rintro o2 c2 w6 ⟨h6,H10,H11,hA3,hc3⟩;have NP:=Mj sg hsg (f' 0) ⟨⟨#[]⟩,0⟩ (hf.out 0 (by omega)) (Gh) (b9 + 1) bs bo F k cap xs w6 (HS.ext h6) (HO.ext h6) (Jo hO h6) (by omega) (by have:=h6.size;omega);obtain ⟨x0,x1⟩:=H10.c2;have lx:=H10.lt;obtain ⟨y0,y1⟩:=H11.c2;have ly:=H11.lt;have hkl:=L4 sg ((f' 0),⟨⟨#[]⟩,0⟩);cases hr : Xw sg (f' 0) ⟨⟨#[]⟩,0⟩
      ·rw [hr] at NP;have hno:=Ll hall.out hr;clear hall hout hr;go_wp2_with (first | (go_at_call 113;(with_reducible refine Calls.mono (NP) ?_);rintro e w9 ⟨rfl,HP,HQ⟩) | (go_at_fn 113;(with_reducible refine Calls.mono (NP) ?_);rintro e w9 ⟨rfl,HP,HQ⟩));go_ret;exact ⟨Jd hno.symm,HP.ext W0 (hE.trans h6) hbo (by omega),fun h => by rw [hno] at h;cases h⟩
      ·rw [hr] at NP;have hyes:=Lib.hid (Lm hall.out hr);have hout2:=Lib.hid (Mg hout.out);clear hall hout hr;go_wp2_with (first | (go_at_call 113;(with_reducible refine Calls.mono (NP) ?_);rintro e w9 ⟨rfl,HP,HQ⟩) | (go_at_fn 113;(with_reducible refine Calls.mono (NP) ?_);rintro e w9 ⟨rfl,HP,HQ⟩));obtain ⟨F2,k2,cap2,HO2,hO2⟩:=HQ (by trivial);have hl2:=hO2.1;rw [List.length_append] at hl2;have hE9:=HP.ext W0 (hE.trans h6) hbo (by omega);exact ⟨⟨n',(m' + 1),q,(fun t => f' (t + 1)),g',some ⟨b,o2,none⟩,some ⟨d,doff,none⟩,c2,cb',rfl,rfl,by omega,by omega,by omega,hA3,hB,Lib.hid (fun i hi => hf.out (i + 1) (by omega)),hg,hE9,HP.held _ _ _ (H9.ext h6) (by omega) (by omega),HP.held _ _ _ (HS.ext h6) (Lx (HS.ext h6) (HO.ext h6) (by decide)) hbs9,(HP.held _ _ _ (H9.ext h6) (by omega) (by omega)).lt,hbs9,F2,k2,cap2,_,HO2,hO2,hO2.1,by omega,hout2,hyes⟩,by simp [lenOf] <;> omega⟩
theorem Rp {f : Nat → Lt} {n : Nat} (h : Jr f n = 0) : n ≤ 64 ∧ ∀ i,i < n → Ur (f i):=by
 unfold Jr at h;by_cases h64 : 64 < n
 ·rw [if_pos h64] at h;exact absurd h (by decide)
 ·rw [if_neg h64] at h;by_cases ho : Ob f n = true
  ·refine ⟨by omega,fun i hi => ?_⟩;have h1:=List.all_eq_true.1 ho i (by simpa using hi);unfold Wu at h1;simp only [Bool.and_eq_true,decide_eq_true_eq] at h1;exact ⟨h1.2.2.2,h1.2.2.1⟩
  ·rw [if_neg ho] at h;exact absurd h (by decide)
theorem two_ok {f g : Nat → Lt} {n m : Nat} (h : Kh f n g m = 0) : Jr f n = 0 ∧ Jr g m = 0:=by
 unfold Kh at h;by_cases h1 : Jr f n ≠ 0
 ·rw [if_pos h1] at h;exact absurd h h1
 ·rw [if_neg h1] at h;exact ⟨Decidable.not_not.1 h1,h⟩
theorem Ro : ∀ l : List Lt,(l.flatMap J1).length = l.length * 2
 | [] => rfl
 | x :: l => by rw [List.flatMap_cons,List.length_append,Ro l,List.length_cons];show 2 + _ = _;omega
theorem Fg {sg : Int} {f g : Nat → Lt} {n m : Nat} {e : Int} (h : Yw sg f n g m = e) (he : e ≠ 0) : Wp sg f n g m = []:=by unfold Wp;rw [h,if_neg he]
theorem P5 (T : Option Addr) (n cap : Nat) (f : Nat → Lt) (S : Option Addr) (m cm : Nat) (g : Nat → Lt) (sg : Int) (hsg : sg = 1 ∨ sg = -1) (w : World) (hT : Qp w T n 2 (Zc f)) (hcap : n ≤ cap) (hn : n ≤ 9223372036854775807) (hS : Qp w S m 2 (Zc g)) (hcm : m ≤ cm) (hm : m ≤ 9223372036854775807) :
  Calls Tryz.prog 63 #[.slice T n cap,.slice S m cm,.int .i64 sg] w fun e w' => ∃ F k c,e = .returned (.tuple #[.slice F k c,.int .i64 (Yw sg f n g m)]) ∧ Qb w w' ∧ w'.ownsRow w.heap.size 85 2 (.slice F k c) k ((Wp sg f n g m).flatMap J1):=by
 have N2:=Qce T n cap f S m cm g;have hsz : ∀ (E : Int),Yw sg f n g m = E → E ≠ 0 → Wp sg f n g m = []:=fun E h he => Fg h he
 go_enter Tryz.func63,Tryz.ntmps63
 go_upto_region 1 with (fail)
 obtain ⟨v,hv⟩:=Qg (w.alloc (.cells #[.int .i64 sg] 3));rw [← hv];have E : Qb w v:=by rw [hv];exact (Qb.refl _).alloc _
 have B1 : Qa v w.heap.size 3 #[.int .i64 sg]:=by rw [hv];exact (Qa.new _ _ _)
 clear hv;obtain ⟨b1,hb1⟩:=Qg (w.heap.size);rw [← hb1] at B1 ⊢;have hbr : w.heap.size ≤ b1:=by omega
 clear hb1;have T1:=hT.ext E;have S1:=hS.ext E;obtain ⟨q,hq⟩:=Qg (Kh f n g m);have NC:=N2 v T1 hcap hn S1 hcm hm;rw [← hq] at NC;clear N2;replace hq:=Lib.hid hq;by_cases e0 : q = 0;rotate_left
 ·have g0 : (q == 0) = false := beq_eq_false_iff_ne.2 e0;have g0n : (q != 0) = true := by rw [bne, g0]; rfl
  have hE2 : Hid (Yw sg f n g m = q):=by unfold Hid Yw;rw [if_pos (by rw [← hq.out];exact e0),hq.out]
  have hL2:=Lib.hid (hsz q hE2.out e0);clear hsz e0 hq;go_wp2_with (go_at_call 110;(with_reducible refine Calls.mono (NC) ?_);rintro e w1 ⟨rfl,h1⟩);have EE:=E.trans h1;go_ret2;exact ⟨none,0,0,by rw [hE2.out];rfl,EE,by rw [hL2.out];exact World.ownsRow_nil _ _ _ _⟩
 ·subst e0;obtain ⟨o1, o2⟩ := two_ok hq.out.symm;obtain ⟨n64, bf⟩ := Rp o1;obtain ⟨m64, bg⟩ := Rp o2;have hE2 : Hid (Yw sg f n g m = if Xb sg (Wv f n g m) then (if 64 < (Xr sg (Wv f n g m)).length then 3 else 0) else 6) := by unfold Hid Yw; rw [if_neg (by rw [← hq.out]; simp)]
  have hL3 : Hid (Yw sg f n g m = 0 → Wp sg f n g m = Xr sg (Wv f n g m)):=fun h => by unfold Wp;rw [if_pos h]
  clear o1 o2 hq;go_upto_region 5 with (go_at_call 110;(with_reducible refine Calls.mono (NC) ?_);rintro e w1 ⟨rfl,h1⟩)
  obtain ⟨v3,hv⟩:=Qg (w1.alloc (.cells #[.slice none 0 0] 52));rw [← hv];have h3 : Qb w1 v3:=by rw [hv];exact (Qb.refl _).alloc _
  have HO : Qa v3 w1.heap.size 52 #[.slice none 0 0]:=by rw [hv];exact Qa.new _ _ _
  have hbo : w.heap.size ≤ w1.heap.size:=(E.trans h1).size;clear hv;generalize w1.heap.size = bo at *;have HS:=(B1.ext h1).ext h3;have EE:=(E.trans h1).trans h3;have NM:=Qfp w T S n m cap cm f g sg hsg bf bg n64 m64 hcap hcm hT hS b1 bo v3 EE hbo HS HO;clear NC h1 h3 B1 T1 S1 hsz bf bg E;generalize Wv f n g m = M at *;cases ha : Xb sg M
  ·rw [ha] at NM;have hE3 : Hid (Yw sg f n g m = 6) := by unfold Hid; rw [hE2.out, ha]; rfl
   have hL2:=Lib.hid (Fg hE3.out (by decide));clear hE2 hL3 ha;go_wp2_with (go_at_call 111;(with_reducible refine Calls.mono (NM) ?_);rintro e w4 ⟨rfl,h4,_⟩);go_ret2;exact ⟨none,0,0,by rw [hE3.out];rfl,h4,by rw [hL2.out];exact World.ownsRow_nil _ _ _ _⟩
  ·rw [ha] at NM;rw [ha,if_pos rfl] at hE2;clear ha;go_upto_region 8 with (go_at_call 111;(with_reducible refine Calls.mono (NM) ?_);rintro e w4 ⟨rfl,h4,h5⟩)
   obtain ⟨F,k,c,HO4,hown⟩:=h5 (by trivial);clear h5 NM
   have hk : k = (Xr sg M).length:=by
    have:=hown.1;rw [Ro] at this;omega
   have x0:=HO4.c1;have lx:=HO4.lt;by_cases h64 : 64 < k
   ·have d1 : decide ((64 : Int) < (k : Int)) = true := decide_eq_true (by omega);have hE3 : Hid (Yw sg f n g m = 3) := by unfold Hid; rw [hE2.out, if_pos (by omega)]
    have hL2:=Lib.hid (Fg hE3.out (by decide));clear hE2 hL3 hk;go_wp2;go_ret2;exact ⟨none,0,0,by rw [hE3.out];rfl,h4,by rw [hL2.out];exact World.ownsRow_nil _ _ _ _⟩
   ·have d1 : decide ((64 : Int) < (k : Int)) = false := decide_eq_false (by omega);have hE3 : Hid (Yw sg f n g m = 0) := by unfold Hid; rw [hE2.out, if_neg (by omega)]
    have hL2:=Lib.hid (hL3.out hE3.out);clear hE2 hL3 hk;go_wp2;go_ret2;exact ⟨F,k,c,by rw [hE3.out];rfl,h4,by rw [hL2.out];exact hown⟩
theorem Qa9 (T : Option Addr) (n cap : Nat) (f : Nat → Lt) (S : Option Addr) (m cm : Nat) (g : Nat → Lt) (w : World) (hT : Qp w T n 2 (Zc f)) (hcap : n ≤ cap) (hn : n ≤ 9223372036854775807) (hS : Qp w S m 2 (Zc g)) (hcm : m ≤ cm) (hm : m ≤ 9223372036854775807) :
  Calls Tryz.prog 19 #[.slice T n cap,.slice S m cm] w fun e w' => ∃ F k c,e = .returned (.tuple #[.slice F k c,.int .i64 (Yw 1 f n g m)]) ∧ Qb w w' ∧ w'.ownsRow w.heap.size 85 2 (.slice F k c) k ((Wp 1 f n g m).flatMap J1):=by
 have NC:=P5 T n cap f S m cm g 1 (by decide) w hT hcap hn hS hcm hm;generalize Yw 1 f n g m = E at *;generalize Wp 1 f n g m = L at *
 go_enter Tryz.func19,Tryz.ntmps19
 go_wp2_with (go_at_call 63;(with_reducible refine Calls.mono (NC) ?_);rintro e w1 ⟨F,k,c,rfl,h1,ho⟩);go_ret2;exact ⟨F,k,c,rfl,h1,ho⟩
theorem Qic (T : Option Addr) (n cap : Nat) (f : Nat → Lt) (S : Option Addr) (m cm : Nat) (g : Nat → Lt) (w : World) (hT : Qp w T n 2 (Zc f)) (hcap : n ≤ cap) (hn : n ≤ 9223372036854775807) (hS : Qp w S m 2 (Zc g)) (hcm : m ≤ cm) (hm : m ≤ 9223372036854775807) :
  Calls Tryz.prog 108 #[.slice T n cap,.slice S m cm] w fun e w' => ∃ F k c,e = .returned (.tuple #[.slice F k c,.int .i64 (Yw (-1) f n g m)]) ∧ Qb w w' ∧ w'.ownsRow w.heap.size 85 2 (.slice F k c) k ((Wp (-1) f n g m).flatMap J1):=by
 have NC:=P5 T n cap f S m cm g (-1) (by decide) w hT hcap hn hS hcm hm;generalize Yw (-1) f n g m = E at *;generalize Wp (-1) f n g m = L at *
 go_enter Tryz.func108,Tryz.ntmps108
 go_wp2_with (go_at_call 63;(with_reducible refine Calls.mono (NC) ?_);rintro e w1 ⟨F,k,c,rfl,h1,ho⟩);go_ret2;exact ⟨F,k,c,rfl,h1,ho⟩
end
end Go.Proofs.YtoflcheopfppoaaGreatDoor

/- Walks and plain facts, packed; no conditions but those that each states. -/
import Derived.Test.YtoflcheopfppoaaGreatDoorK6
set_option maxRecDepth 100000
set_option maxHeartbeats 4000000
namespace Go.Proofs.YtoflcheopfppoaaGreatDoor
section
open Go Go.RowKit Go.Shelf
attribute [local go_sem] Z8
theorem Qn5 (g : Nat → Rt × Int) (n : Nat) (p1 : Nat) (w : World) (hg : ∀ i,i < n → ∀ u,Qc w u → Calls Tryz.prog 136 #[.int .i64 (i : Int),.pointer (some ⟨p1,0,none⟩)] u fun e u' => e = .returned (.tuple #[.agg #[.int .i64 (g i).1.n,.int .i64 (g i).1.d],.int .i64 (g i).2]) ∧ Qc u u') (hin : ∀ i,i < n → (g i).1.In) (hn : n ≤ 1000000) (hZ : Jc w) :
  Calls Tryz.prog 135 #[.int .i64 (n : Int),.func (.func 136) #[] #[.pointer (some ⟨p1,0,none⟩)]] w fun e w' => e = .returned (.tuple #[.agg #[.int .i64 (Uk g n).1.n,.int .i64 (Uk g n).1.d],.int .i64 (Uk g n).2]) ∧ Qc w w':=by
 obtain ⟨V,hV0⟩:=Qe (Uk g n);rw [← hV0];replace hV0:=zh hV0
 go_enter Tryz.func135,Tryz.ntmps135
 go_upto_region 1 with fail
 obtain ⟨v,b1,E,B1,hbr,hv,hb1⟩:=J4 w 65 #[.int .i64 0,.int .i64 0];rw [← hv,← hb1];clear hv hb1;have Z0:=hZ.ext E;go_upto_region 3 with (go_at_call 72;refine zc (Wv _ _) ?_;rintro e w1 ⟨rfl,h1⟩)
 obtain ⟨v1,hv⟩:=Qe (w1.alloc (.cells #[.int .i64 0,.int .i64 1] 65));rw [← hv];have HE : Qc v v1:=by rw [hv];exact h1.alloc _
 have H6 : Qb v1 w1.heap.size 65 #[.int .i64 0,.int .i64 1]:=by rw [hv];exact Qb.new _ _ _
 clear hv;obtain ⟨b6,hb6⟩:=Qe (w1.heap.size);rw [← hb6] at H6 ⊢;have g6 : v.heap.size ≤ b6:=by have:=h1.size;omega
 clear hb6 h1
 go_loopw [12] (fun iv wr => ∃ k : Nat,k ≤ n ∧ iv = .int .i64 (k : Int) ∧ ∃ s,Rt.In s ∧ Qc v wr ∧ Qb wr b6 65 #[.int .i64 s.n,.int .i64 s.d] ∧ Hid (V = W8 g k (n - k) s)) (fun iv _ => n - (intOf iv).toNat)
 case atStart => exact ⟨0,Nat.zero_le _,rfl,J8 0,Vk,HE,H6,hV0.out⟩
 case round =>
  clear HE H6 hV0;obtain ⟨k,hk,rfl,s,hs,HE,H6,hV⟩:=hrel;obtain ⟨wo,rfl⟩:=Qe wr;by_cases hlt : k < n
  ·obtain ⟨m,hm⟩ : ∃ m,n - k = m + 1:=⟨n - k - 1,Qa⟩;have hm2 : n - (k + 1) = m:=Qa
   have hV' : Hid (V = if (g k).2 ≠ 0 then (Zr,(g k).2) else if (Zs s (g k).1).2 ≠ 0 then (Zr,(Zs s (g k).1).2) else W8 g (k + 1) m (Zs s (g k).1).1):=by
    unfold Hid;rw [hV.out,hm];rfl
   have NG:=hg k hlt wo (E.trans HE);have hgi:=hin k hlt;clear hV hm hg hin;generalize g k = G at *;obtain ⟨⟨Gn,Gd⟩,Ge⟩:=G;simp only [] at hV' NG hgi;go_upto_region 6 with (first | (go_at_call 136;(with_reducible refine zc (NG) ?_);rintro e w8 ⟨rfl,h8⟩) | (go_at_fn 136;(with_reducible refine zc (NG) ?_);rintro e w8 ⟨rfl,h8⟩))
   obtain ⟨v2,hv⟩:=Qe (w8.alloc (.cells #[.int .i64 Gn,.int .i64 Gd] 65));rw [← hv];have E2 : Qc w8 v2:=by rw [hv];exact (Qc.refl _).alloc _
   have H8 : Qb v2 w8.heap.size 65 #[.int .i64 Gn,.int .i64 Gd]:=by rw [hv];exact Qb.new _ _ _
   clear hv;have hz:=h8.size;have h6l:=H6.lt;have hzv:=HE.size;obtain ⟨b8,hb8⟩:=Qe (w8.heap.size);rw [← hb8] at H8 ⊢;have n68 : b6 ≠ b8:=Qa;have g8 : v.heap.size ≤ b8:=Qa;clear hb8 hz h6l hzv;replace HE:=(HE.trans h8).trans E2;replace H6:=(H6.ext h8).ext E2;clear h8 E2 NG;by_cases h0 : Ge = 0
   ·subst h0;have NA:=fun w z => Nz s ⟨Gn,Gd⟩ hs hgi w z
    have hSi:=K8 s ⟨Gn,Gd⟩;generalize Zs s ⟨Gn,Gd⟩ = S at *;obtain ⟨⟨Sn,Sd⟩,Se⟩:=S;simp only [] at hV' NA hSi;obtain ⟨p0,p1,lp⟩:=Qb.d2 H6;obtain ⟨q0,q1,lq⟩:=Qb.d2 H8;go_upto_region 8 with (go_at_call 86;refine zc (NA _ (Z0.ext HE)) ?_;rintro e w9 ⟨rfl,h9⟩;replace HE:=HE.trans h9;replace H6:=H6.ext h9;replace H8:=H8.ext h9;clear q0 q1 lq p0 p1 lp;have f0:=H8.frozen 0;have f1:=H8.frozen 1;obtain ⟨x0,x1⟩:=H8.c2;have lx:=H8.lt)
    have H8b:=Qo H8 (.int .i64 Sn) (.int .i64 Sd);have H6b:=Qg (Qg H6 n68 0 (.int .i64 Sn)) n68 1 (.int .i64 Sd);have HEb:=(HE.setCell (p:=⟨b8,0,none⟩) g8 (.int .i64 Sn)).setCell (p:=⟨b8,1,none⟩) g8 (.int .i64 Sd);generalize World.setCell _ _ _ = v3 at *;clear f0 f1 x0 x1 lx H6 H8 HE;have HE:=HEb;have H6:=H6b;have H8:=H8b;clear HEb H6b H8b;by_cases h1 : Se = 0
    ·subst h1;obtain ⟨q0, q1, lq⟩ := Qb.d2 H8;obtain ⟨f0, f1, x0, x1, lx⟩ := Qb.e2 H6;have H6b := Qo H6 (.int .i64 Sn) (.int .i64 Sd);have HEb := (HE.setCell (p := ⟨b6, 0, none⟩) g6 (.int .i64 Sn)).setCell (p := ⟨b6, 1, none⟩) g6 (.int .i64 Sd);have hV2 : Hid (V = W8 g (k + 1) m ⟨Sn, Sd⟩) := by unfold Hid; rw [hV'.out, if_neg (by simp), if_neg (by simp)]
     rw [← hm2] at hV2;clear hV' hm2;go_wp2;exact ⟨⟨k + 1,Qa,by go_num,⟨Sn,Sd⟩,hSi,HEb,H6b,hV2⟩,zi⟩
    ·have g0 : (Se == 0) = false := zb h1;have g0n : (Se != 0) = true := by rw [bne, g0]; rfl
     have hr:=hV'.out;rw [if_neg (by simp),if_pos h1] at hr;subst hr;clear hV' h1;replace B1:=B1.ext HE;replace E:=E.trans HE;obtain ⟨f0,f1,x0,x1,lx⟩:=Qb.e2 B1;have H4:=Qo B1 (.int .i64 0) (.int .i64 0);have EF:=(E.setCell (p:=⟨b1,0,none⟩) hbr (.int .i64 0)).setCell (p:=⟨b1,1,none⟩) hbr (.int .i64 0);obtain ⟨y0,y1⟩:=H4.c2;go_wp2;refine bodyPost_ret (v:=.tuple #[.agg #[.int .i64 0,.int .i64 0],.int .i64 Se]) Zf rfl ⟨rfl,EF⟩
   ·have g0 : (Ge == 0) = false := zb h0;have g0n : (Ge != 0) = true := by rw [bne, g0]; rfl
    have hr:=hV'.out;rw [if_pos h0] at hr;subst hr;clear hV' h0;replace B1:=B1.ext HE;replace E:=E.trans HE;obtain ⟨f0,f1,x0,x1,lx⟩:=Qb.e2 B1;have H4:=Qo B1 (.int .i64 0) (.int .i64 0);have EF:=(E.setCell (p:=⟨b1,0,none⟩) hbr (.int .i64 0)).setCell (p:=⟨b1,1,none⟩) hbr (.int .i64 0);obtain ⟨y0,y1⟩:=H4.c2;go_wp2;refine bodyPost_ret (v:=.tuple #[.agg #[.int .i64 0,.int .i64 0],.int .i64 Ge]) Zf rfl ⟨rfl,EF⟩
  ·obtain rfl : k = n:=Qa;have hr:=hV.out;rw [Nat.sub_self] at hr;have hr2 : V = (s,0):=hr;subst hr2;clear hV hr;obtain ⟨p0,p1,lp⟩:=Qb.d2 H6;replace B1:=B1.ext HE;replace E:=E.trans HE;obtain ⟨f0,f1,x0,x1,lx⟩:=Qb.e2 B1;have H4:=Qo B1 (.int .i64 s.n) (.int .i64 s.d);have EF:=(E.setCell (p:=⟨b1,0,none⟩) hbr (.int .i64 s.n)).setCell (p:=⟨b1,1,none⟩) hbr (.int .i64 s.d);obtain ⟨y0,y1⟩:=H4.c2;go_wp2;refine bodyPost_ret (v:=.tuple #[.agg #[.int .i64 s.n,.int .i64 s.d],.int .i64 0]) Zf rfl ⟨rfl,EF⟩
theorem Qn4 (g : Nat → Rt × Int) (n : Nat) (p1 p2 : Nat) (w : World) (hg : ∀ i,i < n → ∀ u,Qc w u → Calls Tryz.prog 138 #[.int .i64 (i : Int),.pointer (some ⟨p1,0,none⟩),.pointer (some ⟨p2,0,none⟩)] u fun e u' => e = .returned (.tuple #[.agg #[.int .i64 (g i).1.n,.int .i64 (g i).1.d],.int .i64 (g i).2]) ∧ Qc u u') (hin : ∀ i,i < n → (g i).1.In) (hn : n ≤ 1000000) (hZ : Jc w) :
  Calls Tryz.prog 135 #[.int .i64 (n : Int),.func (.func 138) #[] #[.pointer (some ⟨p1,0,none⟩),.pointer (some ⟨p2,0,none⟩)]] w fun e w' => e = .returned (.tuple #[.agg #[.int .i64 (Uk g n).1.n,.int .i64 (Uk g n).1.d],.int .i64 (Uk g n).2]) ∧ Qc w w':=by
 obtain ⟨V,hV0⟩:=Qe (Uk g n);rw [← hV0];replace hV0:=zh hV0
 go_enter Tryz.func135,Tryz.ntmps135
 go_upto_region 1 with fail
 obtain ⟨v,b1,E,B1,hbr,hv,hb1⟩:=J4 w 65 #[.int .i64 0,.int .i64 0];rw [← hv,← hb1];clear hv hb1;have Z0:=hZ.ext E;go_upto_region 3 with (go_at_call 72;refine zc (Wv _ _) ?_;rintro e w1 ⟨rfl,h1⟩)
 obtain ⟨v1,hv⟩:=Qe (w1.alloc (.cells #[.int .i64 0,.int .i64 1] 65));rw [← hv];have HE : Qc v v1:=by rw [hv];exact h1.alloc _
 have H6 : Qb v1 w1.heap.size 65 #[.int .i64 0,.int .i64 1]:=by rw [hv];exact Qb.new _ _ _
 clear hv;obtain ⟨b6,hb6⟩:=Qe (w1.heap.size);rw [← hb6] at H6 ⊢;have g6 : v.heap.size ≤ b6:=by have:=h1.size;omega
 clear hb6 h1
 go_loopw [12] (fun iv wr => ∃ k : Nat,k ≤ n ∧ iv = .int .i64 (k : Int) ∧ ∃ s,Rt.In s ∧ Qc v wr ∧ Qb wr b6 65 #[.int .i64 s.n,.int .i64 s.d] ∧ Hid (V = W8 g k (n - k) s)) (fun iv _ => n - (intOf iv).toNat)
 case atStart => exact ⟨0,Nat.zero_le _,rfl,J8 0,Vk,HE,H6,hV0.out⟩
 case round =>
  clear HE H6 hV0;obtain ⟨k,hk,rfl,s,hs,HE,H6,hV⟩:=hrel;obtain ⟨wo,rfl⟩:=Qe wr;by_cases hlt : k < n
  ·obtain ⟨m,hm⟩ : ∃ m,n - k = m + 1:=⟨n - k - 1,Qa⟩;have hm2 : n - (k + 1) = m:=Qa
   have hV' : Hid (V = if (g k).2 ≠ 0 then (Zr,(g k).2) else if (Zs s (g k).1).2 ≠ 0 then (Zr,(Zs s (g k).1).2) else W8 g (k + 1) m (Zs s (g k).1).1):=by
    unfold Hid;rw [hV.out,hm];rfl
   have NG:=hg k hlt wo (E.trans HE);have hgi:=hin k hlt;clear hV hm hg hin;generalize g k = G at *;obtain ⟨⟨Gn,Gd⟩,Ge⟩:=G;simp only [] at hV' NG hgi;go_upto_region 6 with (first | (go_at_call 138;(with_reducible refine zc (NG) ?_);rintro e w8 ⟨rfl,h8⟩) | (go_at_fn 138;(with_reducible refine zc (NG) ?_);rintro e w8 ⟨rfl,h8⟩))
   obtain ⟨v2,hv⟩:=Qe (w8.alloc (.cells #[.int .i64 Gn,.int .i64 Gd] 65));rw [← hv];have E2 : Qc w8 v2:=by rw [hv];exact (Qc.refl _).alloc _
   have H8 : Qb v2 w8.heap.size 65 #[.int .i64 Gn,.int .i64 Gd]:=by rw [hv];exact Qb.new _ _ _
   clear hv;have hz:=h8.size;have h6l:=H6.lt;have hzv:=HE.size;obtain ⟨b8,hb8⟩:=Qe (w8.heap.size);rw [← hb8] at H8 ⊢;have n68 : b6 ≠ b8:=Qa;have g8 : v.heap.size ≤ b8:=Qa;clear hb8 hz h6l hzv;replace HE:=(HE.trans h8).trans E2;replace H6:=(H6.ext h8).ext E2;clear h8 E2 NG;by_cases h0 : Ge = 0
   ·subst h0;have NA:=fun w z => Nz s ⟨Gn,Gd⟩ hs hgi w z
    have hSi:=K8 s ⟨Gn,Gd⟩;generalize Zs s ⟨Gn,Gd⟩ = S at *;obtain ⟨⟨Sn,Sd⟩,Se⟩:=S;simp only [] at hV' NA hSi;obtain ⟨p0,p1,lp⟩:=Qb.d2 H6;obtain ⟨q0,q1,lq⟩:=Qb.d2 H8;go_upto_region 8 with (go_at_call 86;refine zc (NA _ (Z0.ext HE)) ?_;rintro e w9 ⟨rfl,h9⟩;replace HE:=HE.trans h9;replace H6:=H6.ext h9;replace H8:=H8.ext h9;clear q0 q1 lq p0 p1 lp;have f0:=H8.frozen 0;have f1:=H8.frozen 1;obtain ⟨x0,x1⟩:=H8.c2;have lx:=H8.lt)
    have H8b:=Qo H8 (.int .i64 Sn) (.int .i64 Sd);have H6b:=Qg (Qg H6 n68 0 (.int .i64 Sn)) n68 1 (.int .i64 Sd);have HEb:=(HE.setCell (p:=⟨b8,0,none⟩) g8 (.int .i64 Sn)).setCell (p:=⟨b8,1,none⟩) g8 (.int .i64 Sd);generalize World.setCell _ _ _ = v3 at *;clear f0 f1 x0 x1 lx H6 H8 HE;have HE:=HEb;have H6:=H6b;have H8:=H8b;clear HEb H6b H8b;by_cases h1 : Se = 0
    ·subst h1;obtain ⟨q0, q1, lq⟩ := Qb.d2 H8;obtain ⟨f0, f1, x0, x1, lx⟩ := Qb.e2 H6;have H6b := Qo H6 (.int .i64 Sn) (.int .i64 Sd);have HEb := (HE.setCell (p := ⟨b6, 0, none⟩) g6 (.int .i64 Sn)).setCell (p := ⟨b6, 1, none⟩) g6 (.int .i64 Sd);have hV2 : Hid (V = W8 g (k + 1) m ⟨Sn, Sd⟩) := by unfold Hid; rw [hV'.out, if_neg (by simp), if_neg (by simp)]
     rw [← hm2] at hV2;clear hV' hm2;go_wp2;exact ⟨⟨k + 1,Qa,by go_num,⟨Sn,Sd⟩,hSi,HEb,H6b,hV2⟩,zi⟩
    ·have g0 : (Se == 0) = false := zb h1;have g0n : (Se != 0) = true := by rw [bne, g0]; rfl
     have hr:=hV'.out;rw [if_neg (by simp),if_pos h1] at hr;subst hr;clear hV' h1;replace B1:=B1.ext HE;replace E:=E.trans HE;obtain ⟨f0,f1,x0,x1,lx⟩:=Qb.e2 B1;have H4:=Qo B1 (.int .i64 0) (.int .i64 0);have EF:=(E.setCell (p:=⟨b1,0,none⟩) hbr (.int .i64 0)).setCell (p:=⟨b1,1,none⟩) hbr (.int .i64 0);obtain ⟨y0,y1⟩:=H4.c2;go_wp2;refine bodyPost_ret (v:=.tuple #[.agg #[.int .i64 0,.int .i64 0],.int .i64 Se]) Zf rfl ⟨rfl,EF⟩
   ·have g0 : (Ge == 0) = false := zb h0;have g0n : (Ge != 0) = true := by rw [bne, g0]; rfl
    have hr:=hV'.out;rw [if_pos h0] at hr;subst hr;clear hV' h0;replace B1:=B1.ext HE;replace E:=E.trans HE;obtain ⟨f0,f1,x0,x1,lx⟩:=Qb.e2 B1;have H4:=Qo B1 (.int .i64 0) (.int .i64 0);have EF:=(E.setCell (p:=⟨b1,0,none⟩) hbr (.int .i64 0)).setCell (p:=⟨b1,1,none⟩) hbr (.int .i64 0);obtain ⟨y0,y1⟩:=H4.c2;go_wp2;refine bodyPost_ret (v:=.tuple #[.agg #[.int .i64 0,.int .i64 0],.int .i64 Ge]) Zf rfl ⟨rfl,EF⟩
  ·obtain rfl : k = n:=Qa;have hr:=hV.out;rw [Nat.sub_self] at hr;have hr2 : V = (s,0):=hr;subst hr2;clear hV hr;obtain ⟨p0,p1,lp⟩:=Qb.d2 H6;replace B1:=B1.ext HE;replace E:=E.trans HE;obtain ⟨f0,f1,x0,x1,lx⟩:=Qb.e2 B1;have H4:=Qo B1 (.int .i64 s.n) (.int .i64 s.d);have EF:=(E.setCell (p:=⟨b1,0,none⟩) hbr (.int .i64 s.n)).setCell (p:=⟨b1,1,none⟩) hbr (.int .i64 s.d);obtain ⟨y0,y1⟩:=H4.c2;go_wp2;refine bodyPost_ret (v:=.tuple #[.agg #[.int .i64 s.n,.int .i64 s.d],.int .i64 0]) Zf rfl ⟨rfl,EF⟩
def Xa (f : Nat → Tk) (i : Nat) : List Value:=[.int .i64 (f i).a.n,.int .i64 (f i).a.d,.int .i64 (f i).r.n,.int .i64 (f i).r.d]
theorem Qho (a b : Rt) : (Yn a b).1.In:=by
 unfold Yn;by_cases h : a.ok && b.ok
 ·rw [if_pos h];obtain ⟨h1,h2⟩:=Bool.and_eq_true_iff.1 h;by_cases h0 : b.n = 0
  ·rw [if_pos h0];exact Xw
  ·rw [if_neg h0];exact Ru (Nat.mul_pos (by have:=Yl h1;omega) Qa)
 ·rw [if_neg h];exact Xw
theorem Qld (T : OA) (n cap : Nat) (f : Nat → Tk) (p1 i : Nat) (hi : i < n) (ha : (f i).a.In) (hr : (f i).r.In) (w : World) (hB : Qb w p1 109 #[.slice T n cap]) (hT : Qm w T n 4 (Xa f)) (hn : n ≤ 1000000) (hZ : Jc w) :
  Calls Tryz.prog 136 #[.int .i64 (i : Int),.pointer (some ⟨p1,0,none⟩)] w fun e w' => e = .returned (.tuple #[.agg #[.int .i64 (Yn (f i).a (f i).r).1.n,.int .i64 (Yn (f i).a (f i).r).1.d],.int .i64 (Yn (f i).a (f i).r).2]) ∧ Qc w w':=by
 have ND:=fun w z => Qhn (f i).a (f i).r ha hr w z
 generalize Yn (f i).a (f i).r = R at *;obtain ⟨⟨Rn,Rd⟩,Re⟩:=R;obtain ⟨b,off,rfl,_,_⟩:=hT Qa
 go_enter Tryz.func136,Tryz.ntmps136
 go_upto_region 1 with fail
 obtain ⟨v,b1,E,B1,hbr,hv,hb1⟩:=J4 w 65 #[.int .i64 0,.int .i64 0];rw [← hv,← hb1];clear hv hb1;have Z0:=hZ.ext E;have HB:=hB.ext E;have RT:=hT.ext E;clear hB hT hZ;refine Zc 15 [13,14] (fun x => Qc v x) mixed rfl ?_;intro vz hvz;have HC:=hvz;refine Qs (g:=5) [0,1,2,3,4,5,6,7,8,9] HC ?_
 constructor
 refine ⟨fun u hu => ?_,?_⟩
 ·have k0 := (HB.ext hu).c1;have lk := (HB.ext hu).lt;obtain ⟨b', off', hTe, hb, hc⟩ := (RT.ext hu) Qa;obtain ⟨rfl, rfl⟩ : b = b' ∧ off = off' := by simpa using hTe
  have c0 : u.cell? ⟨b,off + i * 4,none⟩ = some (.int .i64 (f i).a.n):=by simpa [Xa] using hc i 0 _ hi rfl
  have c1 : u.cell? ⟨b,off + i * 4 + 1,none⟩ = some (.int .i64 (f i).a.d):=by simpa [Xa] using hc i 1 _ hi rfl
  have c2 : u.cell? ⟨b,off + i * 4 + 2,none⟩ = some (.int .i64 (f i).r.n):=by simpa [Xa] using hc i 2 _ hi rfl
  have c3 : u.cell? ⟨b,off + i * 4 + 3,none⟩ = some (.int .i64 (f i).r.d):=by simpa [Xa] using hc i 3 _ hi rfl
  clear hc;exact Qk
 refine Qj 10 ?_;go_wp2_with (go_at_call 137;refine zc (ND _ (Z0.ext HC)) ?_;rintro e wa ⟨rfl,h4⟩);replace HC:=HC.trans h4;clear h4;refine Qf HC ?_;refine Qs (g:=2) [11,12] HC ?_
 constructor
 refine ⟨fun u hu => ?_,?_⟩
 ·have k0 := (HB.ext hu).c1;have lk := (HB.ext hu).lt;obtain ⟨b', off', hTe, hb, hc⟩ := (RT.ext hu) Qa;obtain ⟨rfl, rfl⟩ : b = b' ∧ off = off' := by simpa using hTe
  have c0 : u.cell? ⟨b,off + i * 4,none⟩ = some (.int .i64 (f i).a.n):=by simpa [Xa] using hc i 0 _ hi rfl
  have c1 : u.cell? ⟨b,off + i * 4 + 1,none⟩ = some (.int .i64 (f i).a.d):=by simpa [Xa] using hc i 1 _ hi rfl
  have c2 : u.cell? ⟨b,off + i * 4 + 2,none⟩ = some (.int .i64 (f i).r.n):=by simpa [Xa] using hc i 2 _ hi rfl
  have c3 : u.cell? ⟨b,off + i * 4 + 3,none⟩ = some (.int .i64 (f i).r.d):=by simpa [Xa] using hc i 3 _ hi rfl
  clear hc;exact Qk
 refine Qr 13 ?_;replace B1:=B1.ext HC;replace E:=E.trans HC;obtain ⟨f0,f1,x0,x1,lx⟩:=Qb.e2 B1;have H4:=Qo B1 (.int .i64 Rn) (.int .i64 Rd);have EF:=(E.setCell (p:=⟨b1,0,none⟩) hbr (.int .i64 Rn)).setCell (p:=⟨b1,1,none⟩) hbr (.int .i64 Rd);obtain ⟨y0,y1⟩:=H4.c2;go_wp2;refine Qq ?_;refine Qr 14 ?_;go_wp2;refine Qq ?_;refine Qx ?_;go_wp2;refine bodyPost_ret (v:=.tuple #[.agg #[.int .i64 Rn,.int .i64 Rd],.int .i64 Re]) Zf rfl ⟨rfl,EF⟩
theorem Qb5 (T : OA) (n cap : Nat) (f : Nat → Tk) (w : World) (hin : ∀ i,i < n → (f i).a.In ∧ (f i).r.In) (hT : Qm w T n 4 (Xa f)) (hn : n ≤ 9223372036854775807) (hZ : Jc w) :
  Calls Tryz.prog 87 #[.slice T n cap] w fun e w' => e = .returned (.tuple #[.agg #[.int .i64 (Jr f n).1.n,.int .i64 (Jr f n).1.d],.int .i64 (Jr f n).2]) ∧ Qc w w':=by
 obtain ⟨R,hR0⟩:=Qe (Jr f n);rw [← hR0];have HR:=zh hR0;clear hR0
 go_enter Tryz.func87,Tryz.ntmps87
 go_upto_region 1 with fail
 obtain ⟨v,b1,b2,E,B1,B2,hbr1,hbr,hn21,hv,hb1,hb2⟩:=Jy w 109 #[.slice T n cap] 65 #[.int .i64 0,.int .i64 0];rw [← hv,← hb2,← hb1];clear hv hb1 hb2;have RT:=hT.ext E;have Z0:=hZ.ext E;clear hT hZ;have k0:=B1.c1;have lk:=B1.lt;by_cases h64 : 64 < n
 ·have g1 : decide ((64 : Int) < (n : Int)) = true:=zt Qa;have hr:=HR.out;rw [show Jr f n = (Zr,3) by unfold Jr;rw [if_pos h64]] at hr;subst hr;clear HR;clear h64;obtain ⟨f0,f1,x0,x1,lx⟩:=Qb.e2 B2;have H4:=Qo B2 (.int .i64 0) (.int .i64 0);have EF:=(E.setCell (p:=⟨b2,0,none⟩) hbr (.int .i64 0)).setCell (p:=⟨b2,1,none⟩) hbr (.int .i64 0);obtain ⟨y0,y1⟩:=H4.c2;go_wp2;refine bodyPost_ret (v:=.tuple #[.agg #[.int .i64 0,.int .i64 0],.int .i64 3]) Zf rfl ⟨rfl,EF⟩
 ·have g1 : decide ((64 : Int) < (n : Int)) = false:=zf Qa;go_upto_region 4 with fail
  clear k0 lk
  go_loopw [12] (fun i wr => ∃ k : Nat,k ≤ n ∧ i = .int .i64 k ∧ Hid (∀ j,j < k → Kz (f j) = true) ∧ Qc v wr) (fun i _ => n - (intOf i).toNat)
  case atStart => exact ⟨0,Nat.zero_le _,rfl,(fun j h => absurd h Qa),Qc.refl _⟩
  case round =>
   obtain ⟨k,hk,rfl,hall,hE⟩:=hrel;obtain ⟨wo,rfl⟩:=Qe wr;by_cases hlt : k < n
   ·obtain ⟨b, off, rfl, hb, hc⟩ := (RT.ext hE) Qa;have c0 : wo.cell? ⟨b, off + k * 4, none⟩ = some (.int .i64 (f k).a.n) := by simpa [Xa] using hc k 0 _ hlt rfl
    have c1 : wo.cell? ⟨b,off + k * 4 + 1,none⟩ = some (.int .i64 (f k).a.d):=by simpa [Xa] using hc k 1 _ hlt rfl
    have c2 : wo.cell? ⟨b,off + k * 4 + 2,none⟩ = some (.int .i64 (f k).r.n):=by simpa [Xa] using hc k 2 _ hlt rfl
    have c3 : wo.cell? ⟨b,off + k * 4 + 3,none⟩ = some (.int .i64 (f k).r.d):=by simpa [Xa] using hc k 3 _ hlt rfl
    obtain ⟨ia,ir⟩:=hin k hlt;have NN:=fun w b h => Rb (some ⟨b,0,none⟩) 1 1 (fun _ => (f k).a) w h zD (fun i hi => ia)
    rw [Dc] at NN;have NP:=fun w => Rr (f k).r ir w
    have hno : Hid (Kz (f k) = false → R = (Zr,81)):=fun h => by
     rw [HR.out];unfold Jr;rw [if_neg h64,if_neg (by rw [Bool.not_eq_true];exact List.all_eq_false.2 ⟨k,by simpa using hlt,by simp [h]⟩)]
    have hyes : Hid (Kz (f k) = true → ∀ j,j < k + 1 → Kz (f j) = true):=fun h j hj => by
     by_cases e : j = k
     ·subst e;exact h
     ·exact hall.out j Qa
    have htk : Hid (Kz (f k) = ((f k).a.nn && (f k).r.pos)):=rfl;clear hc hin RT hall HR h64;go_upto_region 6 with fail
    obtain ⟨v3,hv⟩:=Qe (wo.alloc (.cells #[.int .i64 (f k).a.n,.int .i64 (f k).a.d,.int .i64 (f k).r.n,.int .i64 (f k).r.d] 108));rw [← hv];have E3 : Qc wo v3:=by rw [hv];exact (Qc.refl _).alloc _
    have H3 : Qb v3 wo.heap.size 108 #[.int .i64 (f k).a.n,.int .i64 (f k).a.d,.int .i64 (f k).r.n,.int .i64 (f k).r.d]:=by rw [hv];exact Qb.new _ _ _
    clear hv c0 c1 c2 c3;replace hE:=hE.trans E3;generalize wo.heap.size = b3 at *;clear E3;obtain ⟨q0,q1,q2,q3,lq⟩:=Qb.d4 H3;generalize (f k).a.nn = nn at *;generalize (f k).r.pos = pp at *;cases nn
    ·have hr:=hno.out (by rw [htk.out];rfl);subst hr;clear hno hyes htk;go_upto_region 7 with (go_at_call 70;refine zc (NN _ _ (V7 (Qb.new _ _ _))) ?_;rintro e w2 ⟨rfl,h2⟩;clear q0 q1 q2 q3 lq;obtain ⟨q0,q1,q2,q3⟩:=((H3.alloc (.cells #[.int .i64 (f k).a.n,.int .i64 (f k).a.d] 65)).ext h2).c4;have lq:=((H3.alloc (.cells #[.int .i64 (f k).a.n,.int .i64 (f k).a.d] 65)).ext h2).lt)
     replace E:=((E.trans hE).alloc _).trans h2;replace B2:=((B2.ext hE).alloc _).ext h2;obtain ⟨f0,f1,x0,x1,lx⟩:=Qb.e2 B2;have H4:=Qo B2 (.int .i64 0) (.int .i64 0);have EF:=(E.setCell (p:=⟨b2,0,none⟩) hbr (.int .i64 0)).setCell (p:=⟨b2,1,none⟩) hbr (.int .i64 0);obtain ⟨y0,y1⟩:=H4.c2;go_wp2;refine bodyPost_ret (v:=.tuple #[.agg #[.int .i64 0,.int .i64 0],.int .i64 81]) Zf rfl ⟨rfl,EF⟩
    ·cases pp
     ·have hr:=hno.out (by rw [htk.out];rfl);subst hr;clear hno hyes htk;go_upto_region 7 with (first | (go_at_call 70;refine zc (NN _ _ (V7 (Qb.new _ _ _))) ?_;rintro e w2 ⟨rfl,h2⟩;clear q0 q1 q2 q3 lq;obtain ⟨q0,q1,q2,q3⟩:=((H3.alloc (.cells #[.int .i64 (f k).a.n,.int .i64 (f k).a.d] 65)).ext h2).c4;have lq:=((H3.alloc (.cells #[.int .i64 (f k).a.n,.int .i64 (f k).a.d] 65)).ext h2).lt) | (go_at_call 67;refine zc (NP _) ?_;rintro e w3 ⟨rfl,h3⟩))
      replace E:=(((E.trans hE).alloc _).trans h2).trans h3;replace B2:=(((B2.ext hE).alloc _).ext h2).ext h3;obtain ⟨f0,f1,x0,x1,lx⟩:=Qb.e2 B2;have H4:=Qo B2 (.int .i64 0) (.int .i64 0);have EF:=(E.setCell (p:=⟨b2,0,none⟩) hbr (.int .i64 0)).setCell (p:=⟨b2,1,none⟩) hbr (.int .i64 0);obtain ⟨y0,y1⟩:=H4.c2;go_wp2;refine bodyPost_ret (v:=.tuple #[.agg #[.int .i64 0,.int .i64 0],.int .i64 81]) Zf rfl ⟨rfl,EF⟩
     ·have hx:=zh (hyes.out (by rw [htk.out];rfl));clear hno hyes htk;go_wp2_with (first | (go_at_call 70;refine zc (NN _ _ (V7 (Qb.new _ _ _))) ?_;rintro e w2 ⟨rfl,h2⟩;clear q0 q1 q2 q3 lq;obtain ⟨q0,q1,q2,q3⟩:=((H3.alloc (.cells #[.int .i64 (f k).a.n,.int .i64 (f k).a.d] 65)).ext h2).c4;have lq:=((H3.alloc (.cells #[.int .i64 (f k).a.n,.int .i64 (f k).a.d] 65)).ext h2).lt) | (go_at_call 67;refine zc (NP _) ?_;rintro e w3 ⟨rfl,h3⟩));exact ⟨⟨k + 1,Qa,by go_num,hx,(((hE.alloc _).trans h2).trans h3)⟩,zi⟩
   ·obtain rfl : k = n := Qa;have B1e := B1.ext hE;have RTe := RT.ext hE;have Ze := Z0.ext hE;have NT := Qn5 (fun i => Yn (f i).a (f i).r) k b1 wo (fun i hi u hu => Qld T k cap f b1 i hi (hin i hi).1 (hin i hi).2 u (B1e.ext hu) (RTe.ext hu) Qa (Ze.ext hu)) (fun i hi => Qho _ _) Qa Ze;rw [show Uk (fun i => Yn (f i).a (f i).r) k = R from by rw [HR.out]; unfold Jr; rw [if_neg h64, if_pos (List.all_eq_true.2 fun j hj => hall.out j (by simpa using hj))]] at NT;clear HR hall hin h64 RT;replace E := E.trans hE;replace B2 := B2.ext hE;have k0 := B1e.c1;have lk := B1e.lt;clear hE;obtain ⟨⟨Rn, Rd⟩, Re⟩ := R;go_wp2_with (first | (go_at_call 135; refine zc (NT) ?_; rintro e wt ⟨rfl, ht⟩; replace E := E.trans ht; replace B2 := B2.ext ht; have f0 := B2.frozen 0; have f1 := B2.frozen 1; obtain ⟨x0, x1⟩ := B2.c2; have lx := B2.lt))
    have H4:=Qo B2 (.int .i64 Rn) (.int .i64 Rd);have EF:=(E.setCell (p:=⟨b2,0,none⟩) hbr (.int .i64 Rn)).setCell (p:=⟨b2,1,none⟩) hbr (.int .i64 Rd);obtain ⟨y0,y1⟩:=H4.c2;go_wp2;refine bodyPost_ret (v:=.tuple #[.agg #[.int .i64 Rn,.int .i64 Rd],.int .i64 Re]) Zf rfl ⟨rfl,EF⟩
section
variable {W : World} {b : Nat} {t : TypeId} {v0 v1 v2 v3 v4 v5 v6 v7 v8 v9 v10 : Value}
theorem Qb.c11 (h : Qb W b t #[v0,v1,v2,v3,v4,v5,v6,v7,v8,v9,v10]) : W.cell? ⟨b,0,none⟩ = some v0 ∧ W.cell? ⟨b,1,none⟩ = some v1 ∧ W.cell? ⟨b,2,none⟩ = some v2 ∧ W.cell? ⟨b,3,none⟩ = some v3 ∧ W.cell? ⟨b,4,none⟩ = some v4 ∧ W.cell? ⟨b,5,none⟩ = some v5 ∧ W.cell? ⟨b,6,none⟩ = some v6 ∧ W.cell? ⟨b,7,none⟩ = some v7 ∧ W.cell? ⟨b,8,none⟩ = some v8 ∧ W.cell? ⟨b,9,none⟩ = some v9 ∧ W.cell? ⟨b,10,none⟩ = some v10:=⟨h.cell 0,h.cell 1,h.cell 2,h.cell 3,h.cell 4,h.cell 5,h.cell 6,h.cell 7,h.cell 8,h.cell 9,h.cell 10⟩
end
def Zz (f : Nat → Cw) (i : Nat) : List Value:=[.int .i64 (f i).w,.int .i64 (f i).s.n,.int .i64 (f i).s.d,.int .i64 (f i).f.y,.int .i64 (f i).f.m,.bool (f i).f.s,.int .i64 (f i).f.d,.int .i64 (f i).t.y,.int .i64 (f i).t.m,.bool (f i).t.s,.int .i64 (f i).t.d]
theorem Qdt (c : Qd) (a b : Dt) : -1000000 ≤ c.schV a b ∧ c.schV a b ≤ 1000000:=by
 by_cases h : c.in2E a b = 0
 ·have hv : c.valid = true:=by
   rcases Lm c a b with ⟨_,hE⟩ | ⟨hv,_,_⟩ | ⟨hv,_,_⟩
   ·rw [hE] at h;exact absurd h zD
   ·exact hv
   ·exact hv
  have hh : (c.has a && c.has b) = true:=by
   rcases Lm c a b with ⟨_,hE⟩ | ⟨_,_,hE⟩ | ⟨_,hh,_⟩
   ·rw [hE] at h;exact absurd h zD
   ·rw [hE] at h;exact absurd h zD
   ·exact hh
  obtain ⟨h1,h2⟩:=Bool.and_eq_true_iff.1 hh;rw [R9 hv h1 h2];have:=Ks hv h1;have:=Ks hv h2;omega
 ·unfold Qd.schV;rw [if_neg h];exact ⟨by decide,by decide⟩
theorem Qh5 {c : Qd} {x : Cw} (hs : x.s.In) (h1 : -9223372036854775808 ≤ x.w) (h2 : x.w ≤ 9223372036854775807) (h3 : -1000000 ≤ c.schV x.f x.t ∧ c.schV x.f x.t ≤ 1000000) : ∀ i,i < 3 → (Uv c x i).In:=fun i hi => by
 have h4 : i = 0 ∨ i = 1 ∨ i = 2:=Qa;rcases h4 with rfl | rfl | rfl
 ·show (J8 x.w).In
  unfold Rt.In J8;simp only;omega
 ·exact hs
 ·show (J8 (c.schV x.f x.t + 1)).In
  unfold Rt.In J8;simp only;omega
theorem rows3 {w : World} {b : Nat} {t : TypeId} {c : Qd} {x : Cw} (h : Qb w b t #[.int .i64 x.w,.int .i64 1,.int .i64 x.s.n,.int .i64 x.s.d,.int .i64 (c.schV x.f x.t + 1),.int .i64 1]) : Qm w (some ⟨b,0,none⟩) 3 2 (Xx (Uv c x)):=Lu (f:=Xx (Uv c x)) (n:=3) (fun _ => rfl) h
theorem Qmt (f : Nat → Rt) (n : Nat) : (Y8 f n).1.In:=by
 unfold Y8
 split
 ·exact Xw
 ·split
  ·rename_i h
   exact Ru (Nr n fun i hi => by have:=Yl (List.all_eq_true.1 h i (by simpa using hi));omega)
  ·exact Xw
theorem Qfr (A A' : OA) (ca cb : Nat) (c : Qd) (T : OA) (n cap : Nat) (f : Nat → Cw) (p1 p2 i : Nat) (hi : i < n) (hs : (f i).s.In) (hw1 : -9223372036854775808 ≤ (f i).w) (hw2 : (f i).w ≤ 9223372036854775807) (w : World) (hC : Za w A ca A' cb c) (hB : Qb w p1 113 #[.slice T n cap]) (hK : Qb w p2 130 #[.slice A c.nk ca,.slice A' c.ny cb]) (hT : Qm w T n 11 (Zz f)) (hn : n ≤ 1000000) (hZ : Jc w) :
  Calls Tryz.prog 138 #[.int .i64 (i : Int),.pointer (some ⟨p1,0,none⟩),.pointer (some ⟨p2,0,none⟩)] w fun e w' => e = .returned (.tuple #[.agg #[.int .i64 (Y8 (Uv c (f i)) 3).1.n,.int .i64 (Y8 (Uv c (f i)) 3).1.d],.int .i64 (Y8 (Uv c (f i)) 3).2]) ∧ Qc w w':=by
 have hsm:=Qdt c (f i).f (f i).t;have NP:=fun w b h z => Qc4 (some ⟨b,0,none⟩) 3 3 (Uv c (f i)) w h zD (Qh5 hs hw1 hw2 hsm) z
 have hw : IntKind.i64.wrap (c.schV (f i).f (f i).t + 1) = c.schV (f i).f (f i).t + 1:=Z6 Qa Qa;generalize Y8 (Uv c (f i)) 3 = R at *;obtain ⟨⟨Rn,Rd⟩,Re⟩:=R;obtain ⟨b,off,rfl,_,_⟩:=hT Qa;clear hsm hs hw1 hw2
 go_enter Tryz.func138,Tryz.ntmps138
 go_upto_region 1 with fail
 obtain ⟨v,b1,E,B1,hbr,hv,hb1⟩:=J4 w 65 #[.int .i64 0,.int .i64 0];rw [← hv,← hb1];clear hv hb1;have Z0:=hZ.ext E;have C:=hC.ext E;have HB:=hB.ext E;have HK:=hK.ext E;have RT:=hT.ext E;clear hB hT hZ hC hK;refine Zc 31 [29,30] (fun x => Qc v x) mixed rfl ?_;intro vz hvz;have HC:=hvz;refine Qs (g:=10) [0,1,2,3,4,6,7,8,9,10,11,12,13,14,15,16,17,18,19,20,21] HC ?_
 constructor
 refine ⟨fun u hu => ?_,?_⟩
 ·have k0 := (HB.ext hu).c1;have lk := (HB.ext hu).lt;obtain ⟨p0, p1', lp⟩ := Qb.d2 (HK.ext hu);obtain ⟨b', off', hTe, hb, hc⟩ := (RT.ext hu) Qa;obtain ⟨rfl, rfl⟩ : b = b' ∧ off = off' := by simpa using hTe
  have c0 : u.cell? ⟨b,off + i * 11,none⟩ = some (.int .i64 (f i).w):=by simpa [Zz] using hc i 0 _ hi rfl
  have c1 : u.cell? ⟨b,off + i * 11 + 1,none⟩ = some (.int .i64 (f i).s.n):=by simpa [Zz] using hc i 1 _ hi rfl
  have c2 : u.cell? ⟨b,off + i * 11 + 2,none⟩ = some (.int .i64 (f i).s.d):=by simpa [Zz] using hc i 2 _ hi rfl
  have c3 : u.cell? ⟨b,off + i * 11 + 3,none⟩ = some (.int .i64 (f i).f.y):=by simpa [Zz] using hc i 3 _ hi rfl
  have c4 : u.cell? ⟨b,off + i * 11 + 4,none⟩ = some (.int .i64 (f i).f.m):=by simpa [Zz] using hc i 4 _ hi rfl
  have c5 : u.cell? ⟨b,off + i * 11 + 5,none⟩ = some (.bool (f i).f.s):=by simpa [Zz] using hc i 5 _ hi rfl
  have c6 : u.cell? ⟨b,off + i * 11 + 6,none⟩ = some (.int .i64 (f i).f.d):=by simpa [Zz] using hc i 6 _ hi rfl
  have c7 : u.cell? ⟨b,off + i * 11 + 7,none⟩ = some (.int .i64 (f i).t.y):=by simpa [Zz] using hc i 7 _ hi rfl
  have c8 : u.cell? ⟨b,off + i * 11 + 8,none⟩ = some (.int .i64 (f i).t.m):=by simpa [Zz] using hc i 8 _ hi rfl
  have c9 : u.cell? ⟨b,off + i * 11 + 9,none⟩ = some (.bool (f i).t.s):=by simpa [Zz] using hc i 9 _ hi rfl
  have c10 : u.cell? ⟨b,off + i * 11 + 10,none⟩ = some (.int .i64 (f i).t.d):=by simpa [Zz] using hc i 10 _ hi rfl
  clear hc;exact Qk
 refine Qj 5 ?_;go_wp2_with (go_at_call 72;refine zc (Wv _ _) ?_;rintro e wa ⟨rfl,h4⟩);replace HC:=HC.trans h4;clear h4;refine Qf HC ?_;refine Qj 22 ?_;go_wp2_with (go_at_call 92;refine zc (Gw A A' ca cb c (f i).f (f i).t _ (C.ext HC)) ?_;rintro e wa ⟨rfl,h4⟩);replace HC:=HC.trans h4;clear h4;refine Qf HC ?_;refine Qs (g:=7) [23] HC ?_
 constructor
 refine ⟨fun u hu => ?_,?_⟩
 ·have k0 := (HB.ext hu).c1;have lk := (HB.ext hu).lt;obtain ⟨p0, p1', lp⟩ := Qb.d2 (HK.ext hu);obtain ⟨b', off', hTe, hb, hc⟩ := (RT.ext hu) Qa;obtain ⟨rfl, rfl⟩ : b = b' ∧ off = off' := by simpa using hTe
  have c0 : u.cell? ⟨b,off + i * 11,none⟩ = some (.int .i64 (f i).w):=by simpa [Zz] using hc i 0 _ hi rfl
  have c1 : u.cell? ⟨b,off + i * 11 + 1,none⟩ = some (.int .i64 (f i).s.n):=by simpa [Zz] using hc i 1 _ hi rfl
  have c2 : u.cell? ⟨b,off + i * 11 + 2,none⟩ = some (.int .i64 (f i).s.d):=by simpa [Zz] using hc i 2 _ hi rfl
  have c3 : u.cell? ⟨b,off + i * 11 + 3,none⟩ = some (.int .i64 (f i).f.y):=by simpa [Zz] using hc i 3 _ hi rfl
  have c4 : u.cell? ⟨b,off + i * 11 + 4,none⟩ = some (.int .i64 (f i).f.m):=by simpa [Zz] using hc i 4 _ hi rfl
  have c5 : u.cell? ⟨b,off + i * 11 + 5,none⟩ = some (.bool (f i).f.s):=by simpa [Zz] using hc i 5 _ hi rfl
  have c6 : u.cell? ⟨b,off + i * 11 + 6,none⟩ = some (.int .i64 (f i).f.d):=by simpa [Zz] using hc i 6 _ hi rfl
  have c7 : u.cell? ⟨b,off + i * 11 + 7,none⟩ = some (.int .i64 (f i).t.y):=by simpa [Zz] using hc i 7 _ hi rfl
  have c8 : u.cell? ⟨b,off + i * 11 + 8,none⟩ = some (.int .i64 (f i).t.m):=by simpa [Zz] using hc i 8 _ hi rfl
  have c9 : u.cell? ⟨b,off + i * 11 + 9,none⟩ = some (.bool (f i).t.s):=by simpa [Zz] using hc i 9 _ hi rfl
  have c10 : u.cell? ⟨b,off + i * 11 + 10,none⟩ = some (.int .i64 (f i).t.d):=by simpa [Zz] using hc i 10 _ hi rfl
  clear hc;exact Qk
 refine Qj 24 ?_;go_wp2_with (go_at_call 72;refine zc (Wv _ _) ?_;rintro e wa ⟨rfl,h4⟩);replace HC:=HC.trans h4;clear h4;refine Qf HC ?_;refine Qj 25 ?_;go_wp2;obtain ⟨b6,wb,hbq,hwb,Q6,HC',hx,_⟩:=Ql HC 65 #[.int .i64 (f i).w,.int .i64 1,.int .i64 (f i).s.n,.int .i64 (f i).s.d,.int .i64 (c.schV (f i).f (f i).t + 1),.int .i64 1];rw [← hbq,← hwb];clear hbq hwb hx;replace HC:=HC';clear HC';refine Qf HC ?_;refine Qj 26 ?_;go_wp2_with (go_at_call 71;refine zc (NP _ _ (rows3 Q6) (Z0.ext HC)) ?_;rintro e wa ⟨rfl,h4⟩);replace HC:=HC.trans h4;clear h4 Q6;refine Qf HC ?_;refine Qs (g:=2) [27,28] HC ?_
 constructor
 refine ⟨fun u hu => ?_,?_⟩
 ·have k0 := (HB.ext hu).c1;have lk := (HB.ext hu).lt;obtain ⟨p0, p1', lp⟩ := Qb.d2 (HK.ext hu);obtain ⟨b', off', hTe, hb, hc⟩ := (RT.ext hu) Qa;obtain ⟨rfl, rfl⟩ : b = b' ∧ off = off' := by simpa using hTe
  have c0 : u.cell? ⟨b,off + i * 11,none⟩ = some (.int .i64 (f i).w):=by simpa [Zz] using hc i 0 _ hi rfl
  have c1 : u.cell? ⟨b,off + i * 11 + 1,none⟩ = some (.int .i64 (f i).s.n):=by simpa [Zz] using hc i 1 _ hi rfl
  have c2 : u.cell? ⟨b,off + i * 11 + 2,none⟩ = some (.int .i64 (f i).s.d):=by simpa [Zz] using hc i 2 _ hi rfl
  have c3 : u.cell? ⟨b,off + i * 11 + 3,none⟩ = some (.int .i64 (f i).f.y):=by simpa [Zz] using hc i 3 _ hi rfl
  have c4 : u.cell? ⟨b,off + i * 11 + 4,none⟩ = some (.int .i64 (f i).f.m):=by simpa [Zz] using hc i 4 _ hi rfl
  have c5 : u.cell? ⟨b,off + i * 11 + 5,none⟩ = some (.bool (f i).f.s):=by simpa [Zz] using hc i 5 _ hi rfl
  have c6 : u.cell? ⟨b,off + i * 11 + 6,none⟩ = some (.int .i64 (f i).f.d):=by simpa [Zz] using hc i 6 _ hi rfl
  have c7 : u.cell? ⟨b,off + i * 11 + 7,none⟩ = some (.int .i64 (f i).t.y):=by simpa [Zz] using hc i 7 _ hi rfl
  have c8 : u.cell? ⟨b,off + i * 11 + 8,none⟩ = some (.int .i64 (f i).t.m):=by simpa [Zz] using hc i 8 _ hi rfl
  have c9 : u.cell? ⟨b,off + i * 11 + 9,none⟩ = some (.bool (f i).t.s):=by simpa [Zz] using hc i 9 _ hi rfl
  have c10 : u.cell? ⟨b,off + i * 11 + 10,none⟩ = some (.int .i64 (f i).t.d):=by simpa [Zz] using hc i 10 _ hi rfl
  clear hc;exact Qk
 refine Qr 29 ?_;replace B1:=B1.ext HC;replace E:=E.trans HC;obtain ⟨f0,f1,x0,x1,lx⟩:=Qb.e2 B1;have H4:=Qo B1 (.int .i64 Rn) (.int .i64 Rd);have EF:=(E.setCell (p:=⟨b1,0,none⟩) hbr (.int .i64 Rn)).setCell (p:=⟨b1,1,none⟩) hbr (.int .i64 Rd);obtain ⟨y0,y1⟩:=H4.c2;go_wp2;refine Qq ?_;refine Qr 30 ?_;go_wp2;refine Qq ?_;refine Qx ?_;go_wp2;refine bodyPost_ret (v:=.tuple #[.agg #[.int .i64 Rn,.int .i64 Rd],.int .i64 Re]) Zf rfl ⟨rfl,EF⟩
theorem Qft (A A' : OA) (ca cb : Nat) (c : Qd) (T : OA) (n cap : Nat) (f : Nat → Cw) (w : World) (hC : Za w A ca A' cb c) (hin : ∀ i,i < n → (f i).s.In ∧ -9223372036854775808 ≤ (f i).w ∧ (f i).w ≤ 9223372036854775807) (hT : Qm w T n 11 (Zz f)) (hn : n ≤ 9223372036854775807) (hZ : Jc w) :
  Calls Tryz.prog 88 #[.agg #[.slice A c.nk ca,.slice A' c.ny cb],.slice T n cap] w fun e w' => e = .returned (.tuple #[.agg #[.int .i64 (c.availV f n).1.n,.int .i64 (c.availV f n).1.d],.int .i64 (c.availV f n).2]) ∧ Qc w w':=by
 obtain ⟨R,hR0⟩:=Qe (c.availV f n);rw [← hR0];have HR:=zh hR0;clear hR0
 go_enter Tryz.func88,Tryz.ntmps88
 go_upto_region 1 with fail
 obtain ⟨v,b1,b2,b3,E,B1,B2,B3,hbr1,hbr2,hbr,hn21,hn31,hn32,hv,hb1,hb2,hb3⟩:=Up w 130 #[.slice A c.nk ca,.slice A' c.ny cb] 113 #[.slice T n cap] 65 #[.int .i64 0,.int .i64 0];rw [← hv,← hb3,← hb2,← hb1];clear hv hb1 hb2 hb3;have RT:=hT.ext E;have Z0:=hZ.ext E;have C:=hC.ext E;clear hT hZ hC;have s0:=B2.c1;have ls:=B2.lt;by_cases h64 : 64 < n
 ·have g1 : decide ((64 : Int) < (n : Int)) = true:=zt Qa;have hr:=HR.out;rw [show c.availV f n = (Zr,3) by unfold Qd.availV;rw [if_pos h64]] at hr;subst hr;clear HR;clear h64;obtain ⟨f0,f1,x0,x1,lx⟩:=Qb.e2 B3;have H4:=Qo B3 (.int .i64 0) (.int .i64 0);have EF:=(E.setCell (p:=⟨b3,0,none⟩) hbr (.int .i64 0)).setCell (p:=⟨b3,1,none⟩) hbr (.int .i64 0);obtain ⟨y0,y1⟩:=H4.c2;go_wp2;refine bodyPost_ret (v:=.tuple #[.agg #[.int .i64 0,.int .i64 0],.int .i64 3]) Zf rfl ⟨rfl,EF⟩
 ·have g1 : decide ((64 : Int) < (n : Int)) = false:=zf Qa;go_upto_region 4 with fail
  clear s0 ls
  go_loopw [14] (fun i wr => ∃ k : Nat,k ≤ n ∧ i = .int .i64 k ∧ Hid (∀ j,j < k → c.crewOk (f j) = true) ∧ Qc v wr) (fun i _ => n - (intOf i).toNat)
  case atStart => exact ⟨0,Nat.zero_le _,rfl,(fun j h => absurd h Qa),Qc.refl _⟩
  case round =>
   obtain ⟨k,hk,rfl,hall,hE⟩:=hrel;obtain ⟨wo,rfl⟩:=Qe wr;by_cases hlt : k < n
   ·obtain ⟨b, off, rfl, hb, hc⟩ := (RT.ext hE) Qa;have c0 : wo.cell? ⟨b, off + k * 11, none⟩ = some (.int .i64 (f k).w) := by simpa [Zz] using hc k 0 _ hlt rfl
    have c1 : wo.cell? ⟨b,off + k * 11 + 1,none⟩ = some (.int .i64 (f k).s.n):=by simpa [Zz] using hc k 1 _ hlt rfl
    have c2 : wo.cell? ⟨b,off + k * 11 + 2,none⟩ = some (.int .i64 (f k).s.d):=by simpa [Zz] using hc k 2 _ hlt rfl
    have c3 : wo.cell? ⟨b,off + k * 11 + 3,none⟩ = some (.int .i64 (f k).f.y):=by simpa [Zz] using hc k 3 _ hlt rfl
    have c4 : wo.cell? ⟨b,off + k * 11 + 4,none⟩ = some (.int .i64 (f k).f.m):=by simpa [Zz] using hc k 4 _ hlt rfl
    have c5 : wo.cell? ⟨b,off + k * 11 + 5,none⟩ = some (.bool (f k).f.s):=by simpa [Zz] using hc k 5 _ hlt rfl
    have c6 : wo.cell? ⟨b,off + k * 11 + 6,none⟩ = some (.int .i64 (f k).f.d):=by simpa [Zz] using hc k 6 _ hlt rfl
    have c7 : wo.cell? ⟨b,off + k * 11 + 7,none⟩ = some (.int .i64 (f k).t.y):=by simpa [Zz] using hc k 7 _ hlt rfl
    have c8 : wo.cell? ⟨b,off + k * 11 + 8,none⟩ = some (.int .i64 (f k).t.m):=by simpa [Zz] using hc k 8 _ hlt rfl
    have c9 : wo.cell? ⟨b,off + k * 11 + 9,none⟩ = some (.bool (f k).t.s):=by simpa [Zz] using hc k 9 _ hlt rfl
    have c10 : wo.cell? ⟨b,off + k * 11 + 10,none⟩ = some (.int .i64 (f k).t.d):=by simpa [Zz] using hc k 10 _ hlt rfl
    obtain ⟨is,_⟩:=hin k hlt;have NS:=fun w => Gc (f k).s is w
    have NSP:=fun w h => Bh A A' ca cb c (f k).f (f k).t w h
    have hno : Hid (c.crewOk (f k) = false → R = (Zr,81)):=fun h => by
     rw [HR.out];unfold Qd.availV;rw [if_neg h64,if_neg (by rw [Bool.not_eq_true];exact List.all_eq_false.2 ⟨k,by simpa using hlt,by simp [h]⟩)]
    have hyes : Hid (c.crewOk (f k) = true → ∀ j,j < k + 1 → c.crewOk (f j) = true):=fun h j hj => by
     by_cases e : j = k
     ·subst e;exact h
     ·exact hall.out j Qa
    have hck : Hid (c.crewOk (f k) = (decide (0 ≤ (f k).w) && decide ((f k).w ≤ 4096) && (f k).s.shr && (decide (0 < c.numV (f k).f) && decide (c.numV (f k).f ≤ c.numV (f k).t)))):=rfl;clear hc hin RT hall HR h64;go_upto_region 6 with fail
    obtain ⟨v3,hv⟩:=Qe (wo.alloc (.cells #[.int .i64 (f k).w,.int .i64 (f k).s.n,.int .i64 (f k).s.d,.int .i64 (f k).f.y,.int .i64 (f k).f.m,.bool (f k).f.s,.int .i64 (f k).f.d,.int .i64 (f k).t.y,.int .i64 (f k).t.m,.bool (f k).t.s,.int .i64 (f k).t.d] 112));rw [← hv];have E3 : Qc wo v3:=by rw [hv];exact (Qc.refl _).alloc _
    have H3 : Qb v3 wo.heap.size 112 #[.int .i64 (f k).w,.int .i64 (f k).s.n,.int .i64 (f k).s.d,.int .i64 (f k).f.y,.int .i64 (f k).f.m,.bool (f k).f.s,.int .i64 (f k).f.d,.int .i64 (f k).t.y,.int .i64 (f k).t.m,.bool (f k).t.s,.int .i64 (f k).t.d]:=by rw [hv];exact Qb.new _ _ _
    clear hv c0 c1 c2 c3 c4 c5 c6 c7 c8 c9 c10;replace hE:=hE.trans E3;generalize wo.heap.size = b4 at *;clear E3;obtain ⟨q0,q1,q2,q3,q4,q5,q6,q7,q8,q9,q10,lq⟩:=Qb.d11 H3;obtain ⟨k0,k1,lk⟩:=Qb.d2 (B1.ext hE);generalize (decide (0 < c.numV (f k).f) && decide (c.numV (f k).f ≤ c.numV (f k).t)) = sp at *;generalize (f k).s.shr = sh at *;by_cases w0 : (f k).w < 0
    ·have gw : decide ((f k).w < 0) = true:=zt w0;have hr:=hno.out (by rw [hck.out,zf Qa];rfl);subst hr;clear hno hyes hck w0;replace E:=E.trans hE;replace B3:=B3.ext hE;obtain ⟨f0,f1,x0,x1,lx⟩:=Qb.e2 B3;have H4:=Qo B3 (.int .i64 0) (.int .i64 0);have EF:=(E.setCell (p:=⟨b3,0,none⟩) hbr (.int .i64 0)).setCell (p:=⟨b3,1,none⟩) hbr (.int .i64 0);obtain ⟨y0,y1⟩:=H4.c2;go_wp2;refine bodyPost_ret (v:=.tuple #[.agg #[.int .i64 0,.int .i64 0],.int .i64 81]) Zf rfl ⟨rfl,EF⟩
    ·have gw : decide ((f k).w < 0) = false:=zf w0;by_cases w1 : 4096 < (f k).w
     ·have gw1 : decide (4096 < (f k).w) = true:=zt w1;have hr:=hno.out (by rw [hck.out,zf (show ¬ (f k).w ≤ 4096 by omega),Bool.and_false];rfl);subst hr;clear hno hyes hck w0 w1;replace E:=E.trans hE;replace B3:=B3.ext hE;obtain ⟨f0,f1,x0,x1,lx⟩:=Qb.e2 B3;have H4:=Qo B3 (.int .i64 0) (.int .i64 0);have EF:=(E.setCell (p:=⟨b3,0,none⟩) hbr (.int .i64 0)).setCell (p:=⟨b3,1,none⟩) hbr (.int .i64 0);obtain ⟨y0,y1⟩:=H4.c2;go_wp2;refine bodyPost_ret (v:=.tuple #[.agg #[.int .i64 0,.int .i64 0],.int .i64 81]) Zf rfl ⟨rfl,EF⟩
     ·have gw1 : decide (4096 < (f k).w) = false:=zf w1;cases sh
      ·have hr:=hno.out (by rw [hck.out,Bool.and_false];rfl);subst hr;clear hno hyes hck w0 w1;go_upto_region 7 with (go_at_call 90;refine zc (NS _) ?_;rintro e w2 ⟨rfl,h2⟩;clear q0 q1 q2 q3 q4 q5 q6 q7 q8 q9 q10 lq k0 k1 lk;obtain ⟨q0,q1,q2,q3,q4,q5,q6,q7,q8,q9,q10⟩:=(H3.ext h2).c11;have lq:=(H3.ext h2).lt;obtain ⟨k0,k1⟩:=((B1.ext hE).ext h2).c2;have lk:=((B1.ext hE).ext h2).lt)
       replace E:=(E.trans hE).trans h2;replace B3:=(B3.ext hE).ext h2;obtain ⟨f0,f1,x0,x1,lx⟩:=Qb.e2 B3;have H4:=Qo B3 (.int .i64 0) (.int .i64 0);have EF:=(E.setCell (p:=⟨b3,0,none⟩) hbr (.int .i64 0)).setCell (p:=⟨b3,1,none⟩) hbr (.int .i64 0);obtain ⟨y0,y1⟩:=H4.c2;go_wp2;refine bodyPost_ret (v:=.tuple #[.agg #[.int .i64 0,.int .i64 0],.int .i64 81]) Zf rfl ⟨rfl,EF⟩
      ·cases sp
       ·have hr:=hno.out (by rw [hck.out,Bool.and_false]);subst hr;clear hno hyes hck w0 w1;go_upto_region 7 with (first | (go_at_call 90;refine zc (NS _) ?_;rintro e w2 ⟨rfl,h2⟩;clear q0 q1 q2 q3 q4 q5 q6 q7 q8 q9 q10 lq k0 k1 lk;obtain ⟨q0,q1,q2,q3,q4,q5,q6,q7,q8,q9,q10⟩:=(H3.ext h2).c11;have lq:=(H3.ext h2).lt;obtain ⟨k0,k1⟩:=((B1.ext hE).ext h2).c2;have lk:=((B1.ext hE).ext h2).lt) | (go_at_call 91;refine zc (NSP _ ((C.ext hE).ext h2)) ?_;rintro e w3 ⟨rfl,h3⟩))
        replace E:=((E.trans hE).trans h2).trans h3;replace B3:=((B3.ext hE).ext h2).ext h3;obtain ⟨f0,f1,x0,x1,lx⟩:=Qb.e2 B3;have H4:=Qo B3 (.int .i64 0) (.int .i64 0);have EF:=(E.setCell (p:=⟨b3,0,none⟩) hbr (.int .i64 0)).setCell (p:=⟨b3,1,none⟩) hbr (.int .i64 0);obtain ⟨y0,y1⟩:=H4.c2;go_wp2;refine bodyPost_ret (v:=.tuple #[.agg #[.int .i64 0,.int .i64 0],.int .i64 81]) Zf rfl ⟨rfl,EF⟩
       ·have hx:=zh (hyes.out (by rw [hck.out,zt (show 0 ≤ (f k).w by omega),zt (show (f k).w ≤ 4096 by omega)];rfl));clear hno hyes hck w0 w1;go_wp2_with (first | (go_at_call 90;refine zc (NS _) ?_;rintro e w2 ⟨rfl,h2⟩;clear q0 q1 q2 q3 q4 q5 q6 q7 q8 q9 q10 lq k0 k1 lk;obtain ⟨q0,q1,q2,q3,q4,q5,q6,q7,q8,q9,q10⟩:=(H3.ext h2).c11;have lq:=(H3.ext h2).lt;obtain ⟨k0,k1⟩:=((B1.ext hE).ext h2).c2;have lk:=((B1.ext hE).ext h2).lt) | (go_at_call 91;refine zc (NSP _ ((C.ext hE).ext h2)) ?_;rintro e w3 ⟨rfl,h3⟩));exact ⟨⟨k + 1,Qa,by go_num,hx,(hE.trans h2).trans h3⟩,zi⟩
   ·obtain rfl : k = n := Qa;have B2e := B2.ext hE;have B1e := B1.ext hE;have RTe := RT.ext hE;have Ze := Z0.ext hE;have Ce := C.ext hE;have NT := Qn4 (fun i => Y8 (Uv c (f i)) 3) k b2 b1 wo (fun i hi u hu => Qfr A A' ca cb c T k cap f b2 b1 i hi (hin i hi).1 (hin i hi).2.1 (hin i hi).2.2 u (Ce.ext hu) (B2e.ext hu) (B1e.ext hu) (RTe.ext hu) Qa (Ze.ext hu)) (fun i hi => Qmt _ _) Qa Ze;rw [show Uk (fun i => Y8 (Uv c (f i)) 3) k = R from by rw [HR.out]; unfold Qd.availV; rw [if_neg h64, if_pos (List.all_eq_true.2 fun j hj => hall.out j (by simpa using hj))]] at NT;clear HR hall hin h64 RT;replace E := E.trans hE;replace B3 := B3.ext hE;have s0 := B2e.c1;have ls := B2e.lt
    clear hE;obtain ⟨⟨Rn,Rd⟩,Re⟩:=R;go_wp2_with (first | (go_at_call 135;refine zc (NT) ?_;rintro e wt ⟨rfl,ht⟩;replace E:=E.trans ht;replace B3:=B3.ext ht;have f0:=B3.frozen 0;have f1:=B3.frozen 1;obtain ⟨x0,x1⟩:=B3.c2;have lx:=B3.lt));have H4:=Qo B3 (.int .i64 Rn) (.int .i64 Rd);have EF:=(E.setCell (p:=⟨b3,0,none⟩) hbr (.int .i64 Rn)).setCell (p:=⟨b3,1,none⟩) hbr (.int .i64 Rd);obtain ⟨y0,y1⟩:=H4.c2;go_wp2;refine bodyPost_ret (v:=.tuple #[.agg #[.int .i64 Rn,.int .i64 Rd],.int .i64 Re]) Zf rfl ⟨rfl,EF⟩
theorem J0 {w w' : World} {base size n : Nat} {e : TypeId} {v : Value} {xs : List Value} (h : w.ownsRow base e size v n xs) (x : Qc w w') : w'.ownsRow base e size v n xs:=h.kept (Ml x) (by
 rcases h.2 with ⟨rfl,_⟩ | ⟨g,cap,cur,rfl,_⟩
 ·exact .inl rfl
 ·exact .inr (by simp [Value.ownBlock]))
theorem Qii (W : World) (b j : Nat) (v : Value) : W.grownBy (W.setCell ⟨b,j,none⟩ v) (some b) :=
 ⟨rfl,rfl,rfl,(KeepsWalks.setCell W _ v).size,fun k _ hk => Below.heap_setCell _ _ _ k (fun e => hk (by rw [e]))⟩
theorem Qaj : (Tryz.prog.info? 85).map (fun i => (i.zero,i.size,i.bytes)) = some (some (.agg #[.string ⟨#[]⟩,.int .i64 0]),2,24):=by kernel_rfl
theorem Qgd (s : ByteArray) (n : Int) : ∀ u ∈ [Value.string s,.int .i64 n],u.oneCell' = true:=by simp [Value.oneCell']
theorem Wf {w : World} {b : Nat} {t : TypeId} {cs : Array Value} (h : Qb w b t cs) : ∀ j u,cs.toList[j]? = some u → w.cell? ((⟨b,0,none⟩ : Addr).add j) = some u:=fun j u hj => by
 have e : (⟨b,0,none⟩ : Addr).add j = ⟨b,j,none⟩:=by unfold Addr.add;split <;> simp_all
 rw [e,h.cell j]
 simpa using hj
structure Wk (B0 bo : Nat) (w w' : World) : Prop where
 ext : ∀ W0 : World,Qc W0 w → W0.heap.size ≤ bo → W0.heap.size ≤ B0 → Qc W0 w'
 held : ∀ b t cs,Qb w b t cs → b ≠ bo → b < B0 → Qb w' b t cs
namespace Wk
variable {B0 bo : Nat} {w w' w'' : World}
theorem refl : Wk B0 bo w w:=⟨fun _ h _ _ => h,fun _ _ _ h _ _ => h⟩
theorem of_ext (x : Qc w w') : Wk B0 bo w w':=⟨fun _ h _ _ => h.trans x,fun _ _ _ h _ _ => h.ext x⟩
theorem trans (h : Wk B0 bo w w') (k : Wk B0 bo w' w'') : Wk B0 bo w w'':=⟨fun W0 h0 h1 h2 => k.ext W0 (h.ext W0 h0 h1 h2) h1 h2,fun b t cs h0 h1 h2 => k.held b t cs (h.held b t cs h0 h1 h2) h1 h2⟩
theorem grown {v : Value} {e : TypeId} {s n : Nat} {xs : List Value} (ho : w.ownsRow B0 e s v n xs) (hg : w.grownBy w' v.ownBlock) : Wk B0 bo w w' :=
 ⟨fun _ h0 _ h2 => h0.grown hg (fun q hq => Nat.le_trans h2 (Xe ho q hq).1),fun b _ _ h _ hb => h.kept hg (fun e => by have:=(Xe ho b e.symm).1;omega)⟩
theorem set (j : Nat) (u : Value) : Wk B0 bo w (w.setCell ⟨bo,j,none⟩ u) :=
 ⟨fun _ h0 h1 _ => h0.setCell (p:=⟨bo,j,none⟩) h1 u,fun _ _ _ h hne _ => Qg h hne j u⟩
end Wk
theorem Qi6 {W : World} {b : Nat} {t : TypeId} {v0 : Value} (h : Qb W b t #[v0]) (u : Value) : Qb (W.setCell ⟨b,0,none⟩ u) b t #[u]:=by unfold Qb at h ⊢;simp [World.setCell,Array.getElem?_modify,h]
theorem Je {W : World} {b : Nat} {t e : TypeId} {cs : Array Value} (h : Qb W b t cs) (hte : t ≠ e) {base size k : Nat} {v : Value} {xs : List Value} (hr : W.ownsRow base e size v k xs) (j : Nat) (u : Value) : (W.setCell ⟨b,j,none⟩ u).ownsRow base e size v k xs :=
 hr.kept (Qii W b j u) (.inr (Ne.symm (h.not_row hte hr)))
def Jq (l : Lt) : List Value:=[.string l.g,.int .i64 l.n]
theorem Ql8 (sg : Int) (x y : Lt) (B0 bs bo : Nat) (F : OA) (k cap : Nat) (xs : List Value) (w : World) (HS : Qb w bs 3 #[.int .i64 sg]) (HO : Qb w bo 52 #[.slice F k cap]) (hO : w.ownsRow B0 85 2 (.slice F k cap) k xs) (hk : k ≤ 1000) (_hlen : xs.length = k * 2) (hb0 : B0 ≤ w.heap.size) (hw1 : -9223372036854775808 ≤ sg * y.n) (hw2 : sg * y.n ≤ 9223372036854775807) (hw3 : -9223372036854775808 ≤ x.n + sg * y.n) (hw4 : x.n + sg * y.n ≤ 9223372036854775807) :
  Calls Tryz.prog 113 #[.agg #[.string x.g,.int .i64 x.n],.agg #[.string y.g,.int .i64 y.n],.pointer (some ⟨bs,0,none⟩),.pointer (some ⟨bo,0,none⟩)] w fun e w' => e = .returned (.bool (Xq sg x y)) ∧ Wk B0 bo w w' ∧ (Xq sg x y = true → ∃ F' k' cap',Qb w' bo 52 #[.slice F' k' cap'] ∧ w'.ownsRow B0 85 2 (.slice F' k' cap') k' (xs ++ (Vg sg (x,y)).flatMap Jq)):=by
 obtain ⟨i0,hi,hz0,hz1,hz2⟩:=info_parts Qaj;obtain ⟨N,hN⟩:=Qe (Lb sg x y);have hm : IntKind.i64.wrap (sg * y.n) = sg * y.n:=Z6 hw1 hw2;have hadd : IntKind.i64.wrap (x.n + sg * y.n) = N:=by rw [hN];exact Z6 hw3 hw4
 have hxs : Hid (xs ++ (Vg sg (x,y)).flatMap Jq = if N = 0 then xs else xs ++ [.string (Yd x y),.int .i64 N]):=by
  unfold Hid Vg Jq;rw [hN];by_cases h : Lb sg x y = 0
  ·rw [if_pos h,if_pos h];simp
  ·rw [if_neg h,if_neg h];simp
 have hok : Xq sg x y = !(decide (1099511627776 < N) || decide (N < -1099511627776)):=by rw [hN];rfl
 rw [hok];clear hok hN hw1 hw2 hw3 hw4
 go_enter Tryz.func113,Tryz.ntmps113
 go_upto_region 1 with fail
 obtain ⟨v,b1,b2,E,B1,B2,hbr1,hbr,hn21,hv,hb1,hb2⟩:=Jy w 85 #[.string x.g,.int .i64 x.n] 85 #[.string y.g,.int .i64 y.n];rw [← hv,← hb2,← hb1];clear hv hb1 hb2;have hrl : ∀ q,(Value.slice F k cap).ownBlock = some q → q < w.heap.size:=fun q h => (hO.lt q h).2
 replace HS:=HS.ext E;replace HO:=HO.ext E;replace hO:=J0 hO E;obtain ⟨p0,p1,lp⟩:=Qb.d2 B1;obtain ⟨r0,r1,lr⟩:=Qb.d2 B2;have s0:=HS.c1;have ls:=HS.lt;by_cases g1 : 1099511627776 < N
 ·have d1 : decide (1099511627776 < N) = true:=zt g1;clear g1;go_wp2;go_ret;exact ⟨Jo (by rw [d1];rfl),.of_ext E,fun h => by rw [d1] at h;cases h⟩
 ·have d1 : decide (1099511627776 < N) = false:=zf g1;by_cases g2 : N < -1099511627776
  ·have d2 : decide (N < -1099511627776) = true:=zt g2;clear g1 g2;go_wp2;go_ret;exact ⟨Jo (by rw [d1,d2];rfl),.of_ext E,fun h => by rw [d1,d2] at h;cases h⟩
  ·have d2 : decide (N < -1099511627776) = false:=zf g2;clear g1 g2;by_cases g3 : N = 0
   ·subst g3;go_wp2;go_ret;refine ⟨rfl,.of_ext E,?_⟩;exact ⟨_,_,_,HO,by rw [hxs.out,if_pos trivial];exact hO⟩
   ·have d3 : (N == 0) = false := zb g3;have d3n : (N != 0) = true := by rw [bne, d3]; rfl
    rw [if_neg g3] at hxs;clear g3;go_upto_region 5 with fail
    clear p0 p1 lp r0 r1 lr s0 ls;refine Zc 9 [8] (fun u => Qb u bo 52 #[.slice F k cap] ∧ Qb u b1 85 #[.string x.g,.int .i64 x.n] ∧ Qb u b2 85 #[.string y.g,.int .i64 y.n]) mixed rfl ?_;intro vz hvz;have HC:=hvz;replace HO:=HO.ext hvz;replace B1:=B1.ext hvz;replace B2:=B2.ext hvz;refine Qs (g:=5) [0,1,2,4] ⟨HO,B1,B2⟩ ?_
    constructor
    refine ⟨fun u hu => ?_,?_⟩
    ·have o0:=hu.1.c1;have lo:=hu.1.lt;obtain ⟨p0,p1,lp⟩:=Qb.d2 hu.2.1;obtain ⟨r0,r1,lr⟩:=Qb.d2 hu.2.2;exact Qk
    refine Qj 3 ?_;go_wp2_with (go_at_call 114;refine zc (Qk3 x y _) ?_;rintro e wa ⟨rfl,h4⟩);replace HC:=HC.trans h4;replace HO:=HO.ext h4;replace B1:=B1.ext h4;replace B2:=B2.ext h4;clear h4;refine Qf ⟨HO,B1,B2⟩ ?_;refine Qs (g:=3) [5] ⟨HO,B1,B2⟩ ?_
    constructor
    refine ⟨fun u hu => ?_,?_⟩
    ·have o0:=hu.1.c1;have lo:=hu.1.lt;obtain ⟨p0,p1,lp⟩:=Qb.d2 hu.2.1;obtain ⟨r0,r1,lr⟩:=Qb.d2 hu.2.2;exact Qk
    refine Qj 6 ?_;go_wp2;obtain ⟨bq,wb,hbq,hwb,Q6,HC',hx,hge⟩:=Ql HC 85 #[.string (Yd x y),.int .i64 N];rw [← hbq,← hwb];clear hbq hwb;replace HC:=HC';replace HO:=HO.ext hx;replace B1:=B1.ext hx;replace B2:=B2.ext hx;clear hx HC';refine Qf ⟨HO,B1,B2⟩ ?_;refine Qj 7 ?_;go_wp2_with (at_builtin;refine wpList_append_own_at _ rfl _ _ 52 rfl B0 85 i0 (.agg #[.string ⟨#[]⟩,.int .i64 0]) 2 24 Tryz.underlying52 hi hz0 hz1 hz2 rfl zD _ _ _ rfl (J0 hO HC) ⟨bq,0,none⟩ 1 1 [.string (Yd x y),.int .i64 N] rfl rfl (Wf Q6) (Qgd _ _) (by unfold maxLen;omega) Qa (by have:=HC.size;have:=E.size;omega) ?_;intro vn wn hown hgrow _ _);obtain ⟨Fn,mn,rfl⟩:=Jn hown
    replace B1:=B1.kept hgrow (fun e => by have:=hrl b1 e.symm;omega);replace B2:=B2.kept hgrow (fun e => by have:=hrl b2 e.symm;omega);replace HO:=HO.kept hgrow (HO.not_row zD (J0 hO HC));have HP:=(Wk.of_ext (E.trans HC)).trans (Wk.grown (bo:=bo) (J0 hO HC) hgrow);clear hgrow Q6;refine Qf ⟨HO,B1,B2⟩ ?_;refine Qr 8 ?_;have z0:=HO.frozen 0;have o0:=HO.c1;have lo:=HO.lt;go_wp2;have HP2:=HP.trans (Wk.set 0 (.slice Fn (k + 1) mn));have HO2:=Qi6 HO (.slice Fn (k + 1) mn);have hown2:=Je HO zD hown 0 (.slice Fn (k + 1) mn);clear HP hown HO B1 B2;generalize World.setCell _ _ _ = wq at *;clear z0 o0 lo;refine Qq ?_;refine Qx ?_;go_wp2
    go_ret;refine ⟨Jo (by rw [d1,d2];rfl),HP2,fun _ => ?_⟩;exact ⟨_,_,_,HO2,by rw [hxs.out];exact hown2⟩
end
end Go.Proofs.YtoflcheopfppoaaGreatDoor

/- Walks and plain facts, packed; no conditions but those that each states. -/
import Derived.Test.YtoflcheopfppoaaGreatDoorK12
set_option maxRecDepth 100000
set_option maxHeartbeats 4000000
namespace Go.Proofs.YtoflcheopfppoaaGreatDoor
section
open Go Go.RowKit Go.Shelf
attribute [local go_sem] Z8
theorem Qk0 (n : Nat) (hn : n < 9223372036854775808) (w : World) :
  Calls Tryz.prog 189 #[.int .u64 1,.int .u64 (n : Int)] w fun e w' => e = .returned (.tuple #[.int .u64 0,.int .u64 (n : Int)]) ∧ w = w':=by
 have h:=Qby 1 n zD Qa w;rw [show (1 * n / 18446744073709551616 : Nat) = 0 by omega,show (1 * n % 18446744073709551616 : Nat) = n by omega] at h;exact h
theorem G8 : Tryz.prog.elem 125 = 3:=by kernel_rfl
theorem Qdu (w : World) : (sizeOf 3).run Tryz.prog w = .ok 1 w:=by
 obtain ⟨i0,hi,hz0,hz1,hz2⟩:=info_parts Ms;simp [sizeOf,typeInfo,hi,hz1]
theorem Qnk (g N q : Nat) (h : q < N) (w : World) : (Instr.slice 125 (.slice (some ⟨g,0,none⟩) N N) (some (.int .i64 (q : Int))) none none).run Tryz.prog w = .ok (.slice (some ⟨g,q,none⟩) (N - q) (N - q)) w:=by
 rw [run_slice_l (P:=Tryz.prog) w 125 (some ⟨g,0,none⟩) N N (by rw [G8];exact Tryz.underlying125) .i64 q Qa Qa,G8,Qdu];have e : ((q : Int)).toNat = q:=Qa;simp only [Result.andThen_ok,e,sliced];rw [if_neg Qa];simp only [Nat.mul_one,Option.map_some,Addr.add_lit,Nat.zero_add]
theorem sl_to (g N q : Nat) (h : q ≤ N) (h0 : 0 < N) (w : World) : (Instr.slice 125 (.slice (some ⟨g,0,none⟩) N N) none (some (.int .i64 (q : Int))) none).run Tryz.prog w = .ok (.slice (some ⟨g,0,none⟩) q N) w:=by
 rw [run_slice_h (P:=Tryz.prog) w 125 (some ⟨g,0,none⟩) N N (by rw [G8];exact Tryz.underlying125) .i64 q Qa Qa,G8,Qdu];have e : ((q : Int)).toNat = q:=Qa;simp only [Result.andThen_ok,e,sliced];rw [if_neg Qa];simp [Addr.add]
def Jm (N q : Nat) : List Value:=List.replicate q (.int .i64 (-1)) ++ List.replicate (N - q) (.int .i64 0)
theorem I5 {N q j : Nat} (h : j < q) : (Jm N q).toArray[j]? = some (.int .i64 (-1)):=by
 unfold Jm;rw [List.getElem?_toArray,List.getElem?_append_left (by simpa using h)];simp [h]
theorem Qin {N q : Nat} (h : q ≤ N) : (Jm N q).length = N:=by unfold Jm;simp;omega
theorem Qio (N q : Nat) : splice (Jm N q) q (List.replicate (Nat.min q (N - q)) (.int .i64 (-1))) = Jm N (q + Nat.min q (N - q)):=by
 unfold splice Jm;have hm : Nat.min q (N - q) ≤ N - q:=Nat.min_le_right _ _;rw [List.take_left' (by simp),List.drop_append,List.length_replicate,List.length_replicate,List.drop_eq_nil_of_le (by simp),List.nil_append,List.drop_replicate,← List.append_assoc,List.replicate_append_replicate]
 congr 2
 omega
theorem szI : (Tryz.prog.info? 3).map (·.size) = some 1:=by kernel_rfl
theorem Sv {w : World} {g n q m dl sl sc : Nat} {src : Addr} (HG : Qb w g 3 (Jm n q).toArray) (hq : q ≤ n) (hdl : dl = n - q) (hm : m = Nat.min sl dl) (hsrc : ∀ j,j < m → w.cell? (src.add j) = some (.int .i64 (-1))) (hh : splice (Jm n q) q (List.replicate m (.int .i64 (-1))) = Jm n (q + m)) :
  (Builtin.copy_ #[125,125] 3 #[.slice (some ⟨g,q,none⟩) dl dl,.slice (some src) sl sc]).run Tryz.prog w = .ok (.int .i64 (m : Int)) (w.setRow g (Jm n (q + m)).toArray):=by
 have hmd : m ≤ dl:=by rw [hm];exact Nat.min_le_right _ _
 have h:=run_copy_row (P:=Tryz.prog) w 125 125 3 3 g q dl dl src sl sc (Jm n q).toArray 3 (List.replicate m (.int .i64 (-1))) Tryz.underlying125 szI HG (by rw [List.length_replicate];exact hm) (fun j u hj => by
  obtain ⟨h1,h2⟩:=List.getElem?_eq_some_iff.1 hj;rw [List.getElem_replicate] at h2;rw [← h2];exact hsrc j (by simpa using h1)) (by rw [List.length_replicate,List.size_toArray,Qin hq];omega) (fun u hu => by rw [List.eq_of_mem_replicate hu];rfl)
 rw [h,← hh];unfold splice;simp [goInt]
section
variable {P : Program} {ops : Array Oper} {md : Region.Mode} {C : World → Prop} {R : Act → World → Prop} {zs : List Nat}
theorem Qe1 {f : Nat} {L : Array Bool} {a : Act} {w : World} {o1 o2 o3 o4 : Oper} (k1 k2 k3 k4 : Nat) (h1 : ops[k1]? = some o1) (h2 : ops[k2]? = some o2) (h3 : ops[k3]? = some o3) (h4 : ops[k4]? = some o4) (hB : decide (Region.ready md ops L = [k1,k2,k3,k4]) = true)
  (ha : wpList P ops (Ja fun a' w' => C w' ∧ Zy P md ops C zs R f (L.setIfInBounds k1 true) a' w') [o1] a w)
  (hb : wpList P ops (Ja fun a' w' => C w' ∧ Zy P md ops C zs R f (L.setIfInBounds k2 true) a' w') [o2] a w)
  (hc : wpList P ops (Ja fun a' w' => C w' ∧ Zy P md ops C zs R f (L.setIfInBounds k3 true) a' w') [o3] a w)
  (hd : wpList P ops (Ja fun a' w' => C w' ∧ Zy P md ops C zs R f (L.setIfInBounds k4 true) a' w') [o4] a w) : Zy P md ops C zs R (f + 1) L a w:=by
 have hB:=of_decide_eq_true hB;refine ⟨fun h => (by rw [hB] at h;cases h),fun j hj => ?_⟩;rw [hB] at hj;rcases List.mem_cons.1 hj with rfl | hj
 ·exact wpOp_mono (fun a' w' h' => ⟨fun _ => h'.1,h'.2⟩) (Wi (Ww h1 ha))
 ·rcases List.mem_cons.1 hj with rfl | hj
  ·exact wpOp_mono (fun a' w' h' => ⟨fun _ => h'.1,h'.2⟩) (Wi (Ww h2 hb))
  ·rcases List.mem_cons.1 hj with rfl | hj
   ·exact wpOp_mono (fun a' w' h' => ⟨fun _ => h'.1,h'.2⟩) (Wi (Ww h3 hc))
   ·rw [List.mem_singleton] at hj;subst hj;exact wpOp_mono (fun a' w' h' => ⟨fun _ => h'.1,h'.2⟩) (Wi (Ww h4 hd))
end
def cutW (A : OA → Nat → OA → Nat → Nat → Nat → Nat → Nat → Nat → Nat → Nat → Act) (S : World → OA → Nat → OA → Nat → Nat → Nat → Nat → Nat → Nat → Nat → Nat → Prop) : Exit → Act → World → Prop:=fun e a' w' => e = .normal ∧ ∃ O cO I cI bo bi bf bs bm b1 b2,S w' O cO I cI bo bi bf bs bm b1 b2 ∧ a' = A O cO I cI bo bi bf bs bm b1 b2
theorem Qhb {A : OA → Nat → OA → Nat → Nat → Nat → Nat → Nat → Nat → Nat → Nat → Act} {S : World → OA → Nat → OA → Nat → Nat → Nat → Nat → Nat → Nat → Nat → Nat → Prop} {w' : World} (O : OA) (cO : Nat) (I : OA) (cI bo bi bf bs bm b1 b2 : Nat) {a' : Act} (h : S w' O cO I cI bo bi bf bs bm b1 b2) (ha : a' = A O cO I cI bo bi bf bs bm b1 b2) : cutW A S .normal a' w':=⟨rfl,O,cO,I,cI,bo,bi,bf,bs,bm,b1,b2,h,ha⟩
theorem Qo2 {P : Program} {c : Code} {Q : Exit → Act → World → Prop} {a : Act} {w : World} {A : OA → Nat → OA → Nat → Nat → Nat → Nat → Nat → Nat → Nat → Nat → Act} (S : World → OA → Nat → OA → Nat → Nat → Nat → Nat → Nat → Nat → Nat → Nat → Prop) (h1 : c.wp P (cutW A S) a w) (h2 : ∀ O cO I cI bo bi bf bs bm b1 b2 w',S w' O cO I cI bo bi bf bs bm b1 b2 → Q .normal (A O cO I cI bo bi bf bs bm b1 b2) w') : c.wp P Q a w :=
 Code.wp_mono (fun e a' w' ⟨he,O,cO,I,cI,bo,bi,bf,bs,bm,b1,b2,hs,ha⟩ => by subst he;subst ha;exact h2 O cO I cI bo bi bf bs bm b1 b2 w' hs) h1
theorem Qf1 (n : Nat) (hn : n < 9223372036854775808) (w : World) :
  Calls Tryz.prog 165 #[.int .u64 1,.int .u64 (n : Int)] w fun e w' => e = .returned (.tuple #[.int .u64 0,.int .u64 (n : Int)]) ∧ w = w':=by
 go_enter Tryz.func165,Tryz.ntmps165
 go_wp2_with (go_at_call 189;refine zc (Qk0 n hn _) ?_;rintro e w' ⟨rfl,rfl⟩);go_ret2;exact ⟨rfl,rfl⟩
theorem Ui (n bx : Nat) (w : World) (hx : w.cell? ⟨bx,0,none⟩ = some (.int .i64 (-1))) (hbx : bx < w.heap.size) (hn : n ≤ 1000000) :
  Calls Tryz.prog 126 #[.slice (some ⟨bx,0,none⟩) 1 1,.int .i64 (n : Int)] w fun e w' => ∃ A cap b,e = .returned (.slice A n cap) ∧ Qc w w' ∧ w.heap.size ≤ b ∧ Qw w' 3 A n b (fun _ => (.int .i64 (-1))):=by
 have NM:=fun w => Qf1 n Qa w
 have hmk:=fun w => Qkq n hn w
 have wr1 : IntKind.u64.wrap (n : Int) = n:=by rw [IntKind.wrap_u64];omega
 have wr2 : IntKind.i64.wrap (n : Int) = n:=by rw [IntKind.wrap_i64];omega
 have g1 : decide ((9223372036854775807 : Int) < (n : Int)) = false:=zf Qa
 go_enter Tryz.func126,Tryz.ntmps126
 go_upto_region 4 with (go_at_call 165;refine zc (NM _) ?_;rintro e w' ⟨rfl,rfl⟩)
 go_upto_region 7 with fail
 obtain ⟨v,hv⟩:=Qe (w.alloc (.cells (Array.replicate n (.int .i64 0)) 3));rw [← hv];have E : Qc w v:=by rw [hv];exact (Qc.refl _).alloc _
 have HG0 : Qb v w.heap.size 3 (Jm n 0).toArray:=by
  rw [hv];have h:=Qb.new w 3 (Array.replicate n (.int .i64 0))
  have e : (Jm n 0).toArray = Array.replicate n (.int .i64 0):=by
   apply Array.ext';simp [Jm]
  rw [e];exact h
 have hxv:=(E.cell (p:=⟨bx,0,none⟩) hbx).trans hx;clear hv hmk NM hx;obtain ⟨g,hg⟩:=Qe (w.heap.size);rw [← hg] at HG0 ⊢;have hbg : w.heap.size ≤ g:=Nat.le_of_eq hg.symm;clear hg;obtain ⟨m1,hm1⟩:=Qe (Nat.min 1 n)
 have hs1 : splice (Jm n 0) 0 (List.replicate m1 (.int .i64 (-1))) = Jm n m1:=by
  rw [hm1];by_cases h0 : n = 0
  ·subst h0;rfl
  ·rw [show Nat.min 1 n = 1 from Nat.min_eq_left Qa];obtain ⟨k,rfl⟩ : ∃ k,n = k + 1:=⟨n - 1,Qa⟩;simp [splice,Jm,List.replicate_succ]
 have hsrc1 : ∀ j : Nat,j < m1 → v.cell? ((⟨bx,0,none⟩ : Addr).add j) = some (.int .i64 (-1)):=fun j hj => by
  have hj0 : j = 0:=by
   have : m1 ≤ 1:=by rw [hm1];exact Nat.min_le_left _ _
   omega
  subst hj0;rw [Addr.add_lit];exact hxv
 have hm1n : m1 ≤ n:=by rw [hm1];exact Nat.min_le_right _ _
 have hm1p : 0 < n → 1 ≤ m1:=fun h => by rw [hm1];exact Nat.le_min.2 ⟨Nat.le_refl _,h⟩
 replace hm1:=zh hm1;replace hs1:=zh hs1;replace hm1p:=zh hm1p;have hcp:=Sv (sc:=1) HG0 (Nat.zero_le _) (Nat.sub_zero n).symm hm1.out (fun j hj => hsrc1 j hj) (by rw [Nat.zero_add];exact hs1.out);rw [Nat.zero_add] at hcp;go_upto_region 8 with fail
 have HG2:=setRow_heap v g _ (Jm n m1).toArray 3 _ HG0;have E2 : Qc w (v.setRow g (Jm n m1).toArray):=below_setRow E hbg _;generalize v.setRow g (Jm n m1).toArray = w2 at *;replace HG2 : Qb w2 g 3 (Jm n m1).toArray:=HG2;clear hcp HG0 hs1 hsrc1 hxv E
 go_loopw [8] (fun iv wr => ∃ q : Nat,q ≤ n ∧ Hid (0 < n → 1 ≤ q) ∧ iv = .int .i64 q ∧ Qb wr g 3 (Jm n q).toArray ∧ Qc w wr) (fun iv _ => n - (intOf iv).toNat)
 case atStart => exact ⟨m1,hm1n,hm1p,rfl,HG2,E2⟩
 case round =>
  clear HG2 E2 hm1n hm1p hm1;obtain ⟨q,hq,hq1,rfl,HG,hE⟩:=hrel;obtain ⟨wo,rfl⟩:=Qe wr;by_cases hlt : q < n
  ·have h1q := hq1.out Qa;obtain ⟨m, hm⟩ := Qe (Nat.min q (n - q));have hmq : m ≤ q := by rw [hm]; exact Nat.min_le_left _ _
   have hmn : m ≤ n - q:=by rw [hm];exact Nat.min_le_right _ _
   have hm1' : 1 ≤ m:=by rw [hm];exact Nat.le_min.2 ⟨h1q,Qa⟩
   have hs2 : Hid (splice (Jm n q) q (List.replicate m (.int .i64 (-1))) = Jm n (q + m)):=by rw [hm];exact Qio n q
   replace hm:=zh hm;have hsl1:=fun w => Qnk g n q hlt w
   have hsl2:=fun w => sl_to g n q hq Qa w
   have hsub : ((n - q : Nat) : Int) = (n : Int) - q:=Qa;go_upto_region 9 with fail
   refine Zc 10 [0,1,2,4,5,7,8,9] (fun x => Qc wo x) mixed rfl ?_;intro vz hvz;have HC:=hvz;refine Yg (g:=5) [0,1,2,4,5] ?_
   constructor
   refine ⟨fun u hu => ?_,?_⟩
   ·exact Qk
   refine Zq 3 6 ?_ ?_
   ·go_wp2;refine Qf HC ?_;refine Qj 6 ?_;go_wp2;refine Qf HC ?_;refine Qr 7 ?_;have HGz:=Qb.ext HG HC
    have hcp:=Sv (sc:=n) HGz hq rfl hm.out (fun j hj => by
     rw [Addr.add_lit,Nat.zero_add,HGz.cell j];exact I5 Qa) hs2.out
    have HG3:=setRow_heap _ g _ (Jm n (q + m)).toArray 3 _ HGz;have E3 : Qc w _:=below_setRow (hE.trans HC) hbg (Jm n (q + m)).toArray;go_wp2;generalize World.setRow _ _ _ = w3 at *;refine Qq ?_;refine Yg (g:=1) [8] ?_
    constructor
    refine ⟨fun u hu => ?_,?_⟩
    ·exact Qk
    refine Qr 9 ?_;go_wp2;refine Qq ?_;refine Qx ?_;replace HG3 : Qb w3 g 3 (Jm n (q + m)).toArray:=HG3;clear HG hs2 hsl1 hsl2;go_wp2;exact ⟨⟨q + m,Qa,fun _ => by omega,by go_num,HG3,E3⟩,zi⟩
   ·go_wp2;refine Qf HC ?_;refine Qj 3 ?_;go_wp2;refine Qf HC ?_;refine Qr 7 ?_;have HGz:=Qb.ext HG HC
    have hcp:=Sv (sc:=n) HGz hq rfl hm.out (fun j hj => by
     rw [Addr.add_lit,Nat.zero_add,HGz.cell j];exact I5 Qa) hs2.out
    have HG3:=setRow_heap _ g _ (Jm n (q + m)).toArray 3 _ HGz;have E3 : Qc w _:=below_setRow (hE.trans HC) hbg (Jm n (q + m)).toArray;go_wp2;generalize World.setRow _ _ _ = w3 at *;refine Qq ?_;refine Yg (g:=1) [8] ?_
    constructor
    refine ⟨fun u hu => ?_,?_⟩
    ·exact Qk
    refine Qr 9 ?_;go_wp2;refine Qq ?_;refine Qx ?_;replace HG3 : Qb w3 g 3 (Jm n (q + m)).toArray:=HG3;clear HG hs2 hsl1 hsl2;go_wp2;exact ⟨⟨q + m,Qa,fun _ => by omega,by go_num,HG3,E3⟩,zi⟩
  ·obtain rfl : q = n:=Qa;go_wp2;go_ret;refine ⟨_,_,g,rfl,hE,hbg,fun _ => rfl,fun _ => ⟨_,HG,by simp [Jm],fun k hk => ?_⟩⟩;simp [Jm,hk]
set_option maxHeartbeats 400000000 in
theorem Qlk {adj : Nat → List Nat} (Vo Vi : OA) (no ni co ci : Nat) (vy : Value) (w : World) (hadj : ∀ o,∀ k ∈ adj o,k < ni) (hY : Nw w vy no adj) (hno : no ≤ 1000000) (hni : ni ≤ 1000000) :
  Calls Tryz.prog 80 #[.slice Vo no co,.slice Vi ni ci,vy] w fun e w' => ∃ bm bs O I X cO cI cX bo bi bf,e = .returned (.pointer (some ⟨bs,0,none⟩)) ∧ w.heap.size ≤ bs ∧ MS w w' bm bs (.slice Vo no co) (.slice Vi ni ci) vy O I X no ni cO cI cX bo bi bf (Zt adj ni (fun _ => false) no 0 Jg).1 (fun _ => false):=by
 obtain ⟨Y,cY,vs,rfl,hYr,hYi⟩:=id hY;clear hYr hYi;have hmkb:=fun w => Fu ni hni w
 obtain ⟨R,hR⟩:=Qe ((Zt adj ni (fun _ => false) no 0 Jg).1);rw [← hR];replace hR : Hid ((Zt adj ni (fun _ => false) (no - 0) 0 Jg).1 = R):=zh hR.symm
 go_enter Tryz.func80,Tryz.ntmps80
 go_upto_region 1 with fail
 apply Qo2 (S:=fun w' O cO I cI bo bi bf bs bm b1 b2 => Qc w w' ∧ (Qb w' bm 166 #[.pointer (some ⟨bs,0,none⟩)] ∧ Qb w' bs 213 #[.slice Vo no co,.slice Vi ni ci,.slice Y no cY,.slice O no cO,.slice I ni cI,.slice (some ⟨bf,0,none⟩) ni ni,.nilFunc]) ∧ Qw w' 3 O no bo (fun _ => .int .i64 (-1)) ∧ Qw w' 3 I ni bi (fun _ => .int .i64 (-1)) ∧ Qw w' 4 (some ⟨bf,0,none⟩) ni bf (fun _ => .bool false) ∧ (0 < no → 0 < ni → bo ≠ bi) ∧ w.heap.size ≤ bo ∧ w.heap.size ≤ bi ∧ w.heap.size ≤ bf ∧ w.heap.size ≤ bs ∧ w.heap.size ≤ bm)
 ·refine Zc 18 [17] (fun x => Qc w x) mixed rfl ?_;intro vz hvz;have HC:=hvz;have mz0:=trivial
  all_goals try
   (clear mz0
    refine Qs (g:=9) [0,1,2,4,5,8,9,11,12] HC ?_
    constructor
    refine ⟨fun u hu => ?_,?_⟩
    ·exact Qk
    have mz1:=trivial)
  all_goals try
   (clear mz1
    refine Qe1 3 7 13 16 rfl rfl rfl rfl zK ?_ ?_ ?_ ?_
    focus
     simp only [Zg,Zh,Zi];go_wp2;obtain ⟨b1,wb,hbq,hwb,HX1,HC',hx,gp_b1⟩:=Ql HC 3 #[(.int .i64 (-1))];rw [← hbq,← hwb];replace HC:=HC';clear hbq hwb hx HC' gp_b1;have mz2:=trivial;refine Qf HC ?_
    rotate_left
    focus
     simp only [Zg,Zh,Zi];go_wp2;obtain ⟨b2,wb,hbq,hwb,HX2,HC',hx,gp_b2⟩:=Ql HC 3 #[(.int .i64 (-1))];rw [← hbq,← hwb];replace HC:=HC';clear hbq hwb hx HC' gp_b2;have mz3:=trivial;refine Qf HC ?_
    rotate_left
    focus
     simp only [Zg,Zh,Zi];go_wp2;obtain ⟨bf,wb,hbq,hwb,HF,HC',hx,gp_bf⟩:=Ql HC 4 (Array.replicate ni (.bool false));rw [← hbq,← hwb];have AF : Qw wb 4 (some ⟨bf,0,none⟩) ni bf (fun _ => .bool false):=⟨fun _ => rfl,fun _ => ⟨_,HF,by simp,fun k hk => by simp [hk]⟩⟩;replace HC:=HC';clear hbq hwb hx HC' HF;have mz4:=trivial;refine Qf HC ?_
    rotate_left
    focus
     simp only [Zg,Zh,Zi];go_wp2;obtain ⟨bm,wb,hbq,hwb,HM,HC',hx,gp_bm⟩:=Ql HC 166 #[.pointer none];rw [← hbq,← hwb];replace HC:=HC';clear hbq hwb hx HC';have mz5:=trivial;refine Qf HC ?_
    rotate_left)
  all_goals try
   (clear mz2
    refine Qe1 6 7 13 16 rfl rfl rfl rfl zK ?_ ?_ ?_ ?_
    focus
     simp only [Zg,Zh,Zi];have hz:=HC.size;go_wp2_with (go_at_call 126;refine zc (Ui no b1 _ HX1.c1 HX1.lt hno) ?_;rintro e wc ⟨O,cO,bo,rfl,hj,hl_bo,AO⟩);try replace HX1:=HX1.ext hj
     replace HC:=HC.trans hj;replace hl_bo:=Nat.le_trans hz hl_bo;clear hj hz HX1;have mz6:=trivial;refine Qf HC ?_
    rotate_left
    focus
     simp only [Zg,Zh,Zi];go_wp2;obtain ⟨b2,wb,hbq,hwb,HX2,HC',hx,gp_b2⟩:=Ql HC 3 #[(.int .i64 (-1))];rw [← hbq,← hwb];replace HC:=HC';try replace HX1:=HX1.ext hx
     clear hbq hwb hx HC' gp_b2;have mz7:=trivial;refine Qf HC ?_
    rotate_left
    focus
     simp only [Zg,Zh,Zi];go_wp2;obtain ⟨bf,wb,hbq,hwb,HF,HC',hx,gp_bf⟩:=Ql HC 4 (Array.replicate ni (.bool false));rw [← hbq,← hwb];have AF : Qw wb 4 (some ⟨bf,0,none⟩) ni bf (fun _ => .bool false):=⟨fun _ => rfl,fun _ => ⟨_,HF,by simp,fun k hk => by simp [hk]⟩⟩;replace HC:=HC';try replace HX1:=HX1.ext hx
     clear hbq hwb hx HC' HF;have mz8:=trivial;refine Qf HC ?_
    rotate_left
    focus
     simp only [Zg,Zh,Zi];go_wp2;obtain ⟨bm,wb,hbq,hwb,HM,HC',hx,gp_bm⟩:=Ql HC 166 #[.pointer none];rw [← hbq,← hwb];replace HC:=HC';try replace HX1:=HX1.ext hx
     clear hbq hwb hx HC';have mz9:=trivial;refine Qf HC ?_
    rotate_left)
  all_goals try
   (clear mz3
    refine Um 3 13 16 ?_ ?_ ?_
    focus
     go_wp2;obtain ⟨b1,wb,hbq,hwb,HX1,HC',hx,gp_b1⟩:=Ql HC 3 #[(.int .i64 (-1))];rw [← hbq,← hwb];replace HC:=HC';try replace HX2:=HX2.ext hx
     clear hbq hwb hx HC' gp_b1;have mz7:=trivial;refine Qf HC ?_
    rotate_left
    focus
     go_wp2;obtain ⟨bf,wb,hbq,hwb,HF,HC',hx,gp_bf⟩:=Ql HC 4 (Array.replicate ni (.bool false));rw [← hbq,← hwb];have AF : Qw wb 4 (some ⟨bf,0,none⟩) ni bf (fun _ => .bool false):=⟨fun _ => rfl,fun _ => ⟨_,HF,by simp,fun k hk => by simp [hk]⟩⟩;replace HC:=HC';try replace HX2:=HX2.ext hx
     clear hbq hwb hx HC' HF;have mz10:=trivial;refine Qf HC ?_
    rotate_left
    focus
     go_wp2;obtain ⟨bm,wb,hbq,hwb,HM,HC',hx,gp_bm⟩:=Ql HC 166 #[.pointer none];rw [← hbq,← hwb];replace HC:=HC';try replace HX2:=HX2.ext hx
     clear hbq hwb hx HC';have mz11:=trivial;refine Qf HC ?_
    rotate_left)
  all_goals try
   (clear mz4
    refine Um 3 7 16 ?_ ?_ ?_
    focus
     go_wp2;obtain ⟨b1,wb,hbq,hwb,HX1,HC',hx,gp_b1⟩:=Ql HC 3 #[(.int .i64 (-1))];rw [← hbq,← hwb];replace HC:=HC';try replace AF:=AF.ext hx
     clear hbq hwb hx HC' gp_b1;have mz8:=trivial;refine Qf HC ?_
    rotate_left
    focus
     go_wp2;obtain ⟨b2,wb,hbq,hwb,HX2,HC',hx,gp_b2⟩:=Ql HC 3 #[(.int .i64 (-1))];rw [← hbq,← hwb];replace HC:=HC';try replace AF:=AF.ext hx
     clear hbq hwb hx HC' gp_b2;have mz10:=trivial;refine Qf HC ?_
    rotate_left
    focus
     go_wp2;obtain ⟨bm,wb,hbq,hwb,HM,HC',hx,gp_bm⟩:=Ql HC 166 #[.pointer none];rw [← hbq,← hwb];replace HC:=HC';try replace AF:=AF.ext hx
     clear hbq hwb hx HC';have mz12:=trivial;refine Qf HC ?_
    rotate_left)
  all_goals try
   (clear mz5
    refine Um 3 7 13 ?_ ?_ ?_
    focus
     go_wp2;obtain ⟨b1,wb,hbq,hwb,HX1,HC',hx,gp_b1⟩:=Ql HC 3 #[(.int .i64 (-1))];rw [← hbq,← hwb];replace HC:=HC';try replace HM:=HM.ext hx
     clear hbq hwb hx HC' gp_b1;have mz9:=trivial;refine Qf HC ?_
    rotate_left
    focus
     go_wp2;obtain ⟨b2,wb,hbq,hwb,HX2,HC',hx,gp_b2⟩:=Ql HC 3 #[(.int .i64 (-1))];rw [← hbq,← hwb];replace HC:=HC';try replace HM:=HM.ext hx
     clear hbq hwb hx HC' gp_b2;have mz11:=trivial;refine Qf HC ?_
    rotate_left
    focus
     go_wp2;obtain ⟨bf,wb,hbq,hwb,HF,HC',hx,gp_bf⟩:=Ql HC 4 (Array.replicate ni (.bool false));rw [← hbq,← hwb];have AF : Qw wb 4 (some ⟨bf,0,none⟩) ni bf (fun _ => .bool false):=⟨fun _ => rfl,fun _ => ⟨_,HF,by simp,fun k hk => by simp [hk]⟩⟩;replace HC:=HC';try replace HM:=HM.ext hx
     clear hbq hwb hx HC' HF;have mz12:=trivial;refine Qf HC ?_
    rotate_left)
  all_goals try
   (clear mz6
    refine Um 7 13 16 ?_ ?_ ?_
    focus
     go_wp2;obtain ⟨b2,wb,hbq,hwb,HX2,HC',hx,gp_b2⟩:=Ql HC 3 #[(.int .i64 (-1))];rw [← hbq,← hwb];replace HC:=HC';try replace HX1:=HX1.ext hx
     try replace AO:=AO.ext hx
     clear hbq hwb hx HC' gp_b2;have mz13:=trivial;refine Qf HC ?_
    rotate_left
    focus
     go_wp2;obtain ⟨bf,wb,hbq,hwb,HF,HC',hx,gp_bf⟩:=Ql HC 4 (Array.replicate ni (.bool false));rw [← hbq,← hwb];have AF : Qw wb 4 (some ⟨bf,0,none⟩) ni bf (fun _ => .bool false):=⟨fun _ => rfl,fun _ => ⟨_,HF,by simp,fun k hk => by simp [hk]⟩⟩;replace HC:=HC';try replace HX1:=HX1.ext hx
     try replace AO:=AO.ext hx
     clear hbq hwb hx HC' HF;have mz14:=trivial;refine Qf HC ?_
    rotate_left
    focus
     go_wp2;obtain ⟨bm,wb,hbq,hwb,HM,HC',hx,gp_bm⟩:=Ql HC 166 #[.pointer none];rw [← hbq,← hwb];replace HC:=HC';try replace HX1:=HX1.ext hx
     try replace AO:=AO.ext hx
     clear hbq hwb hx HC';have mz15:=trivial;refine Qf HC ?_
    rotate_left)
  all_goals try
   (clear mz7
    refine Um 6 13 16 ?_ ?_ ?_
    focus
     have hz:=HC.size;go_wp2_with (go_at_call 126;refine zc (Ui no b1 _ HX1.c1 HX1.lt hno) ?_;rintro e wc ⟨O,cO,bo,rfl,hj,hl_bo,AO⟩);try replace HX1:=HX1.ext hj
     try replace HX2:=HX2.ext hj
     replace HC:=HC.trans hj;replace hl_bo:=Nat.le_trans hz hl_bo;clear hj hz HX1;have mz13:=trivial;refine Qf HC ?_
    rotate_left
    focus
     go_wp2;obtain ⟨bf,wb,hbq,hwb,HF,HC',hx,gp_bf⟩:=Ql HC 4 (Array.replicate ni (.bool false));rw [← hbq,← hwb];have AF : Qw wb 4 (some ⟨bf,0,none⟩) ni bf (fun _ => .bool false):=⟨fun _ => rfl,fun _ => ⟨_,HF,by simp,fun k hk => by simp [hk]⟩⟩;replace HC:=HC';try replace HX1:=HX1.ext hx
     try replace HX2:=HX2.ext hx
     clear hbq hwb hx HC' HF;have mz16:=trivial;refine Qf HC ?_
    rotate_left
    focus
     go_wp2;obtain ⟨bm,wb,hbq,hwb,HM,HC',hx,gp_bm⟩:=Ql HC 166 #[.pointer none];rw [← hbq,← hwb];replace HC:=HC';try replace HX1:=HX1.ext hx
     try replace HX2:=HX2.ext hx
     clear hbq hwb hx HC';have mz17:=trivial;refine Qf HC ?_
    rotate_left)
  all_goals try
   (clear mz8
    refine Um 6 7 16 ?_ ?_ ?_
    focus
     have hz:=HC.size;go_wp2_with (go_at_call 126;refine zc (Ui no b1 _ HX1.c1 HX1.lt hno) ?_;rintro e wc ⟨O,cO,bo,rfl,hj,hl_bo,AO⟩);try replace HX1:=HX1.ext hj
     try replace AF:=AF.ext hj
     replace HC:=HC.trans hj;replace hl_bo:=Nat.le_trans hz hl_bo;clear hj hz HX1;have mz14:=trivial;refine Qf HC ?_
    rotate_left
    focus
     go_wp2;obtain ⟨b2,wb,hbq,hwb,HX2,HC',hx,gp_b2⟩:=Ql HC 3 #[(.int .i64 (-1))];rw [← hbq,← hwb];replace HC:=HC';try replace HX1:=HX1.ext hx
     try replace AF:=AF.ext hx
     clear hbq hwb hx HC' gp_b2;have mz16:=trivial;refine Qf HC ?_
    rotate_left
    focus
     go_wp2;obtain ⟨bm,wb,hbq,hwb,HM,HC',hx,gp_bm⟩:=Ql HC 166 #[.pointer none];rw [← hbq,← hwb];replace HC:=HC';try replace HX1:=HX1.ext hx
     try replace AF:=AF.ext hx
     clear hbq hwb hx HC';have mz18:=trivial;refine Qf HC ?_
    rotate_left)
  all_goals try
   (clear mz9
    refine Um 6 7 13 ?_ ?_ ?_
    focus
     have hz:=HC.size;go_wp2_with (go_at_call 126;refine zc (Ui no b1 _ HX1.c1 HX1.lt hno) ?_;rintro e wc ⟨O,cO,bo,rfl,hj,hl_bo,AO⟩);try replace HX1:=HX1.ext hj
     try replace HM:=HM.ext hj
     replace HC:=HC.trans hj;replace hl_bo:=Nat.le_trans hz hl_bo;clear hj hz HX1;have mz15:=trivial;refine Qf HC ?_
    rotate_left
    focus
     go_wp2;obtain ⟨b2,wb,hbq,hwb,HX2,HC',hx,gp_b2⟩:=Ql HC 3 #[(.int .i64 (-1))];rw [← hbq,← hwb];replace HC:=HC';try replace HX1:=HX1.ext hx
     try replace HM:=HM.ext hx
     clear hbq hwb hx HC' gp_b2;have mz17:=trivial;refine Qf HC ?_
    rotate_left
    focus
     go_wp2;obtain ⟨bf,wb,hbq,hwb,HF,HC',hx,gp_bf⟩:=Ql HC 4 (Array.replicate ni (.bool false));rw [← hbq,← hwb];have AF : Qw wb 4 (some ⟨bf,0,none⟩) ni bf (fun _ => .bool false):=⟨fun _ => rfl,fun _ => ⟨_,HF,by simp,fun k hk => by simp [hk]⟩⟩;replace HC:=HC';try replace HX1:=HX1.ext hx
     try replace HM:=HM.ext hx
     clear hbq hwb hx HC' HF;have mz18:=trivial;refine Qf HC ?_
    rotate_left)
  all_goals try
   (clear mz10
    refine Zq 3 16 ?_ ?_
    focus
     go_wp2;obtain ⟨b1,wb,hbq,hwb,HX1,HC',hx,gp_b1⟩:=Ql HC 3 #[(.int .i64 (-1))];rw [← hbq,← hwb];replace HC:=HC';try replace HX2:=HX2.ext hx
     try replace AF:=AF.ext hx
     clear hbq hwb hx HC' gp_b1;have mz16:=trivial;refine Qf HC ?_
    rotate_left
    focus
     go_wp2;obtain ⟨bm,wb,hbq,hwb,HM,HC',hx,gp_bm⟩:=Ql HC 166 #[.pointer none];rw [← hbq,← hwb];replace HC:=HC';try replace HX2:=HX2.ext hx
     try replace AF:=AF.ext hx
     clear hbq hwb hx HC';have mz19:=trivial;refine Qf HC ?_
    rotate_left)
  all_goals try
   (clear mz11
    refine Zq 3 13 ?_ ?_
    focus
     go_wp2;obtain ⟨b1,wb,hbq,hwb,HX1,HC',hx,gp_b1⟩:=Ql HC 3 #[(.int .i64 (-1))];rw [← hbq,← hwb];replace HC:=HC';try replace HX2:=HX2.ext hx
     try replace HM:=HM.ext hx
     clear hbq hwb hx HC' gp_b1;have mz17:=trivial;refine Qf HC ?_
    rotate_left
    focus
     go_wp2;obtain ⟨bf,wb,hbq,hwb,HF,HC',hx,gp_bf⟩:=Ql HC 4 (Array.replicate ni (.bool false));rw [← hbq,← hwb];have AF : Qw wb 4 (some ⟨bf,0,none⟩) ni bf (fun _ => .bool false):=⟨fun _ => rfl,fun _ => ⟨_,HF,by simp,fun k hk => by simp [hk]⟩⟩;replace HC:=HC';try replace HX2:=HX2.ext hx
     try replace HM:=HM.ext hx
     clear hbq hwb hx HC' HF;have mz19:=trivial;refine Qf HC ?_
    rotate_left)
  all_goals try
   (clear mz12
    refine Zq 3 7 ?_ ?_
    focus
     go_wp2;obtain ⟨b1,wb,hbq,hwb,HX1,HC',hx,gp_b1⟩:=Ql HC 3 #[(.int .i64 (-1))];rw [← hbq,← hwb];replace HC:=HC';try replace AF:=AF.ext hx
     try replace HM:=HM.ext hx
     clear hbq hwb hx HC' gp_b1;have mz18:=trivial;refine Qf HC ?_
    rotate_left
    focus
     go_wp2;obtain ⟨b2,wb,hbq,hwb,HX2,HC',hx,gp_b2⟩:=Ql HC 3 #[(.int .i64 (-1))];rw [← hbq,← hwb];replace HC:=HC';try replace AF:=AF.ext hx
     try replace HM:=HM.ext hx
     clear hbq hwb hx HC' gp_b2;have mz19:=trivial;refine Qf HC ?_
    rotate_left)
  all_goals try
   (clear mz13
    refine Um 10 13 16 ?_ ?_ ?_
    focus
     have hz:=HC.size;go_wp2_with (go_at_call 126;refine zc (Ui ni b2 _ HX2.c1 HX2.lt hni) ?_;rintro e wc ⟨I,cI,bi,rfl,hj,hl_bi,AI⟩);have hne : 0 < no → 0 < ni → bo ≠ bi:=fun h _ => by have:=AO.lt h;omega
     try replace HX1:=HX1.ext hj
     try replace HX2:=HX2.ext hj
     try replace AO:=AO.ext hj
     replace HC:=HC.trans hj;replace hl_bi:=Nat.le_trans hz hl_bi;clear hj hz HX2;have mz20:=trivial;refine Qf HC ?_
    rotate_left
    focus
     go_wp2;obtain ⟨bf,wb,hbq,hwb,HF,HC',hx,gp_bf⟩:=Ql HC 4 (Array.replicate ni (.bool false));rw [← hbq,← hwb];have AF : Qw wb 4 (some ⟨bf,0,none⟩) ni bf (fun _ => .bool false):=⟨fun _ => rfl,fun _ => ⟨_,HF,by simp,fun k hk => by simp [hk]⟩⟩;replace HC:=HC';try replace HX1:=HX1.ext hx
     try replace HX2:=HX2.ext hx
     try replace AO:=AO.ext hx
     clear hbq hwb hx HC' HF;have mz21:=trivial;refine Qf HC ?_
    rotate_left
    focus
     go_wp2;obtain ⟨bm,wb,hbq,hwb,HM,HC',hx,gp_bm⟩:=Ql HC 166 #[.pointer none];rw [← hbq,← hwb];replace HC:=HC';try replace HX1:=HX1.ext hx
     try replace HX2:=HX2.ext hx
     try replace AO:=AO.ext hx
     clear hbq hwb hx HC';have mz22:=trivial;refine Qf HC ?_
    rotate_left)
  all_goals try
   (clear mz14
    refine Zq 7 16 ?_ ?_
    focus
     go_wp2;obtain ⟨b2,wb,hbq,hwb,HX2,HC',hx,gp_b2⟩:=Ql HC 3 #[(.int .i64 (-1))];rw [← hbq,← hwb];replace HC:=HC';try replace HX1:=HX1.ext hx
     try replace AO:=AO.ext hx
     try replace AF:=AF.ext hx
     clear hbq hwb hx HC' gp_b2;have mz21:=trivial;refine Qf HC ?_
    rotate_left
    focus
     go_wp2;obtain ⟨bm,wb,hbq,hwb,HM,HC',hx,gp_bm⟩:=Ql HC 166 #[.pointer none];rw [← hbq,← hwb];replace HC:=HC';try replace HX1:=HX1.ext hx
     try replace AO:=AO.ext hx
     try replace AF:=AF.ext hx
     clear hbq hwb hx HC';have mz23:=trivial;refine Qf HC ?_
    rotate_left)
  all_goals try
   (clear mz15
    refine Zq 7 13 ?_ ?_
    focus
     go_wp2;obtain ⟨b2,wb,hbq,hwb,HX2,HC',hx,gp_b2⟩:=Ql HC 3 #[(.int .i64 (-1))];rw [← hbq,← hwb];replace HC:=HC';try replace HX1:=HX1.ext hx
     try replace AO:=AO.ext hx
     try replace HM:=HM.ext hx
     clear hbq hwb hx HC' gp_b2;have mz22:=trivial;refine Qf HC ?_
    rotate_left
    focus
     go_wp2;obtain ⟨bf,wb,hbq,hwb,HF,HC',hx,gp_bf⟩:=Ql HC 4 (Array.replicate ni (.bool false));rw [← hbq,← hwb];have AF : Qw wb 4 (some ⟨bf,0,none⟩) ni bf (fun _ => .bool false):=⟨fun _ => rfl,fun _ => ⟨_,HF,by simp,fun k hk => by simp [hk]⟩⟩;replace HC:=HC';try replace HX1:=HX1.ext hx
     try replace AO:=AO.ext hx
     try replace HM:=HM.ext hx
     clear hbq hwb hx HC' HF;have mz23:=trivial;refine Qf HC ?_
    rotate_left)
  all_goals try
   (clear mz16
    refine Zq 6 16 ?_ ?_
    focus
     have hz:=HC.size;go_wp2_with (go_at_call 126;refine zc (Ui no b1 _ HX1.c1 HX1.lt hno) ?_;rintro e wc ⟨O,cO,bo,rfl,hj,hl_bo,AO⟩);try replace HX1:=HX1.ext hj
     try replace HX2:=HX2.ext hj
     try replace AF:=AF.ext hj
     replace HC:=HC.trans hj;replace hl_bo:=Nat.le_trans hz hl_bo;clear hj hz HX1;have mz21:=trivial;refine Qf HC ?_
    rotate_left
    focus
     go_wp2;obtain ⟨bm,wb,hbq,hwb,HM,HC',hx,gp_bm⟩:=Ql HC 166 #[.pointer none];rw [← hbq,← hwb];replace HC:=HC';try replace HX1:=HX1.ext hx
     try replace HX2:=HX2.ext hx
     try replace AF:=AF.ext hx
     clear hbq hwb hx HC';have mz24:=trivial;refine Qf HC ?_
    rotate_left)
  all_goals try
   (clear mz17
    refine Zq 6 13 ?_ ?_
    focus
     have hz:=HC.size;go_wp2_with (go_at_call 126;refine zc (Ui no b1 _ HX1.c1 HX1.lt hno) ?_;rintro e wc ⟨O,cO,bo,rfl,hj,hl_bo,AO⟩);try replace HX1:=HX1.ext hj
     try replace HX2:=HX2.ext hj
     try replace HM:=HM.ext hj
     replace HC:=HC.trans hj;replace hl_bo:=Nat.le_trans hz hl_bo;clear hj hz HX1;have mz22:=trivial;refine Qf HC ?_
    rotate_left
    focus
     go_wp2;obtain ⟨bf,wb,hbq,hwb,HF,HC',hx,gp_bf⟩:=Ql HC 4 (Array.replicate ni (.bool false));rw [← hbq,← hwb];have AF : Qw wb 4 (some ⟨bf,0,none⟩) ni bf (fun _ => .bool false):=⟨fun _ => rfl,fun _ => ⟨_,HF,by simp,fun k hk => by simp [hk]⟩⟩;replace HC:=HC';try replace HX1:=HX1.ext hx
     try replace HX2:=HX2.ext hx
     try replace HM:=HM.ext hx
     clear hbq hwb hx HC' HF;have mz24:=trivial;refine Qf HC ?_
    rotate_left)
  all_goals try
   (clear mz18
    refine Zq 6 7 ?_ ?_
    focus
     have hz:=HC.size;go_wp2_with (go_at_call 126;refine zc (Ui no b1 _ HX1.c1 HX1.lt hno) ?_;rintro e wc ⟨O,cO,bo,rfl,hj,hl_bo,AO⟩);try replace HX1:=HX1.ext hj
     try replace AF:=AF.ext hj
     try replace HM:=HM.ext hj
     replace HC:=HC.trans hj;replace hl_bo:=Nat.le_trans hz hl_bo;clear hj hz HX1;have mz23:=trivial;refine Qf HC ?_
    rotate_left
    focus
     go_wp2;obtain ⟨b2,wb,hbq,hwb,HX2,HC',hx,gp_b2⟩:=Ql HC 3 #[(.int .i64 (-1))];rw [← hbq,← hwb];replace HC:=HC';try replace HX1:=HX1.ext hx
     try replace AF:=AF.ext hx
     try replace HM:=HM.ext hx
     clear hbq hwb hx HC' gp_b2;have mz24:=trivial;refine Qf HC ?_
    rotate_left)
  all_goals try
   (clear mz19
    refine Qj 3 ?_;go_wp2;obtain ⟨b1,wb,hbq,hwb,HX1,HC',hx,gp_b1⟩:=Ql HC 3 #[(.int .i64 (-1))];rw [← hbq,← hwb];replace HC:=HC';try replace HX2:=HX2.ext hx
    try replace AF:=AF.ext hx
    try replace HM:=HM.ext hx
    clear hbq hwb hx HC' gp_b1;have mz24:=trivial;refine Qf HC ?_)
  all_goals try
   (clear mz20
    refine Zq 13 16 ?_ ?_
    focus
     go_wp2;obtain ⟨bf,wb,hbq,hwb,HF,HC',hx,gp_bf⟩:=Ql HC 4 (Array.replicate ni (.bool false));rw [← hbq,← hwb];have AF : Qw wb 4 (some ⟨bf,0,none⟩) ni bf (fun _ => .bool false):=⟨fun _ => rfl,fun _ => ⟨_,HF,by simp,fun k hk => by simp [hk]⟩⟩;replace HC:=HC';try replace HX1:=HX1.ext hx
     try replace HX2:=HX2.ext hx
     try replace AO:=AO.ext hx
     try replace AI:=AI.ext hx
     clear hbq hwb hx HC' HF;have mz25:=trivial;refine Qf HC ?_
    rotate_left
    focus
     go_wp2;obtain ⟨bm,wb,hbq,hwb,HM,HC',hx,gp_bm⟩:=Ql HC 166 #[.pointer none];rw [← hbq,← hwb];replace HC:=HC';try replace HX1:=HX1.ext hx
     try replace HX2:=HX2.ext hx
     try replace AO:=AO.ext hx
     try replace AI:=AI.ext hx
     clear hbq hwb hx HC';have mz26:=trivial;refine Qf HC ?_
    rotate_left)
  all_goals try
   (clear mz21
    refine Zq 10 16 ?_ ?_
    focus
     have hz:=HC.size;go_wp2_with (go_at_call 126;refine zc (Ui ni b2 _ HX2.c1 HX2.lt hni) ?_;rintro e wc ⟨I,cI,bi,rfl,hj,hl_bi,AI⟩);have hne : 0 < no → 0 < ni → bo ≠ bi:=fun h _ => by have:=AO.lt h;omega
     try replace HX1:=HX1.ext hj
     try replace HX2:=HX2.ext hj
     try replace AO:=AO.ext hj
     try replace AF:=AF.ext hj
     replace HC:=HC.trans hj;replace hl_bi:=Nat.le_trans hz hl_bi;clear hj hz HX2;have mz25:=trivial;refine Qf HC ?_
    rotate_left
    focus
     go_wp2;obtain ⟨bm,wb,hbq,hwb,HM,HC',hx,gp_bm⟩:=Ql HC 166 #[.pointer none];rw [← hbq,← hwb];replace HC:=HC';try replace HX1:=HX1.ext hx
     try replace HX2:=HX2.ext hx
     try replace AO:=AO.ext hx
     try replace AF:=AF.ext hx
     clear hbq hwb hx HC';have mz27:=trivial;refine Qf HC ?_
    rotate_left)
  all_goals try
   (clear mz22
    refine Zq 10 13 ?_ ?_
    focus
     have hz:=HC.size;go_wp2_with (go_at_call 126;refine zc (Ui ni b2 _ HX2.c1 HX2.lt hni) ?_;rintro e wc ⟨I,cI,bi,rfl,hj,hl_bi,AI⟩);have hne : 0 < no → 0 < ni → bo ≠ bi:=fun h _ => by have:=AO.lt h;omega
     try replace HX1:=HX1.ext hj
     try replace HX2:=HX2.ext hj
     try replace AO:=AO.ext hj
     try replace HM:=HM.ext hj
     replace HC:=HC.trans hj;replace hl_bi:=Nat.le_trans hz hl_bi;clear hj hz HX2;have mz26:=trivial;refine Qf HC ?_
    rotate_left
    focus
     go_wp2;obtain ⟨bf,wb,hbq,hwb,HF,HC',hx,gp_bf⟩:=Ql HC 4 (Array.replicate ni (.bool false));rw [← hbq,← hwb];have AF : Qw wb 4 (some ⟨bf,0,none⟩) ni bf (fun _ => .bool false):=⟨fun _ => rfl,fun _ => ⟨_,HF,by simp,fun k hk => by simp [hk]⟩⟩;replace HC:=HC';try replace HX1:=HX1.ext hx
     try replace HX2:=HX2.ext hx
     try replace AO:=AO.ext hx
     try replace HM:=HM.ext hx
     clear hbq hwb hx HC' HF;have mz27:=trivial;refine Qf HC ?_
    rotate_left)
  all_goals try
   (clear mz23
    refine Qj 7 ?_;go_wp2;obtain ⟨b2,wb,hbq,hwb,HX2,HC',hx,gp_b2⟩:=Ql HC 3 #[(.int .i64 (-1))];rw [← hbq,← hwb];replace HC:=HC';try replace HX1:=HX1.ext hx
    try replace AO:=AO.ext hx
    try replace AF:=AF.ext hx
    try replace HM:=HM.ext hx
    clear hbq hwb hx HC' gp_b2;have mz27:=trivial;refine Qf HC ?_)
  all_goals try
   (clear mz24
    refine Qj 6 ?_;have hz:=HC.size;go_wp2_with (go_at_call 126;refine zc (Ui no b1 _ HX1.c1 HX1.lt hno) ?_;rintro e wc ⟨O,cO,bo,rfl,hj,hl_bo,AO⟩);try replace HX1:=HX1.ext hj
    try replace HX2:=HX2.ext hj
    try replace AF:=AF.ext hj
    try replace HM:=HM.ext hj
    replace HC:=HC.trans hj;replace hl_bo:=Nat.le_trans hz hl_bo;clear hj hz HX1;have mz27:=trivial;refine Qf HC ?_)
  all_goals try
   (clear mz25
    refine Qs (g:=3) [14] HC ?_
    constructor
    refine ⟨fun u hu => ?_,?_⟩
    ·exact Qk
    have mz28:=trivial)
  all_goals try
   (clear mz26
    refine Qj 13 ?_;go_wp2;obtain ⟨bf,wb,hbq,hwb,HF,HC',hx,gp_bf⟩:=Ql HC 4 (Array.replicate ni (.bool false));rw [← hbq,← hwb];have AF : Qw wb 4 (some ⟨bf,0,none⟩) ni bf (fun _ => .bool false):=⟨fun _ => rfl,fun _ => ⟨_,HF,by simp,fun k hk => by simp [hk]⟩⟩;replace HC:=HC';try replace HX1:=HX1.ext hx
    try replace HX2:=HX2.ext hx
    try replace AO:=AO.ext hx
    try replace AI:=AI.ext hx
    try replace HM:=HM.ext hx
    clear hbq hwb hx HC' HF;have mz29:=trivial;refine Qf HC ?_)
  all_goals try
   (clear mz27
    refine Qj 10 ?_;have hz:=HC.size;go_wp2_with (go_at_call 126;refine zc (Ui ni b2 _ HX2.c1 HX2.lt hni) ?_;rintro e wc ⟨I,cI,bi,rfl,hj,hl_bi,AI⟩);have hne : 0 < no → 0 < ni → bo ≠ bi:=fun h _ => by have:=AO.lt h;omega
    try replace HX1:=HX1.ext hj
    try replace HX2:=HX2.ext hj
    try replace AO:=AO.ext hj
    try replace AF:=AF.ext hj
    try replace HM:=HM.ext hj
    replace HC:=HC.trans hj;replace hl_bi:=Nat.le_trans hz hl_bi;clear hj hz HX2;have mz29:=trivial;refine Qf HC ?_)
  all_goals try
   (clear mz28
    refine Zq 15 16 ?_ ?_
    focus
     go_wp2;obtain ⟨bs,wb,hbq,hwb,HS,HC',hx,gp_bs⟩:=Ql HC 213 #[.slice Vo no co,.slice Vi ni ci,.slice Y no cY,.slice O no cO,.slice I ni cI,.slice (some ⟨bf,0,none⟩) ni ni,.nilFunc];rw [← hbq,← hwb];replace HC:=HC';try replace HX1:=HX1.ext hx
     try replace HX2:=HX2.ext hx
     try replace AO:=AO.ext hx
     try replace AI:=AI.ext hx
     try replace AF:=AF.ext hx
     clear hbq hwb hx HC';have mz30:=trivial;refine Qf HC ?_
    rotate_left
    focus
     go_wp2;obtain ⟨bm,wb,hbq,hwb,HM,HC',hx,gp_bm⟩:=Ql HC 166 #[.pointer none];rw [← hbq,← hwb];replace HC:=HC';try replace HX1:=HX1.ext hx
     try replace HX2:=HX2.ext hx
     try replace AO:=AO.ext hx
     try replace AI:=AI.ext hx
     try replace AF:=AF.ext hx
     clear hbq hwb hx HC';have mz31:=trivial;refine Qf HC ?_
    rotate_left)
  all_goals try
   (clear mz29
    refine Qs (g:=2) [14] HC ?_
    constructor
    refine ⟨fun u hu => ?_,?_⟩
    ·exact Qk
    have mz31:=trivial)
  all_goals try
   (clear mz30
    refine Qj 16 ?_;go_wp2;obtain ⟨bm,wb,hbq,hwb,HM,HC',hx,gp_bm⟩:=Ql HC 166 #[.pointer none];rw [← hbq,← hwb];replace HC:=HC';try replace HX1:=HX1.ext hx
    try replace HX2:=HX2.ext hx
    try replace AO:=AO.ext hx
    try replace AI:=AI.ext hx
    try replace AF:=AF.ext hx
    try replace HS:=HS.ext hx
    clear hbq hwb hx HC';have mz32:=trivial;refine Qf HC ?_)
  all_goals try
   (clear mz31
    refine Qj 15 ?_;go_wp2;obtain ⟨bs,wb,hbq,hwb,HS,HC',hx,gp_bs⟩:=Ql HC 213 #[.slice Vo no co,.slice Vi ni ci,.slice Y no cY,.slice O no cO,.slice I ni cI,.slice (some ⟨bf,0,none⟩) ni ni,.nilFunc];rw [← hbq,← hwb];replace HC:=HC';try replace HX1:=HX1.ext hx
    try replace HX2:=HX2.ext hx
    try replace AO:=AO.ext hx
    try replace AI:=AI.ext hx
    try replace AF:=AF.ext hx
    try replace HM:=HM.ext hx
    clear hbq hwb hx HC';have mz32:=trivial;refine Qf HC ?_)
  all_goals try
   (clear mz32
    refine Qr 17 ?_;have zm:=HM.frozen 0;have cm:=HM.c1;have lm:=HM.lt;go_wp2;have HS2:=Wn HS (Ne.symm (Y7 HM HS zD)) 0 (.pointer (some ⟨bs,0,none⟩));have AO2:=AO.offM HM zD 0 (.pointer (some ⟨bs,0,none⟩));have AI2:=AI.offM HM zD 0 (.pointer (some ⟨bs,0,none⟩));have AF2:=AF.offM HM zD 0 (.pointer (some ⟨bs,0,none⟩));have HC2:=HC.setCell (p:=⟨bm,0,none⟩) gp_bm (.pointer (some ⟨bs,0,none⟩));have HM2:=Kn HM 0 (.pointer (some ⟨bs,0,none⟩));have mz33:=trivial;refine Qq ?_)
  all_goals try
   (clear mz33
    refine Qx ?_;exact Qhb O cO I cI bo bi bf bs bm b1 b2 ⟨HC2,⟨HM2,HS2⟩,AO2,AI2,AF2,hne,hl_bo,hl_bi,gp_bf,gp_bs,gp_bm⟩ rfl)
 rintro O cO I cI bo bi bf bs bm b1 b2 w1 ⟨E,⟨HM,HS⟩,AO,AI,AF,hne,lo,li,lf,ls,lm⟩;have HC:=Qc.refl w1;have HS4:=HS.ext HC;have HM4:=HM.ext HC;have z6:=HS4.frozen 6;have m0:=HM4.c1;have ml:=HM4.lt;obtain ⟨s0,s1,s2,s3,s4,s5,s6,sl⟩:=Qb.d7 HS4;have HM5:=Wn HM4 (Y7 HM4 HS4 zD) 6 (.func (.func 127) #[] #[.pointer (some ⟨bm,0,none⟩)]);have AO5:=(AO.ext HC).offM HS4 zD 6 (.func (.func 127) #[] #[.pointer (some ⟨bm,0,none⟩)]);have AI5:=(AI.ext HC).offM HS4 zD 6 (.func (.func 127) #[] #[.pointer (some ⟨bm,0,none⟩)]);have AF5:=(AF.ext HC).offM HS4 zD 6 (.func (.func 127) #[] #[.pointer (some ⟨bm,0,none⟩)]);have E5:=(E.trans HC).setCell (p:=⟨bs,6,none⟩) ls (.func (.func 127) #[] #[.pointer (some ⟨bm,0,none⟩)])
 have HS5:=Kn HS4 6 (.func (.func 127) #[] #[.pointer (some ⟨bm,0,none⟩)]);go_upto_region 3 with fail
 clear z6 m0 ml s0 s1 s2 s3 s4 s5 s6 sl HS4 HM4;generalize World.setCell _ _ _ = wq at *;have M0 : MS w wq bm bs (.slice Vo no co) (.slice Vi ni ci) (.slice Y no cY) O I (some ⟨bf,0,none⟩) no ni cO cI ni bo bi bf Jg (fun _ => false):=⟨E5,⟨HM5,HS5⟩,AO5,AI5,AF5,hne,fun _ => lo,fun _ => li,fun _ => lf⟩;clear E5 HM5 HS5 AO5 AI5 AF5 HM HS AO AI AF E HC;go_upto_region 4 with fail
 go_loopw [31] (fun iv wr => ∃ (i : Nat) (m : Mt),i ≤ no ∧ iv = .int .i64 i ∧ MS w wr bm bs (.slice Vo no co) (.slice Vi ni ci) (.slice Y no cY) O I (some ⟨bf,0,none⟩) no ni cO cI ni bo bi bf m (fun _ => false) ∧ Vv adj ni 0 (fun _ => false) i m ∧ Hid ((Zt adj ni (fun _ => false) (no - i) i m).1 = R)) (fun iv _ => no - (intOf iv).toNat)
 case atStart => exact ⟨0,Jg,Nat.zero_le _,rfl,M0,Oi adj ni 0 _,hR⟩
 case round =>
  clear M0 hR;obtain ⟨i,m,hi,rfl,M,G,hR⟩:=hrel;obtain ⟨wo,rfl⟩:=Qe wr;by_cases hlt : i < no;rotate_left
  ·obtain rfl : i = no:=Qa
   have hRm : m = R:=by
    have h:=hR.out;rw [Nat.sub_self] at h;exact h
   subst hRm;clear hR G;have m0:=M.km.p.c1;have ml:=M.km.p.lt;go_wp2;go_ret;exact ⟨bm,bs,O,I,_,cO,cI,_,bo,bi,bf,rfl,ls,M⟩
  have hm : ∀ k,k < ni → 0 ≤ m.1 k → (m.1 k).toNat < no:=fun k hk h0 => by have:=(G.v.a k hk rfl h0).1;omega
  go_upto_region 6 with fail
  refine Zc 9 [8] (fun x => MS w x bm bs (.slice Vo no co) (.slice Vi ni ci) (.slice Y no cY) O I (some ⟨bf,0,none⟩) no ni cO cI ni bo bi bf m (fun _ => false)) mixed rfl ?_;intro vz hvz;have HC:=M.ext hvz;refine Qs (g:=2) [0,1,2,3,4,5,6] HC ?_
  constructor
  refine ⟨fun u hu => ?_,?_⟩
  ·have m0:=hu.km.p.c1;have ml:=hu.km.p.lt;obtain ⟨s0,s1,s2,s3,s4,s5,s6,sl⟩:=Qb.d7 hu.km.s;exact Qk
  refine Qj 7 ?_;have hz:=HC.e.size;go_wp2;obtain ⟨bn,wb,hbq,hwb,HN,_,hx,gp⟩:=Ql HC.e 4 (Array.replicate ni (.bool false));have hnf : 0 < ni → bn ≠ bf:=fun h => by have:=HC.f.lt h;omega
  have hln : 0 < ni → w.heap.size ≤ bn:=fun _ => gp
  rw [← hbq,← hwb];have AN : Qw wb 4 (some ⟨bn,0,none⟩) ni bn (fun _ => .bool false):=⟨fun _ => rfl,fun _ => ⟨_,HN,by simp,fun k hk => by simp [hk]⟩⟩;replace HC:=HC.ext hx;clear hz hbq hwb hx HN;refine Qf HC ?_;refine Qr 8 ?_;go_wp2_with (go_at_call 127;refine zc (Am w bm bs (.slice Vo no co) (.slice Vi ni ci) (.slice Y no cY) O I (some ⟨bf,0,none⟩) no ni cO cI ni bo bi bf m (fun _ => false) hadj hY hm ni _ (fun _ => false) i _ _ bn hlt (Mf ni _) HC AN hnf hln) ?_;rintro e w3 ⟨rfl,M6,F6,sn3,N6,hb3⟩);clear AN N6 F6 hb3 sn3;refine Qq ?_;refine Qx ?_;have G2:=Pj hadj (Nat.zero_le i) G
  have hR2 : Hid ((Zt adj ni (fun _ => false) (no - (i + 1)) (i + 1) ((Q4 adj ni m (fun _ => false) i).1.getD m)).1 = R):=by
   have h:=hR.out;rw [show no - i = (no - (i + 1)) + 1 by omega,G2.2 (no - (i + 1))] at h;exact h
  replace M6 : MS w w3 bm bs (.slice Vo no co) (.slice Vi ni ci) (.slice Y no cY) O I (some ⟨bf,0,none⟩) no ni cO cI ni bo bi bf ((Q4 adj ni m (fun _ => false) i).1.getD m) (fun _ => false):=M6;replace G2:=G2.1;clear hR hm G;go_wp2;exact ⟨⟨i + 1,_,Qa,by go_num,M6,G2,hR2⟩,zi⟩
theorem K9 {W : World} {t : TypeId} {A : OA} {n b : Nat} {g : Nat → Value} (h : Qw W t A n b g) : Qm W A n 1 (fun i => [g i]):=fun hn => by
 obtain ⟨cs,h1,h2,h3⟩:=h.h hn;refine ⟨b,0,h.a hn,h1.lt,fun i j v hi hv => ?_⟩
 have hj : j = 0:=by
  have:=(List.getElem?_eq_some_iff.1 hv).1;simp at this;omega
 subst hj;have hv' : g i = v:=by simpa using hv
 rw [← hv'];have:=h.cell hi
 simpa using this
def MT (t : TypeId) : Prop:=t = 3 ∨ t = 4 ∨ t = 213
def FT (W W' : World) : Prop:=∀ b t (cs : Array Value),Qb W b t cs → ¬ MT t → Qb W' b t cs
theorem FT.refl (W : World) : FT W W:=fun _ _ _ h _ => h
theorem FT.trans {W W1 W2 : World} (h : FT W W1) (k : FT W1 W2) : FT W W2:=fun b t cs hb ht => k b t cs (h b t cs hb ht) ht
theorem FT.ext {W W1 W2 : World} (h : FT W W1) (x : Qc W1 W2) : FT W W2:=fun b t cs hb ht => (h b t cs hb ht).ext x
theorem FT.setH {W W1 : World} {b : Nat} {t : TypeId} {cs : Array Value} (h : FT W W1) (hb : Qb W1 b t cs) (ht : MT t) (j : Nat) (u : Value) : FT W (W1.setCell ⟨b,j,none⟩ u):=fun b' t' cs' hb' ht' => Wn (h b' t' cs' hb' ht') (Y7 (h b' t' cs' hb' ht') hb (fun e => ht' (e ▸ ht))) j u
theorem FT.setA {W W1 : World} {t : TypeId} {A : OA} {n b : Nat} {g : Nat → Value} (h : FT W W1) (hA : Qw W1 t A n b g) (hn : 0 < n) (ht : MT t) (j : Nat) (u : Value) : FT W (W1.setCell ⟨b,j,none⟩ u):=by
 obtain ⟨cs,h1,_⟩:=hA.h hn;exact h.setH h1 ht j u
theorem Ws : MT 3:=Or.inl rfl
theorem Lr : MT 4:=Or.inr (Or.inl rfl)
theorem mt_m : MT 213:=Or.inr (Or.inr rfl)
theorem FT.fr {W W1 W2 : World} {no ni bo bi bn : Nat} {O I N : OA} {g g' g'' : Nat → Value} (h : FT W W1) (f : Fr (SN no ni bo bi bn) W1 W2) (ho : Qw W1 3 O no bo g) (hi : Qw W1 3 I ni bi g') (hn : Qw W1 4 N ni bn g'') : FT W W2:=fun b t cs hb ht => f.held (h b t cs hb ht) (fun hs => by
 rcases hs with ⟨h0,e⟩ | ⟨h0,e | e⟩
 ·obtain ⟨ds,h1,_⟩:=ho.h h0;exact Y7 (h b t cs hb ht) h1 (fun e => ht (e ▸ Ws)) e
 ·obtain ⟨ds,h1,_⟩:=hi.h h0;exact Y7 (h b t cs hb ht) h1 (fun e => ht (e ▸ Ws)) e
 ·obtain ⟨ds,h1,_⟩:=hn.h h0;exact Y7 (h b t cs hb ht) h1 (fun e => ht (e ▸ Lr)) e)
theorem Qw.fr {W W' : World} {S : Nat → Prop} {t : TypeId} {A : OA} {n b : Nat} {g : Nat → Value} (h : Qw W t A n b g) (f : Fr S W W') (hs : 0 < n → ¬ S b) : Qw W' t A n b g:=⟨h.a,fun hn => by
 obtain ⟨cs,h1,h2⟩:=h.h hn;exact ⟨cs,f.held h1 (hs hn),h2⟩⟩
section
variable {P : Program} {ops : Array Oper} {md : Region.Mode} {C : World → Prop} {R : Act → World → Prop} {zs : List Nat}
theorem Vs {g : Nat} {L : Array Bool} {a : Act} {w : World} {o : Oper} (k : Nat) (ho : ops[k]? = some o) (hd : (match o.dst with | some d => decide (d < a.tmps.size) | none => false) = true) (hg : Region.wanted o (yielded ops a.tmps) = true) (hB : (Region.noSelect ops && Gz md ops L && Lx md ops zs [k] L) = true) (hw : C w)
  (h : ∃ A,(∀ u,C u → wpQuiet P ops (fun w' => w' = u) (fun a' => a' = A) [o] a) ∧ Zy P md ops C zs R g (L.setIfInBounds k true) A w) : Zy P md ops C zs R (g + 1) L a w:=by
 obtain ⟨A,h1,h2⟩:=h;simp only [Bool.and_eq_true,Lx] at hB;obtain ⟨⟨hs,hc⟩,⟨⟨⟨hr,hf⟩,hwz⟩,_⟩⟩:=hB
 cases hod : o.dst with
 | none => rw [hod] at hd;cases hd
 | some d =>
  rw [hod] at hd;have hz : d < a.tmps.size:=by simpa using hd
  have each : ∀ u,C u → ∃ v,o.quietAt P a (fun w' => w' = u) u v ∧ A.tmps[d]? = some v ∧ a.put (some d) v = A:=fun u hu => by
   have h3:=h1 u hu;unfold wpQuiet at h3;rw [if_pos hg] at h3;obtain ⟨v,h4,h5⟩:=h3;have h5 : a.put o.dst v = A:=h5;rw [hod] at h5;refine ⟨v,h4 _ rfl,?_,h5⟩;rw [← h5];simp [Act.put,hz]
  obtain ⟨v,_,hv,hA⟩:=each w hw
  have hy : Wz P ops C o v a:=⟨hg,fun w' e => by
   obtain ⟨v',g1,g2,_⟩:=each w' e;rw [hv] at g2;rw [Option.some.inj g2];exact g1⟩
  exact Qev ho (fun j hj => List.all_eq_true.1 hwz j hj) (Region.noSelect_spec hs) _ L a w (Em hc) (Region.free_spec ho hf) (by simpa using hr) hw hy (by rw [hod,hA];exact h2)
end
theorem Qd3 {m : Mt} {i k no ni : Nat} (hi : i < no) (hm1 : ∀ x,x < ni → 0 ≤ m.1 x → (m.1 x).toNat < no) : ∀ x,x < ni → 0 ≤ (Ym m i k).1 x → ((Ym m i k).1 x).toNat < no:=fun x hx h0 => by
 have h0 : 0 ≤ Qh (Jd m i) k i x:=h0
 show (Qh (Jd m i) k i x).toNat < no
 by_cases e : x = k
 ·subst e;rw [Z9];simpa using hi
 ·rw [Zp _ _ e] at h0 ⊢;unfold Jd at h0 ⊢;by_cases c : 0 ≤ m.2 i
  ·rw [if_pos c] at h0 ⊢;by_cases e2 : x = (m.2 i).toNat
   ·subst e2;rw [Z9] at h0;omega
   ·rw [Zp _ _ e2] at h0 ⊢;exact hm1 x hx h0
  ·rw [if_neg c] at h0 ⊢;exact hm1 x hx h0
theorem Qod {fx : Bl} {k : Nat} (h : fx k = false) : Qh (Qh fx k true) k false = fx:=by
 funext x
 unfold Qh;by_cases e : x = k
 ·subst e;simp [h]
 ·simp [e]
theorem Ej (A : OA) (n cap b0 : Nat) (f : Nat → Int) (w : World) (h : Qw w 3 A n b0 (fun k => .int .i64 (f k))) (hn : n ≤ 1000000) :
  Calls Tryz.prog 166 #[.slice A n cap] w fun e w' => ∃ A' cap' b,e = .returned (.slice A' n cap') ∧ Qc w w' ∧ (0 < n → w.heap.size ≤ b) ∧ Qw w' 3 A' n b (fun k => .int .i64 (f k)):=by
 have q23 : ∀ (w : World) (a : OA) (n c n' c' : Nat),(binOp .eql 125 (.slice a n c) (.slice none n' c')).run Tryz.prog w = .ok (.bool a.isNone) w:=fun w a n c n' c' => Lib.run_eql_slice_nil w _ _ a n c n' c' Tryz.underlying125
 cases A with
 | none =>
  have h0 : n = 0:=by
   refine Nat.eq_zero_of_not_pos fun hp => ?_
   have:=h.a hp;cases this
  subst h0;clear h
  go_enter Tryz.func166,Tryz.ntmps166
  go_wp2;go_ret
  exact ⟨none,0,0,rfl,Qc.refl _,fun h => absurd h Qa,fun h => absurd h Qa,fun h => absurd h Qa⟩
 | some a =>
  obtain ⟨i0,hi,hz0,hz1,hz2⟩:=info_parts Ms;obtain ⟨xs,hxs⟩ : ∃ xs : List Value,xs = (List.range n).map (fun k => .int .i64 (f k)):=⟨_,rfl⟩;have hlen : xs.length = n * 1:=by rw [hxs];simp
  have HN : ∀ (j : Nat) (u : Value),xs[j]? = some u → (w.alloc (.cells #[] 3)).cell? (a.add j) = some u:=fun j u hj => by
   have hjn : j < n:=by
    have:=(List.getElem?_eq_some_iff.1 hj).1;omega
   have ha:=h.a Qa;injection ha with ha
   have hc:=h.cell hjn;rw [hxs] at hj;have e : u = .int .i64 (f j):=by simp [hjn] at hj;exact hj.symm
   rw [ha,e,Addr.add_lit,Nat.zero_add];exact (((Qc.refl w).alloc _).cell (p:=⟨b0,j,none⟩) (h.lt Qa)).trans hc
  have hone : ∀ u ∈ xs,u.oneCell' = true:=fun u hu => by
   rw [hxs] at hu;obtain ⟨x,_,rfl⟩:=List.mem_map.1 hu;rfl
  have hget : ∀ k,k < n → xs[k]? = some (.int .i64 (f k)):=fun k hk => by rw [hxs];simp [hk]
  clear hxs h
  go_enter Tryz.func166,Tryz.ntmps166
  go_wp2_with (at_builtin;refine wpList_append_own _ rfl _ _ 125 rfl w.heap.size 3 i0 (.int .i64 0) 1 8 Tryz.underlying125 hi hz0 hz1 hz2 rfl zD _ _ _ rfl (World.ownsRow_made w #[] 0 (Nat.le_refl _) (Nat.zero_le _) rfl) a n cap xs rfl hlen HN hone (by unfold maxLen;omega) Qa (by simp) ?_;intro v' w1 hown hgrow hnil2);go_ret;have hown2 : w1.ownsRow w.heap.size 3 1 v' n xs:=by simpa using hown
  obtain ⟨A',cap',b,rfl,hb,_,hA⟩:=Oa (g:=fun k => .int .i64 (f k)) hown2 hget;exact ⟨A',cap',b,rfl,((Qc.refl w).alloc _).grown hgrow (fun q hq => by have h : some w.heap.size = some q:=hq;cases h;exact Nat.le_refl _),fun _ => hb,hA⟩
set_option maxHeartbeats 40000000 in
theorem Qnz {adj : Nat → List Nat} (W0 : World) (bm bs : Nat) (Vo Vi : OA) (co ci : Nat) (vy : Value) (O I X : OA) (no ni cO cI cX bo bi bf : Nat) (m : Mt) (fx : Bl) (i k : Nat) (hadj : ∀ o,∀ k ∈ adj o,k < ni) (hY : Nw W0 vy no adj) (hi : i < no) (hk : k < ni) (hno : no ≤ 1000000) (hni : ni ≤ 1000000) (hls : W0.heap.size ≤ bs) (hf : fx k = false) (hm1 : ∀ x,x < ni → 0 ≤ m.1 x → (m.1 x).toNat < no) (hm2 : ∀ o,o < no → 0 ≤ m.2 o → (m.2 o).toNat < ni) (W : World) (hM : MS W0 W bm bs (.slice Vo no co) (.slice Vi ni ci) vy O I X no ni cO cI cX bo bi bf m fx) :
  Calls Tryz.prog 128 #[.pointer (some ⟨bs,0,none⟩),.int .i64 i,.int .i64 k] W fun e W' => e = .returned (.bool (Xy adj ni no fx m i k).isSome) ∧ FT W W' ∧ ∃ O' I' cO' cI' bo' bi',MS W0 W' bm bs (.slice Vo no co) (.slice Vi ni ci) vy O' I' X no ni cO' cI' cX bo' bi' bf ((Xy adj ni no fx m i k).getD m) (if (Xy adj ni no fx m i k).isSome then Qh fx k true else fx):=by
 obtain ⟨Y,cY,vs,rfl,_,_⟩:=id hY;obtain ⟨R,hR⟩:=Qe (Xy adj ni no fx m i k);rw [← hR];replace hR:=zh hR;have hno0 : 0 < no:=Qa;have hni0 : 0 < ni:=Qa;have hmkb:=fun w => Fu ni hni w
 have hXe:=hM.f.a hni0;have hIe:=hM.i.a hni0;have hOe:=hM.o.a hno0;subst hXe;subst hIe;subst hOe
 go_enter Tryz.func128,Tryz.ntmps128
 obtain ⟨s0,s1,s2,s3,s4,s5,s6,sl⟩:=Qb.d7 hM.km.s;go_upto_region 1 with fail
 clear s0 s1 s2 s3 s4 s5 s6 sl;refine Zc 12 [10,11] (fun x => MS W0 x bm bs (.slice Vo no co) (.slice Vi ni ci) (.slice Y no cY) (some ⟨bo,0,none⟩) (some ⟨bi,0,none⟩) (some ⟨bf,0,none⟩) no ni cO cI cX bo bi bf m fx) mixed rfl ?_;intro vz hvz;have HC:=hM.ext hvz;have hE:=hvz;refine Qs (g:=4) [0,1,2,3,5,6,7,8] HC ?_
 constructor
 refine ⟨fun u hu => ?_,?_⟩
 ·obtain ⟨s0,s1,s2,s3,s4,s5,s6,sl⟩:=Qb.d7 hu.km.s;exact Qk
 refine Qj 4 ?_;have hz:=HC.e.size;have hb1:=HC.o.lt hno0;have hb2:=HC.i.lt hni0;go_wp2_with (go_at_call 166;refine zc (Ej _ no _ bo m.2 _ HC.o hno) ?_;rintro e wc ⟨O2,cO2,bo2,rfl,hj,hl,AO2⟩);have a1 : W0.heap.size ≤ bo2 ∧ bo2 ≠ bo ∧ bo2 ≠ bi:=by have:=hl hno0;exact ⟨Qa,Qa,Qa⟩
 replace HC:=HC.ext hj;replace hE:=hE.trans hj;clear hz hb1 hb2 hl hj;refine Qf HC ?_;refine Qj 9 ?_;have hz:=HC.e.size;have hb1:=HC.o.lt hno0;have hb2:=HC.i.lt hni0;go_wp2_with (go_at_call 166;refine zc (Ej _ ni _ bi m.1 _ HC.i hni) ?_;rintro e wc ⟨I2,cI2,bi2,rfl,hj,hl,AI2⟩)
 have a2 : W0.heap.size ≤ bi2 ∧ bi2 ≠ bo ∧ bi2 ≠ bi ∧ bo2 ≠ bi2:=by
  have:=hl hni0;have:=AO2.lt hno0;exact ⟨Qa,Qa,Qa,Qa⟩
 replace AO2:=AO2.ext hj;replace HC:=HC.ext hj;replace hE:=hE.trans hj;clear hz hb1 hb2 hl hj;refine Qf HC ?_;refine Qr 10 ?_;go_wp2;refine Qq ?_;refine Qr 11 ?_;go_wp2;refine Qq ?_;refine Qx ?_;have hF : FT W wc:=fun b t cs hb _ => hb.ext hE
 clear hM hE;obtain ⟨z1,hz1⟩:=Qe (m.2 i);obtain ⟨z2,hz2⟩:=Qe (m.1 k);have o0:=HC.o.cell hi;rw [← hz1] at o0;have ol:=HC.o.lt hno0;have i0:=HC.i.cell hk;rw [← hz2] at i0;have il:=HC.i.lt hni0;replace hz1:=zh hz1;replace hz2:=zh hz2;obtain ⟨s0,s1,s2,s3,s4,s5,s6,sl⟩:=Qb.d7 HC.km.s;go_upto_region 2 with fail
 refine Qy wc ?_;intro w2 h2;obtain ⟨_,_,_,_⟩:=Qv wc h2;clear s0 s1 s2 s3 s4 s5 s6 sl o0 ol i0 il;replace HC:=HC.ext h2;replace hF:=hF.ext h2;replace AO2:=AO2.ext h2;replace AI2:=AI2.ext h2;clear h2;obtain ⟨s0,s1,s2,s3,s4,s5,s6,sl⟩:=Qb.d7 HC.km.s;rcases Int.lt_or_le z2 0 with n2 | n2
 ·rcases Int.lt_or_le z1 0 with n1 | n1
  ·replace hz1:=hz1.out;replace hz2:=hz2.out;have g2 : decide (0 ≤ z2) = false:=zf Qa;have g4 : decide (z2 < 0) = true:=zt n2;have g1 : decide (0 ≤ z1) = false:=zf Qa;have g3 : decide (z1 < 0) = true:=zt n1
   have hs : (Qh (m.1) k (i : Int),Qh (m.2) i (k : Int)) = Ym m i k:=by
    unfold Ym Jd;rw [if_neg (show ¬ 0 ≤ m.2 i by omega),if_neg (show ¬ 0 ≤ m.1 k by omega)]
   have hRs : R = some (Ym m i k):=by rw [hR.out];unfold Xy;rw [if_pos Qa]
   subst hRs;clear hR;replace hs:=zh hs;replace hz1:=zh hz1;replace hz2:=zh hz2;go_upto_region 7 with fail
   clear s0 s1 s2 s3 s4 s5 s6 sl;refine Zc 16 [15] (fun x => KM bm bs (.slice Vo no co) (.slice Vi ni ci) (.slice Y no cY) (some ⟨bo,0,none⟩) (some ⟨bi,0,none⟩) (some ⟨bf,0,none⟩) no ni cO cI cX x) mixed rfl ?_;intro vz hvz;replace HC:=HC.ext hvz;replace hF:=hF.ext hvz;replace AO2:=AO2.ext hvz;replace AI2:=AI2.ext hvz;have HK:=HC.km;refine Qs (g:=3) [0,1,2,3,4,5,6,7,8,9,10,11,12] HK ?_
   constructor
   refine ⟨fun u hu => ?_,?_⟩
   ·obtain ⟨s0,s1,s2,s3,s4,s5,s6,sl⟩:=Qb.d7 hu.s;exact Qk
   refine Qj 13 ?_;have fz:=HC.o.frozen hno0 i;have fc:=HC.o.cell hi;have fl:=HC.o.lt hno0;go_wp2;replace hF:=hF.setA HC.o hno0 Ws i (.int .i64 (k : Int));replace AO2:=AO2.oth (fun hn => a1.2.1) i (.int .i64 (k : Int));replace AI2:=AI2.oth (fun hn => a2.2.1) i (.int .i64 (k : Int));replace HC:=HC.setO hi (k : Int);clear fz fc fl;generalize World.setCell _ _ _ = wq at *;replace HK:=HC.km;refine Qf HK ?_;refine Qs (g:=1) [14] HK ?_
   constructor
   refine ⟨fun u hu => ?_,?_⟩
   ·obtain ⟨s0,s1,s2,s3,s4,s5,s6,sl⟩:=Qb.d7 hu.s;exact Qk
   refine Qr 15 ?_;have fz:=HC.i.frozen hni0 k;have fc:=HC.i.cell hk;have fl:=HC.i.lt hni0;go_wp2;replace hF:=hF.setA HC.i hni0 Ws k (.int .i64 (i : Int));replace AO2:=AO2.oth (fun hn => a1.2.2) k (.int .i64 (i : Int));replace AI2:=AI2.oth (fun hn => a2.2.2.1) k (.int .i64 (i : Int));replace HC:=HC.setI hk (i : Int);clear fz fc fl;generalize World.setCell _ _ _ = wq at *;replace HK:=HC.km;refine Qq ?_;refine Qx ?_;rw [hs.out] at HC;clear HK;obtain ⟨s0,s1,s2,s3,s4,s5,s6,sl⟩:=Qb.d7 HC.km.s;go_upto_region 8 with fail
   have fz:=HC.f.frozen hni0 k;have fc:=HC.f.cell hk;have fl:=HC.f.lt hni0;go_upto_region 9 with fail
   replace hF:=hF.setA HC.f hni0 Lr k (.bool true);replace AO2:=AO2.oth (fun hn => AO2.apart2 HC.f zD hn hni0) k (.bool true);replace AI2:=AI2.oth (fun hn => AI2.apart2 HC.f zD hn hni0) k (.bool true);replace HC:=HC.setF hk (true);clear fz fc fl;generalize World.setCell _ _ _ = wq at *;clear s0 s1 s2 s3 s4 s5 s6 sl;obtain ⟨s0,s1,s2,s3,s4,s5,s6,sl⟩:=Qb.d7 HC.km.s;go_upto_region 11 with fail
   go_loopw [11,12] (fun okv jv wr => okv = .bool true ∧ jv = .int .i64 ((i + 1 : Nat) : Int) ∧ wr = wq) (fun _ _ _ => 0)
   case atStart => exact ⟨rfl,by go_num,rfl⟩
   case round =>
    obtain ⟨rfl,rfl,rfl⟩:=hrel;by_cases cj : i + 1 < no
    ·have cj1 : decide (((i + 1 : Nat) : Int) < (no : Int)) = true:=zt Qa;go_wp2;go_ret;exact ⟨rfl,hF,_,_,_,_,_,_,HC⟩
    ·have cj1 : decide (((i + 1 : Nat) : Int) < (no : Int)) = false:=zf Qa;go_wp2;go_ret;exact ⟨rfl,hF,_,_,_,_,_,_,HC⟩
  ·replace hz1 := hz1.out;replace hz2 := hz2.out;have g2 : decide (0 ≤ z2) = false := zf Qa;have g4 : decide (z2 < 0) = true := zt n2;obtain ⟨p1, rfl⟩ := Int.eq_ofNat_of_zero_le n1;have hp1 : p1 < ni := by have := hm2 i hi Qa; rw [← hz1] at this; simpa using this
   have g1 : decide ((0 : Int) ≤ (p1 : Int)) = true:=zt n1;have g3 : decide ((p1 : Int) < 0) = false:=zf Qa
   have hs : (Qh (Qh m.1 p1 (-1)) k (i : Int),Qh (m.2) i (k : Int)) = Ym m i k:=by
    unfold Ym Jd;rw [if_pos (show 0 ≤ m.2 i by omega),if_neg (show ¬ 0 ≤ m.1 k by omega),← hz1];rfl
   have hRs : R = some (Ym m i k):=by rw [hR.out];unfold Xy;rw [if_pos Qa]
   subst hRs;clear hR;replace hs:=zh hs;replace hz1:=zh hz1;replace hz2:=zh hz2;go_upto_region 6 with fail
   have fz:=HC.i.frozen hni0 p1;have fc:=HC.i.cell hp1;have fl:=HC.i.lt hni0;go_upto_region 7 with fail
   replace hF:=hF.setA HC.i hni0 Ws p1 (.int .i64 (-1));replace AO2:=AO2.oth (fun hn => a1.2.2) p1 (.int .i64 (-1));replace AI2:=AI2.oth (fun hn => a2.2.2.1) p1 (.int .i64 (-1));replace HC:=HC.setI hp1 (-1);clear fz fc fl;generalize World.setCell _ _ _ = wq at *;clear s0 s1 s2 s3 s4 s5 s6 sl;refine Zc 16 [15] (fun x => KM bm bs (.slice Vo no co) (.slice Vi ni ci) (.slice Y no cY) (some ⟨bo,0,none⟩) (some ⟨bi,0,none⟩) (some ⟨bf,0,none⟩) no ni cO cI cX x) mixed rfl ?_;intro vz hvz;replace HC:=HC.ext hvz;replace hF:=hF.ext hvz;replace AO2:=AO2.ext hvz;replace AI2:=AI2.ext hvz;have HK:=HC.km;refine Qs (g:=3) [0,1,2,3,4,5,6,7,8,9,10,11,12] HK ?_
   constructor
   refine ⟨fun u hu => ?_,?_⟩
   ·obtain ⟨s0,s1,s2,s3,s4,s5,s6,sl⟩:=Qb.d7 hu.s;exact Qk
   refine Qj 13 ?_;have fz:=HC.o.frozen hno0 i;have fc:=HC.o.cell hi;have fl:=HC.o.lt hno0;go_wp2;replace hF:=hF.setA HC.o hno0 Ws i (.int .i64 (k : Int));replace AO2:=AO2.oth (fun hn => a1.2.1) i (.int .i64 (k : Int));replace AI2:=AI2.oth (fun hn => a2.2.1) i (.int .i64 (k : Int));replace HC:=HC.setO hi (k : Int);clear fz fc fl;generalize World.setCell _ _ _ = wq at *;replace HK:=HC.km;refine Qf HK ?_;refine Qs (g:=1) [14] HK ?_
   constructor
   refine ⟨fun u hu => ?_,?_⟩
   ·obtain ⟨s0,s1,s2,s3,s4,s5,s6,sl⟩:=Qb.d7 hu.s;exact Qk
   refine Qr 15 ?_;have fz:=HC.i.frozen hni0 k;have fc:=HC.i.cell hk;have fl:=HC.i.lt hni0;go_wp2;replace hF:=hF.setA HC.i hni0 Ws k (.int .i64 (i : Int));replace AO2:=AO2.oth (fun hn => a1.2.2) k (.int .i64 (i : Int));replace AI2:=AI2.oth (fun hn => a2.2.2.1) k (.int .i64 (i : Int));replace HC:=HC.setI hk (i : Int);clear fz fc fl;generalize World.setCell _ _ _ = wq at *;replace HK:=HC.km;refine Qq ?_;refine Qx ?_;rw [hs.out] at HC;clear HK;obtain ⟨s0,s1,s2,s3,s4,s5,s6,sl⟩:=Qb.d7 HC.km.s;go_upto_region 8 with fail
   have fz:=HC.f.frozen hni0 k;have fc:=HC.f.cell hk;have fl:=HC.f.lt hni0;go_upto_region 9 with fail
   replace hF:=hF.setA HC.f hni0 Lr k (.bool true);replace AO2:=AO2.oth (fun hn => AO2.apart2 HC.f zD hn hni0) k (.bool true);replace AI2:=AI2.oth (fun hn => AI2.apart2 HC.f zD hn hni0) k (.bool true);replace HC:=HC.setF hk (true);clear fz fc fl;generalize World.setCell _ _ _ = wq at *;clear s0 s1 s2 s3 s4 s5 s6 sl;obtain ⟨s0,s1,s2,s3,s4,s5,s6,sl⟩:=Qb.d7 HC.km.s;go_upto_region 11 with fail
   go_loopw [11,12] (fun okv jv wr => okv = .bool true ∧ jv = .int .i64 ((i + 1 : Nat) : Int) ∧ wr = wq) (fun _ _ _ => 0)
   case atStart => exact ⟨rfl,by go_num,rfl⟩
   case round =>
    obtain ⟨rfl,rfl,rfl⟩:=hrel;by_cases cj : i + 1 < no
    ·have cj1 : decide (((i + 1 : Nat) : Int) < (no : Int)) = true:=zt Qa;go_wp2;go_ret;exact ⟨rfl,hF,_,_,_,_,_,_,HC⟩
    ·have cj1 : decide (((i + 1 : Nat) : Int) < (no : Int)) = false:=zf Qa;go_wp2;go_ret;exact ⟨rfl,hF,_,_,_,_,_,_,HC⟩
 ·rcases Int.lt_or_le z1 0 with n1 | n1
  ·replace hz1 := hz1.out;replace hz2 := hz2.out;obtain ⟨p2, rfl⟩ := Int.eq_ofNat_of_zero_le n2;have hp2 : p2 < no := by have := hm1 k hk Qa; rw [← hz2] at this; simpa using this
   have g2 : decide ((0 : Int) ≤ (p2 : Int)) = true:=zt n2;have g1 : decide (0 ≤ z1) = false:=zf Qa;have g3 : decide (z1 < 0) = true:=zt n1;have g4 : decide ((p2 : Int) < 0) = false:=zf Qa
   have hs : (Qh (m.1) k (i : Int),Qh (Qh m.2 p2 (-1)) i (k : Int)) = Ym m i k:=by
    unfold Ym Jd;rw [if_neg (show ¬ 0 ≤ m.2 i by omega),if_pos (show 0 ≤ m.1 k by omega),← hz2];rfl
   have hRs : R = some (Ym m i k):=by rw [hR.out];unfold Xy;rw [if_pos Qa]
   subst hRs;clear hR;replace hs:=zh hs;replace hz1:=zh hz1;replace hz2:=zh hz2;go_upto_region 4 with fail
   have fz:=HC.o.frozen hno0 p2;have fc:=HC.o.cell hp2;have fl:=HC.o.lt hno0;go_upto_region 5 with fail
   replace hF:=hF.setA HC.o hno0 Ws p2 (.int .i64 (-1));replace AO2:=AO2.oth (fun hn => a1.2.1) p2 (.int .i64 (-1));replace AI2:=AI2.oth (fun hn => a2.2.1) p2 (.int .i64 (-1));replace HC:=HC.setO hp2 (-1);clear fz fc fl;generalize World.setCell _ _ _ = wq at *;clear s0 s1 s2 s3 s4 s5 s6 sl;obtain ⟨s0,s1,s2,s3,s4,s5,s6,sl⟩:=Qb.d7 HC.km.s;go_upto_region 7 with fail
   clear s0 s1 s2 s3 s4 s5 s6 sl;refine Zc 16 [15] (fun x => KM bm bs (.slice Vo no co) (.slice Vi ni ci) (.slice Y no cY) (some ⟨bo,0,none⟩) (some ⟨bi,0,none⟩) (some ⟨bf,0,none⟩) no ni cO cI cX x) mixed rfl ?_;intro vz hvz;replace HC:=HC.ext hvz;replace hF:=hF.ext hvz;replace AO2:=AO2.ext hvz;replace AI2:=AI2.ext hvz;have HK:=HC.km;refine Qs (g:=3) [0,1,2,3,4,5,6,7,8,9,10,11,12] HK ?_
   constructor
   refine ⟨fun u hu => ?_,?_⟩
   ·obtain ⟨s0,s1,s2,s3,s4,s5,s6,sl⟩:=Qb.d7 hu.s;exact Qk
   refine Qj 13 ?_;have fz:=HC.o.frozen hno0 i;have fc:=HC.o.cell hi;have fl:=HC.o.lt hno0;go_wp2;replace hF:=hF.setA HC.o hno0 Ws i (.int .i64 (k : Int));replace AO2:=AO2.oth (fun hn => a1.2.1) i (.int .i64 (k : Int));replace AI2:=AI2.oth (fun hn => a2.2.1) i (.int .i64 (k : Int));replace HC:=HC.setO hi (k : Int);clear fz fc fl;generalize World.setCell _ _ _ = wq at *;replace HK:=HC.km;refine Qf HK ?_;refine Qs (g:=1) [14] HK ?_
   constructor
   refine ⟨fun u hu => ?_,?_⟩
   ·obtain ⟨s0,s1,s2,s3,s4,s5,s6,sl⟩:=Qb.d7 hu.s;exact Qk
   refine Qr 15 ?_;have fz:=HC.i.frozen hni0 k;have fc:=HC.i.cell hk;have fl:=HC.i.lt hni0;go_wp2;replace hF:=hF.setA HC.i hni0 Ws k (.int .i64 (i : Int));replace AO2:=AO2.oth (fun hn => a1.2.2) k (.int .i64 (i : Int));replace AI2:=AI2.oth (fun hn => a2.2.2.1) k (.int .i64 (i : Int));replace HC:=HC.setI hk (i : Int);clear fz fc fl;generalize World.setCell _ _ _ = wq at *;replace HK:=HC.km;refine Qq ?_;refine Qx ?_;rw [hs.out] at HC;clear HK;obtain ⟨s0,s1,s2,s3,s4,s5,s6,sl⟩:=Qb.d7 HC.km.s;go_upto_region 8 with fail
   have fz:=HC.f.frozen hni0 k;have fc:=HC.f.cell hk;have fl:=HC.f.lt hni0;go_upto_region 9 with fail
   replace hF:=hF.setA HC.f hni0 Lr k (.bool true);replace AO2:=AO2.oth (fun hn => AO2.apart2 HC.f zD hn hni0) k (.bool true);replace AI2:=AI2.oth (fun hn => AI2.apart2 HC.f zD hn hni0) k (.bool true);replace HC:=HC.setF hk (true);clear fz fc fl;generalize World.setCell _ _ _ = wq at *;clear s0 s1 s2 s3 s4 s5 s6 sl;obtain ⟨s0,s1,s2,s3,s4,s5,s6,sl⟩:=Qb.d7 HC.km.s;go_upto_region 11 with fail
   go_loopw [11,12] (fun okv jv wr => okv = .bool true ∧ jv = .int .i64 ((i + 1 : Nat) : Int) ∧ wr = wq) (fun _ _ _ => 0)
   case atStart => exact ⟨rfl,by go_num,rfl⟩
   case round =>
    obtain ⟨rfl,rfl,rfl⟩:=hrel;by_cases cj : i + 1 < no
    ·have cj1 : decide (((i + 1 : Nat) : Int) < (no : Int)) = true:=zt Qa;go_wp2;go_ret;exact ⟨rfl,hF,_,_,_,_,_,_,HC⟩
    ·have cj1 : decide (((i + 1 : Nat) : Int) < (no : Int)) = false:=zf Qa;go_wp2;go_ret;exact ⟨rfl,hF,_,_,_,_,_,_,HC⟩
  ·replace hz1 := hz1.out;replace hz2 := hz2.out;obtain ⟨p2, rfl⟩ := Int.eq_ofNat_of_zero_le n2;have hp2 : p2 < no := by have := hm1 k hk Qa; rw [← hz2] at this; simpa using this
   have g2 : decide ((0 : Int) ≤ (p2 : Int)) = true:=zt n2;obtain ⟨p1,rfl⟩:=Int.eq_ofNat_of_zero_le n1;have hp1 : p1 < ni:=by have:=hm2 i hi Qa;rw [← hz1] at this;simpa using this
   have g1 : decide ((0 : Int) ≤ (p1 : Int)) = true:=zt n1;have g3 : decide ((p1 : Int) < 0) = false:=zf Qa;have g4 : decide ((p2 : Int) < 0) = false:=zf Qa
   have hs : (Qh (Qh m.1 p1 (-1)) k (i : Int),Qh (Qh m.2 p2 (-1)) i (k : Int)) = Ym m i k:=by
    unfold Ym Jd;rw [if_pos (show 0 ≤ m.2 i by omega),if_pos (show 0 ≤ m.1 k by omega),← hz1,← hz2];rfl
   replace hR : Hid (U7 adj ni (Qh fx k true) (no - (i + 1)) (i + 1) (Ym m i k) = R):=by
    have h:=hR.out;unfold Xy at h;rw [if_neg Qa] at h;exact h.symm
   replace hs:=zh hs;replace hz1:=zh hz1;replace hz2:=zh hz2;go_upto_region 4 with fail
   have fz:=HC.o.frozen hno0 p2;have fc:=HC.o.cell hp2;have fl:=HC.o.lt hno0;go_upto_region 5 with fail
   replace hF:=hF.setA HC.o hno0 Ws p2 (.int .i64 (-1));replace AO2:=AO2.oth (fun hn => a1.2.1) p2 (.int .i64 (-1));replace AI2:=AI2.oth (fun hn => a2.2.1) p2 (.int .i64 (-1));replace HC:=HC.setO hp2 (-1);clear fz fc fl;generalize World.setCell _ _ _ = wq at *;clear s0 s1 s2 s3 s4 s5 s6 sl;obtain ⟨s0,s1,s2,s3,s4,s5,s6,sl⟩:=Qb.d7 HC.km.s;go_upto_region 6 with fail
   have fz:=HC.i.frozen hni0 p1;have fc:=HC.i.cell hp1;have fl:=HC.i.lt hni0;go_upto_region 7 with fail
   replace hF:=hF.setA HC.i hni0 Ws p1 (.int .i64 (-1));replace AO2:=AO2.oth (fun hn => a1.2.2) p1 (.int .i64 (-1));replace AI2:=AI2.oth (fun hn => a2.2.2.1) p1 (.int .i64 (-1));replace HC:=HC.setI hp1 (-1);clear fz fc fl;generalize World.setCell _ _ _ = wq at *;clear s0 s1 s2 s3 s4 s5 s6 sl;refine Zc 16 [15] (fun x => KM bm bs (.slice Vo no co) (.slice Vi ni ci) (.slice Y no cY) (some ⟨bo,0,none⟩) (some ⟨bi,0,none⟩) (some ⟨bf,0,none⟩) no ni cO cI cX x) mixed rfl ?_;intro vz hvz;replace HC:=HC.ext hvz;replace hF:=hF.ext hvz;replace AO2:=AO2.ext hvz;replace AI2:=AI2.ext hvz;have HK:=HC.km;refine Qs (g:=3) [0,1,2,3,4,5,6,7,8,9,10,11,12] HK ?_
   constructor
   refine ⟨fun u hu => ?_,?_⟩
   ·obtain ⟨s0,s1,s2,s3,s4,s5,s6,sl⟩:=Qb.d7 hu.s;exact Qk
   refine Qj 13 ?_;have fz:=HC.o.frozen hno0 i;have fc:=HC.o.cell hi;have fl:=HC.o.lt hno0;go_wp2;replace hF:=hF.setA HC.o hno0 Ws i (.int .i64 (k : Int));replace AO2:=AO2.oth (fun hn => a1.2.1) i (.int .i64 (k : Int));replace AI2:=AI2.oth (fun hn => a2.2.1) i (.int .i64 (k : Int));replace HC:=HC.setO hi (k : Int);clear fz fc fl;generalize World.setCell _ _ _ = wq at *;replace HK:=HC.km;refine Qf HK ?_;refine Qs (g:=1) [14] HK ?_
   constructor
   refine ⟨fun u hu => ?_,?_⟩
   ·obtain ⟨s0,s1,s2,s3,s4,s5,s6,sl⟩:=Qb.d7 hu.s;exact Qk
   refine Qr 15 ?_;have fz:=HC.i.frozen hni0 k;have fc:=HC.i.cell hk;have fl:=HC.i.lt hni0;go_wp2;replace hF:=hF.setA HC.i hni0 Ws k (.int .i64 (i : Int));replace AO2:=AO2.oth (fun hn => a1.2.2) k (.int .i64 (i : Int));replace AI2:=AI2.oth (fun hn => a2.2.2.1) k (.int .i64 (i : Int));replace HC:=HC.setI hk (i : Int);clear fz fc fl;generalize World.setCell _ _ _ = wq at *;replace HK:=HC.km;refine Qq ?_;refine Qx ?_;rw [hs.out] at HC;clear HK;obtain ⟨s0,s1,s2,s3,s4,s5,s6,sl⟩:=Qb.d7 HC.km.s;go_upto_region 8 with fail
   have fz:=HC.f.frozen hni0 k;have fc:=HC.f.cell hk;have fl:=HC.f.lt hni0;go_upto_region 9 with fail
   replace hF:=hF.setA HC.f hni0 Lr k (.bool true);replace AO2:=AO2.oth (fun hn => AO2.apart2 HC.f zD hn hni0) k (.bool true);replace AI2:=AI2.oth (fun hn => AI2.apart2 HC.f zD hn hni0) k (.bool true);replace HC:=HC.setF hk (true);clear fz fc fl;generalize World.setCell _ _ _ = wq at *;clear s0 s1 s2 s3 s4 s5 s6 sl;obtain ⟨s0,s1,s2,s3,s4,s5,s6,sl⟩:=Qb.d7 HC.km.s;go_upto_region 11 with fail
   obtain ⟨mS,hmS⟩:=Qe (Ym m i k);have hms:=Qd3 (k:=k) hi hm1;rw [← hmS] at HC hR hms;clear hs hz1 hz2 hmS s0 s1 s2 s3 s4 s5 s6 sl
   go_loopw [11,12] (fun okv jv wr => ∃ (j : Nat) (om : Option Mt),j ≤ no ∧ jv = .int .i64 j ∧ okv = .bool om.isSome ∧ MS W0 wr bm bs (.slice Vo no co) (.slice Vi ni ci) (.slice Y no cY) (some ⟨bo,0,none⟩) (some ⟨bi,0,none⟩) (some ⟨bf,0,none⟩) no ni cO cI cX bo bi bf (om.getD mS) (Qh fx k true) ∧ FT W wr ∧ Qw wr 3 O2 no bo2 (fun x => .int .i64 (m.2 x)) ∧ Qw wr 3 I2 ni bi2 (fun x => .int .i64 (m.1 x)) ∧ Hid (om = none → U7 adj ni (Qh fx k true) (no - j) j mS = R) ∧ Hid (∀ m',om = some m' → R = some m')) (fun _ jv _ => no - (intOf jv).toNat)
   case atStart => exact ⟨i + 1,none,Qa,by go_num,rfl,HC,hF,AO2,AI2,zh fun _ => hR.out,zh fun _ h => by cases h⟩
   case round =>
    clear HC hF AO2 AI2 hR;obtain ⟨j,om,hj,rfl,rfl,M,hF,AO2,AI2,h1,h2⟩:=hrel;obtain ⟨wo,rfl⟩:=Qe wr
    cases om with
    | some m' =>
     have hRs:=h2.out m' rfl;subst hRs;clear h1 h2;obtain ⟨s0,s1,s2,s3,s4,s5,s6,sl⟩:=Qb.d7 M.km.s;by_cases cj : j < no
     ·have cj1 : decide ((j : Int) < (no : Int)) = true:=zt Qa;go_wp2;go_ret;exact ⟨rfl,hF,_,_,_,_,_,_,M⟩
     ·have cj1 : decide ((j : Int) < (no : Int)) = false:=zf Qa;go_wp2;go_ret
      exact ⟨rfl,hF,_,_,_,_,_,_,M⟩
    | none =>
     replace M : MS W0 wo bm bs (.slice Vo no co) (.slice Vi ni ci) (.slice Y no cY) (some ⟨bo,0,none⟩) (some ⟨bi,0,none⟩) (some ⟨bf,0,none⟩) no ni cO cI cX bo bi bf mS (Qh fx k true):=M;replace h1:=h1.out rfl;clear h2;obtain ⟨s0,s1,s2,s3,s4,s5,s6,sl⟩:=Qb.d7 M.km.s;by_cases cj : j < no;rotate_left
     ·have cj1 : decide ((j : Int) < (no : Int)) = false:=zf Qa
      obtain rfl : R = none:=by
       rw [show no - j = 0 by omega] at h1;exact h1.symm
      clear h1;go_upto_region 15 with fail
      have z3:=M.km.s.frozen 3;have z4:=M.km.s.frozen 4;go_upto_region 16 with fail
      have HS1:=Kn M.km.s 3 (.slice O2 no cO2);have hbb:=Y7 M.km.p M.km.s zD;have HP2:=Wn (Wn M.km.p hbb 3 (.slice O2 no cO2)) hbb 4 (.slice I2 ni cI2);have HS2:=Kn HS1 4 (.slice I2 ni cI2);have E2:=(M.e.setCell (p:=⟨bs,3,none⟩) hls (.slice O2 no cO2)).setCell (p:=⟨bs,4,none⟩) hls (.slice I2 ni cI2);have AO3:=(AO2.offM M.km.s zD 3 (.slice O2 no cO2)).offM HS1 zD 4 (.slice I2 ni cI2);have AI3:=(AI2.offM M.km.s zD 3 (.slice O2 no cO2)).offM HS1 zD 4 (.slice I2 ni cI2);have AF3:=(M.f.offM M.km.s zD 3 (.slice O2 no cO2)).offM HS1 zD 4 (.slice I2 ni cI2);replace hF:=(hF.setH M.km.s mt_m 3 (.slice O2 no cO2)).setH HS1 mt_m 4 (.slice I2 ni cI2)
      have M9 : MS W0 _ bm bs (.slice Vo no co) (.slice Vi ni ci) (.slice Y no cY) O2 I2 (some ⟨bf,0,none⟩) no ni cO2 cI2 cX bo2 bi2 bf m (Qh fx k true):=⟨E2,⟨HP2,HS2⟩,AO3,AI3,AF3,fun _ _ => a2.2.2.2,fun _ => a1.1,fun _ => a2.1,M.lf⟩;clear HS1 HS2 HP2 E2 AO3 AI3 AF3 AO2 AI2 z3 z4 hbb s0 s1 s2 s3 s4 s5 s6 sl M;generalize World.setCell (World.setCell _ _ _) _ _ = w9 at *;obtain ⟨s0,s1,s2,s3,s4,s5,s6,sl⟩:=Qb.d7 M9.km.s;have fz:=M9.f.frozen hni0 k;have fc:=M9.f.cell hk;have fl:=M9.f.lt hni0;go_upto_region 17 with fail
      replace hF:=hF.setA M9.f hni0 Lr k (.bool false);have M10:=M9.setF hk false;rw [Qod hf] at M10;clear fz fc fl M9 s0 s1 s2 s3 s4 s5 s6 sl;generalize World.setCell _ _ _ = w10 at *;go_wp2;go_ret;exact ⟨rfl,hF,_,_,_,_,_,_,M10⟩
     have cj1 : decide ((j : Int) < (no : Int)) = true:=zt Qa;have o0:=M.o.cell cj;have ol:=M.o.lt hno0;rw [show no - j = (no - (j + 1)) + 1 by omega] at h1;unfold U7 at h1;by_cases c : mS.2 j < 0;rotate_left
     ·have c1 : decide (mS.2 j < 0) = false:=zf c;rw [if_neg c] at h1;replace h1:=zh h1;go_upto_region 13 with fail
      refine Qy wo ?_;intro w9 h9;obtain ⟨_,_,_,_⟩:=Qv wo h9;replace M:=M.ext h9;replace hF:=hF.ext h9;replace AO2:=AO2.ext h9;replace AI2:=AI2.ext h9;clear h9 o0 ol s0 s1 s2 s3 s4 s5 s6 sl;go_wp2;exact ⟨⟨j + 1,none,Qa,by go_num,rfl,M,hF,AO2,AI2,zh fun _ => h1.out,zh fun _ h => by cases h⟩,zi⟩
     have c1 : decide (mS.2 j < 0) = true:=zt c;rw [if_pos c] at h1;replace h1:=zh h1;go_upto_region 13 with fail
     refine Zc 23 [20,21,22] (fun x => MS W0 x bm bs (.slice Vo no co) (.slice Vi ni ci) (.slice Y no cY) (some ⟨bo,0,none⟩) (some ⟨bi,0,none⟩) (some ⟨bf,0,none⟩) no ni cO cI cX bo bi bf mS (Qh fx k true) ∧ x.cell? ⟨bo,j,none⟩ = some (.int .i64 (mS.2 j)) ∧ bo < x.heap.size) mixed rfl ?_;intro vz hvz;replace hF:=hF.ext hvz;replace AO2:=AO2.ext hvz;replace AI2:=AI2.ext hvz;have HC:=And.intro (M.ext hvz) (And.intro ((hvz.cell (p:=⟨bo,j,none⟩) ol).trans o0) (Nat.lt_of_lt_of_le ol hvz.size));clear M o0 ol s0 s1 s2 s3 s4 s5 s6 sl;refine Qs (g:=14) [0,1,2,3,4,5,6,7,8] HC ?_
     constructor
     refine ⟨fun u hu => ?_,?_⟩
     ·obtain ⟨s0,s1,s2,s3,s4,s5,s6,sl⟩:=Qb.d7 hu.1.km.s;have o0:=hu.2.1;have ol:=hu.2.2;exact Qk
     refine Vs (g:=13) 9 rfl zK zK zK HC ?_;simp only [Zg,Zh,Zi];apply Exists.intro;refine ⟨fun u hu => ?_,?_⟩
     ·obtain ⟨s0,s1,s2,s3,s4,s5,s6,sl⟩:=Qb.d7 hu.1.km.s;have o0:=hu.2.1;have ol:=hu.2.2;exact Qk
     refine Vs (g:=12) 10 rfl zK zK zK HC ?_;simp only [Zg,Zh,Zi];apply Exists.intro;refine ⟨fun u hu => ?_,?_⟩
     ·obtain ⟨s0,s1,s2,s3,s4,s5,s6,sl⟩:=Qb.d7 hu.1.km.s;have o0:=hu.2.1;have ol:=hu.2.2;exact Qk
     refine Vs (g:=11) 11 rfl zK zK zK HC ?_;simp only [Zg,Zh,Zi];apply Exists.intro;refine ⟨fun u hu => ?_,?_⟩
     ·obtain ⟨s0,s1,s2,s3,s4,s5,s6,sl⟩:=Qb.d7 hu.1.km.s;have o0:=hu.2.1;have ol:=hu.2.2;exact Qk
     refine Vs (g:=10) 12 rfl zK zK zK HC ?_;simp only [Zg,Zh,Zi];apply Exists.intro;refine ⟨fun u hu => ?_,?_⟩
     ·obtain ⟨s0,s1,s2,s3,s4,s5,s6,sl⟩:=Qb.d7 hu.1.km.s;have o0:=hu.2.1;have ol:=hu.2.2;exact Qk
     refine Vs (g:=9) 13 rfl zK zK zK HC ?_;simp only [Zg,Zh,Zi];apply Exists.intro;refine ⟨fun u hu => ?_,?_⟩
     ·obtain ⟨s0,s1,s2,s3,s4,s5,s6,sl⟩:=Qb.d7 hu.1.km.s;have o0:=hu.2.1;have ol:=hu.2.2;exact Qk
     refine Vs (g:=8) 14 rfl zK zK zK HC ?_;simp only [Zg,Zh,Zi];apply Exists.intro;refine ⟨fun u hu => ?_,?_⟩
     ·obtain ⟨s0,s1,s2,s3,s4,s5,s6,sl⟩:=Qb.d7 hu.1.km.s;have o0:=hu.2.1;have ol:=hu.2.2;exact Qk
     refine Vs (g:=7) 15 rfl zK zK zK HC ?_;simp only [Zg,Zh,Zi];apply Exists.intro;refine ⟨fun u hu => ?_,?_⟩
     ·obtain ⟨s0,s1,s2,s3,s4,s5,s6,sl⟩:=Qb.d7 hu.1.km.s;have o0:=hu.2.1;have ol:=hu.2.2;exact Qk
     refine Vs (g:=6) 16 rfl zK zK zK HC ?_;simp only [Zg,Zh,Zi];apply Exists.intro;refine ⟨fun u hu => ?_,?_⟩
     ·obtain ⟨s0,s1,s2,s3,s4,s5,s6,sl⟩:=Qb.d7 hu.1.km.s;have o0:=hu.2.1;have ol:=hu.2.2;exact Qk
     refine Vs (g:=5) 17 rfl zK zK zK HC ?_;simp only [Zg,Zh,Zi];apply Exists.intro;refine ⟨fun u hu => ?_,?_⟩
     ·obtain ⟨s0,s1,s2,s3,s4,s5,s6,sl⟩:=Qb.d7 hu.1.km.s;have o0:=hu.2.1;have ol:=hu.2.2;exact Qk
     refine Vs (g:=4) 18 rfl zK zK zK HC ?_;simp only [Zg,Zh,Zi];apply Exists.intro;refine ⟨fun u hu => ?_,?_⟩
     ·obtain ⟨s0,s1,s2,s3,s4,s5,s6,sl⟩:=Qb.d7 hu.1.km.s;have o0:=hu.2.1;have ol:=hu.2.2;exact Qk
     refine Qj 19 ?_;go_wp2;obtain ⟨bn,wb,hbq,hwb,HN,_,hx,gp⟩:=Ql HC.1.e 4 (Array.replicate ni (.bool false));have hnf : 0 < ni → bn ≠ bf:=fun h => by have:=HC.1.f.lt h;omega
     have hln : 0 < ni → W0.heap.size ≤ bn:=fun _ => gp
     have q1:=AO2.lt hno0;have q2:=AI2.lt hni0;rw [← hbq] at q1 q2;rw [← hbq,← hwb];have AN : Qw wb 4 (some ⟨bn,0,none⟩) ni bn (fun x => .bool ((fun _ => false : Bl) x)):=⟨fun _ => rfl,fun _ => ⟨_,HN,by simp,fun k hk => by simp [hk]⟩⟩;replace HC:=And.intro (HC.1.ext hx) (And.intro ((hx.cell (p:=⟨bo,j,none⟩) HC.2.2).trans HC.2.1) (Nat.lt_of_lt_of_le HC.2.2 hx.size));replace hF:=hF.ext hx;replace AO2:=AO2.ext hx;replace AI2:=AI2.ext hx;clear hbq hwb hx HN gp;refine Qf HC ?_;refine Qr 20 ?_;go_wp2_with (go_at_call 127;refine zc (Am W0 bm bs (.slice Vo no co) (.slice Vi ni ci) (.slice Y no cY) (some ⟨bo,0,none⟩) (some ⟨bi,0,none⟩) (some ⟨bf,0,none⟩) no ni cO cI cX bo bi bf mS (Qh fx k true) hadj hY hms ni _ (fun _ => false) j _ _ bn cj (Mf ni _) HC.1 AN hnf hln) ?_;rintro e w6 ⟨rfl,M6,F6,sn3,N6,hb3⟩)
     replace hF:=hF.fr F6 HC.1.o HC.1.i AN;refine Qq ?_;refine Yg (g:=1) [21] ?_
     constructor
     refine ⟨fun u hu => ?_,?_⟩
     ·exact Qk
     refine Qr 22 ?_;go_wp2;refine Qq ?_;refine Qx ?_;replace M6 : MS W0 w6 bm bs (.slice Vo no co) (.slice Vi ni ci) (.slice Y no cY) (some ⟨bo,0,none⟩) (some ⟨bi,0,none⟩) (some ⟨bf,0,none⟩) no ni cO cI cX bo bi bf ((Q4 adj ni mS (Qh fx k true) j).1.getD mS) (Qh fx k true):=M6
     replace AO2:=AO2.fr F6 (fun _ hs => by
      rcases hs with ⟨_,e⟩ | ⟨_,e | e⟩
      ·exact a1.2.1 e
      ·exact a1.2.2 e
      ·omega)
     replace AI2:=AI2.fr F6 (fun _ hs => by
      rcases hs with ⟨_,e⟩ | ⟨_,e | e⟩
      ·exact a2.2.1 e
      ·exact a2.2.2.1 e
      ·omega)
     clear F6 N6 hb3 sn3 AN q1 q2 HC;go_wp2;refine ⟨⟨j + 1,(Q4 adj ni mS (Qh fx k true) j).1,Qa,by go_num,rfl,M6,hF,AO2,AI2,zh fun e => ?_,zh fun m' e => ?_⟩,zi⟩
     ·have h:=h1.out;rw [e] at h;exact h
     ·have h:=h1.out;rw [e] at h;exact h.symm
structure Rg (no ni : Nat) (m : Mt) : Prop where
 i : ∀ x,x < ni → 0 ≤ m.1 x → (m.1 x).toNat < no
 o : ∀ x,x < no → 0 ≤ m.2 x → (m.2 x).toNat < ni
section
variable {no ni : Nat} {adj : Nat → List Nat}
theorem Rg.set {m : Mt} (h : Rg no ni m) {i k : Nat} (hi : i < no) (hk : k < ni) : Rg no ni (Xf m k i):=by
 refine ⟨fun x hx h0 => ?_,fun x hx h0 => ?_⟩
 ·have h0 : 0 ≤ Qh m.1 k i x:=h0
  show (Qh m.1 k i x).toNat < no
  by_cases e : x = k
  ·subst e;rw [Z9];simpa using hi
  ·rw [Zp _ _ e] at h0 ⊢;exact h.i x hx h0
 ·have h0 : 0 ≤ Qh m.2 i k x:=h0
  show (Qh m.2 i k x).toNat < ni
  by_cases e : x = i
  ·subst e;rw [Z9];simpa using hk
  ·rw [Zp _ _ e] at h0 ⊢;exact h.o x hx h0
theorem Tz {rec : Mt → Bl → Nat → Option Mt × Bl} (hrec : ∀ m b p m',Rg no ni m → p < no → (rec m b p).1 = some m' → Rg no ni m') {i : Nat} (hi : i < no) : ∀ (l : List Nat),(∀ k ∈ l,k < ni) → ∀ m b m',Rg no ni m → (Z4 rec i l m b).1 = some m' → Rg no ni m'
 | [],_,_,_,_,_,h => by cases h
 | k :: r,hl,m,b,m',hm,h => by
  have hk:=hl k (List.mem_cons_self ..);have hr:=fun x hx => hl x (List.mem_cons_of_mem _ hx)
  unfold Z4 at h
  split at h
  ·exact Tz hrec hi r hr m b m' hm h
  ·split at h
   ·injection h with h;subst h;exact hm.set hi hk
   ·rename_i h1 h2
    cases e : rec m (Qh b k true) (m.1 k).toNat with
    | mk ro b' =>
     rw [e] at h;have hp:=hm.i k hk Qa
     cases ro with
     | none => exact Tz hrec hi r hr m b' m' hm h
     | some m1 =>
      injection h with h;subst h
      exact (hrec m _ _ m1 hm hp (by rw [e])).set hi hk
theorem Sb (hadj : ∀ o,∀ k ∈ adj o,k < ni) : ∀ (n : Nat) m b i m',Rg no ni m → i < no → (Q4 adj n m b i).1 = some m' → Rg no ni m'
 | 0,_,_,_,_,_,_,h => by cases h
 | n + 1,m,b,i,m',hm,hi,h => Tz (fun m b p m' h1 h2 h3 => Sb hadj n m b p m' h1 h2 h3) hi (adj i) (hadj i) m b m' hm h
theorem Pk (hadj : ∀ o,∀ k ∈ adj o,k < ni) (fx : Bl) : ∀ (n s : Nat) m,s + n ≤ no → Rg no ni m → Rg no ni (Zt adj ni fx n s m).1
 | 0,_,_,_,hm => hm
 | n + 1,s,m,hs,hm => by
  unfold Zt
  cases e : (Q4 adj ni m fx s).1 with
  | none => exact Pk hadj fx n (s + 1) m Qa hm
  | some m' => exact Pk hadj fx n (s + 1) m' Qa (Sb hadj ni m fx s m' hm Qa e)
theorem Qll : Rg no ni Jg:=⟨fun _ _ h => by have h : (0 : Int) ≤ -1:=h;omega,fun _ _ h => by have h : (0 : Int) ≤ -1:=h;omega⟩
theorem Qd4 {m : Mt} (h : Rg no ni m) {i k : Nat} (hi : i < no) (hk : k < ni) : Rg no ni (Ym m i k):=by
 refine ⟨Qd3 hi h.i,fun x hx h0 => ?_⟩;have h0 : 0 ≤ Qh (if 0 ≤ m.1 k then Qh m.2 (m.1 k).toNat (-1) else m.2) i k x:=h0
 show (Qh (if 0 ≤ m.1 k then Qh m.2 (m.1 k).toNat (-1) else m.2) i k x).toNat < ni
 by_cases e : x = i
 ·subst e;rw [Z9];simpa using hk
 ·rw [Zp _ _ e] at h0 ⊢;by_cases c : 0 ≤ m.1 k
  ·rw [if_pos c] at h0 ⊢;by_cases e2 : x = (m.1 k).toNat
   ·subst e2;rw [Z9] at h0;omega
   ·rw [Zp _ _ e2] at h0 ⊢;exact h.o x hx h0
  ·rw [if_neg c] at h0 ⊢;exact h.o x hx h0
theorem Qn1 {m m' : Mt} {fx : Bl} (hadj : ∀ o,∀ k ∈ adj o,k < ni) (h : Rg no ni m) {i k : Nat} (hi : i < no) (hk : k < ni) (e : Xy adj ni no fx m i k = some m') : Rg no ni m':=by
 unfold Xy at e
 split at e
 ·injection e with e;subst e;exact Qd4 h hi hk
 ·obtain ⟨j,h1,_,h3⟩:=Bs e;exact Sb hadj ni _ _ j m' (Qd4 h hi hk) Qa h3
end
def Qb6 (adj : Nat → List Nat) (ni no n i : Nat) (m : Mt) (fx : Bl) : Option (Nat × Mt × Bl) → List (Nat × Nat)
 | some (k,m',fx') => (i,k) :: Ya adj ni no n (i + 1) m' fx'
 | none => Ya adj ni no n (i + 1) m fx
theorem Ed (adj : Nat → List Nat) (ni no n i : Nat) (m : Mt) (fx : Bl) : Ya adj ni no (n + 1) i m fx = Qb6 adj ni no n i m fx (Xo adj ni no i (adj i) m fx):=by
 conv => lhs;unfold Ya
 cases Xo adj ni no i (adj i) m fx with
 | none => rfl
 | some p => rfl
theorem Qal : (Tryz.prog.info? 35).map (fun i => (i.zero,i.size,i.bytes)) = some (some (.agg #[.int .i64 0,.int .i64 0,.int .i64 0,.int .i64 0]),4,32):=by kernel_rfl
def Uf (ro ri : Nat → Rf) (p : Nat × Nat) : List Value:=[.int .i64 (ro p.1).1,.int .i64 (ro p.1).2,.int .i64 (ri p.2).1,.int .i64 (ri p.2).2]
theorem Sk (a b c d : Int) : ∀ u ∈ [Value.int .i64 a,.int .i64 b,.int .i64 c,.int .i64 d],u.oneCell' = true:=by simp [Value.oneCell']
theorem Di {W W' : World} {base n : Nat} {v : Value} {xs : List Value} (h : W.ownsRow base 35 4 v n xs) (f : FT W W') : W'.ownsRow base 35 4 v n xs:=by
 refine ⟨h.1,?_⟩;rcases h.2 with hn | ⟨g,cap,cur,hv,hb,hg,rest⟩
 ·exact .inl hn
 ·exact .inr ⟨g,cap,cur,hv,hb,f g 35 cur hg (by unfold MT;decide),rest⟩
theorem MS.grown {W0 W W' : World} {bm bs : Nat} {vo vi vy : Value} {O I X : OA} {no ni cO cI cX : Nat} {bo bi bf : Nat} {m : Mt} {fx : Bl} {v : Value} {n : Nat} {xs : List Value} (h : MS W0 W bm bs vo vi vy O I X no ni cO cI cX bo bi bf m fx) (ho : W.ownsRow W0.heap.size 35 4 v n xs) (hg : W.grownBy W' v.ownBlock) : MS W0 W' bm bs vo vi vy O I X no ni cO cI cX bo bi bf m fx :=
 ⟨h.e.grown hg (fun q hq => (Xe ho q hq).1),⟨h.km.p.kept hg (h.km.p.not_row zD ho),h.km.s.kept hg (h.km.s.not_row zD ho)⟩,
  h.o.kept hg (fun hn => by obtain ⟨cs,h1,_⟩:=h.o.h hn;exact h1.not_row zD ho),
  h.i.kept hg (fun hn => by obtain ⟨cs,h1,_⟩:=h.i.h hn;exact h1.not_row zD ho),
  h.f.kept hg (fun hn => by obtain ⟨cs,h1,_⟩:=h.f.h hn;exact h1.not_row zD ho),h.oi,h.lo,h.li,h.lf⟩
set_option maxHeartbeats 40000000 in
theorem Qgs {adj : Nat → List Nat} (W0 : World) (bm bs : Nat) (Vo Vi : OA) (co ci : Nat) (vy : Value) (O I X : OA) (no ni cO cI cX bo bi bf : Nat) (m : Mt) (ro ri : Nat → Rf) (hadj : ∀ o,∀ k ∈ adj o,k < ni) (hY : Nw W0 vy no adj) (hVo : Qm W0 Vo no 2 (fun i => [.int .i64 ((ro i).1 : Nat),.int .i64 ((ro i).2 : Nat)])) (hVi : Qm W0 Vi ni 2 (fun i => [.int .i64 ((ri i).1 : Nat),.int .i64 ((ri i).2 : Nat)])) (hno : no ≤ 1000000) (hni : ni ≤ 1000000) (hls : W0.heap.size ≤ bs) (hG : Rg no ni m) (W : World) (hM : MS W0 W bm bs (.slice Vo no co) (.slice Vi ni ci) (vy) O I X no ni cO cI cX bo bi bf m (fun _ => false)) :
  Calls Tryz.prog 81 #[.pointer (some ⟨bs,0,none⟩)] W fun e W' => ∃ v,e = .returned v ∧ Qc W0 W' ∧ W'.ownsRow W0.heap.size 35 4 v (Ya adj ni no no 0 m (fun _ => false)).length ((Ya adj ni no no 0 m (fun _ => false)).flatMap (Uf ro ri)):=by
 obtain ⟨Y,cY,vs,rfl,hYr,hYi⟩:=id hY;obtain ⟨RES,hRES⟩:=Qe (Ya adj ni no no 0 m (fun _ => false));rw [← hRES];replace hRES : Hid ([] ++ Ya adj ni no (no - 0) 0 m (fun _ => false) = RES):=zh hRES.symm;obtain ⟨i0,hi0,hz0,hz1,hz2⟩:=info_parts Qal
 go_enter Tryz.func81,Tryz.ntmps81
 obtain ⟨s0,s1,s2,s3,s4,s5,s6,sl⟩:=Qb.d7 hM.km.s;go_upto_region 3 with fail
 clear s0 s1 s2 s3 s4 s5 s6 sl
 go_loopw [3,12] (fun lv iv wr => ∃ (i : Nat) (Qt : List (Nat × Nat)) (m : Mt) (fx : Bl) (O I : OA) (cO cI bo bi : Nat),i ≤ no ∧ Qt.length ≤ i ∧ iv = .int .i64 i ∧ MS W0 wr bm bs (.slice Vo no co) (.slice Vi ni ci) (.slice Y no cY) O I X no ni cO cI cX bo bi bf m fx ∧ wr.ownsRow W0.heap.size 35 4 lv Qt.length (Qt.flatMap (Uf ro ri)) ∧ Rg no ni m ∧ Hid (Qt ++ Ya adj ni no (no - i) i m fx = RES)) (fun _ iv _ => no - (intOf iv).toNat)
 case atStart => exact ⟨0,[],m,_,_,_,_,_,_,_,Nat.zero_le _,Nat.le_refl _,rfl,hM,⟨rfl,.inl ⟨rfl,rfl⟩⟩,hG,hRES⟩
 case round =>
  clear hM hG hRES;obtain ⟨i,Qt,m,fx,O,I,cO,cI,bo,bi,hi,hpl,rfl,M,hO,hG,hR⟩:=hrel;obtain ⟨wo,rfl⟩:=Qe wr;by_cases hlt : i < no;rotate_left
  ·obtain rfl : i = no:=Qa
   have e : Qt = RES:=by
    have h:=hR.out;rw [Nat.sub_self] at h;rw [← h];exact (List.append_nil _).symm
   subst e;clear hR;go_wp2;go_ret;exact ⟨_,rfl,M.e,hO⟩
  have hno0 : 0 < no:=Qa;obtain ⟨F,mcap,rfl⟩:=Jn hO;obtain ⟨D,cD,hl6,hv,hDr⟩:=hYi i hlt;obtain ⟨b,off,hYe,hb,hcc⟩:=hYr hno0;subst hYe
  have c0 : W0.cell? ⟨b,off + i,none⟩ = some (.slice D (adj i).length cD):=by
   have:=hcc i 0 (vs i) hlt rfl;rw [hv] at this
   simpa using this
  clear hcc hv;obtain ⟨bv,ov,hVe,hbv,hcv⟩:=hVo hno0;subst hVe;have cv0 : W0.cell? ⟨bv,ov + i * 2,none⟩ = some (.int .i64 ((ro i).1 : Nat)):=by simpa using hcv i 0 _ hlt rfl
  have cv1 : W0.cell? ⟨bv,ov + i * 2 + 1,none⟩ = some (.int .i64 ((ro i).2 : Nat)):=by simpa using hcv i 1 _ hlt rfl
  clear hcv;obtain ⟨la,hla⟩:=Qe ((adj i).length);rw [← hla] at c0 hDr hl6;obtain ⟨RK,hRK⟩:=Qe (Xo adj ni no i (adj i) m fx)
  have hR1 : Qt ++ Qb6 adj ni no (no - (i + 1)) i m fx RK = RES:=by
   have h:=hR.out;rw [show no - i = (no - (i + 1)) + 1 by omega,Ed] at h;rw [hRK];exact h
  replace hla:=zh hla;replace hRK : Hid (Xo adj ni no i ((adj i).drop 0) m fx = RK):=zh hRK.symm;replace hR:=zh hR1;clear hR1;have c0o:=(M.e.cell (p:=⟨b,off + i,none⟩) hb).trans c0;have hbo:=Nat.lt_of_lt_of_le hb M.e.size;obtain ⟨s0,s1,s2,s3,s4,s5,s6,sl⟩:=Qb.d7 M.km.s;go_upto_region 6 with fail
  clear c0o hbo c0 s0 s1 s2 s3 s4 s5 s6 sl
  go_loopw [3,23] (fun lv tv wr => ∃ (t : Nat) (O I : OA) (cO cI bo bi : Nat),lv = .slice F Qt.length mcap ∧ t ≤ la ∧ tv = .int .i64 t ∧ MS W0 wr bm bs (.slice (some ⟨bv,ov,none⟩) no co) (.slice Vi ni ci) (.slice (some ⟨b,off,none⟩) no cY) O I X no ni cO cI cX bo bi bf m fx ∧ wr.ownsRow W0.heap.size 35 4 (.slice F Qt.length mcap) Qt.length (Qt.flatMap (Uf ro ri)) ∧ Hid (Xo adj ni no i ((adj i).drop t) m fx = RK)) (fun _ tv _ => la - (intOf tv).toNat)
  case atStart => exact ⟨0,_,_,_,_,_,_,rfl,Nat.zero_le _,rfl,M,hO,hRK⟩
  case round =>
   clear M hO hRK;obtain ⟨t,O,I,cO,cI,bo,bi,rfl,ht,rfl,M,hO,hRK⟩:=hrel;obtain ⟨w1,rfl⟩:=Qe wr;by_cases hlt2 : t < la;rotate_left
   ·obtain rfl : t = la:=Qa
    have e : RK = none:=by
     have h:=hRK.out;rw [hla.out,List.drop_length] at h;exact h.symm
    subst e;clear hRK;go_wp2;exact ⟨⟨i + 1,Qt,m,fx,_,_,_,_,_,_,Qa,Qa,by go_num,M,hO,hG,hR⟩,zi⟩
   obtain ⟨bd,od,rfl,hbd,hcd⟩:=(hDr.ext M.e) Qa;obtain ⟨k,hk⟩:=Qe ((adj i).getD t 0)
   have d0 : w1.cell? ⟨bd,od + t,none⟩ = some (.int .i64 (k : Int)):=by
    have:=hcd t 0 (.int .i64 (((adj i).getD t 0 : Nat) : Int)) hlt2 rfl;rw [← hk] at this
    simpa using this
   clear hcd;have hkn : k < ni:=hadj i k (by rw [hk];exact J6 (by rw [← hla.out];exact hlt2));have hdr:=S4 (l:=adj i) (t:=t) (by rw [← hla.out];exact hlt2);rw [← hk] at hdr;clear hk;have hni0 : 0 < ni:=Qa;obtain ⟨bu,ou,hUe,hbu,hcu⟩:=hVi hni0;have cu0 : W0.cell? ⟨bu,ou + k * 2,none⟩ = some (.int .i64 ((ri k).1 : Nat)):=by simpa using hcu k 0 _ hkn rfl
   have cu1 : W0.cell? ⟨bu,ou + k * 2 + 1,none⟩ = some (.int .i64 ((ri k).2 : Nat)):=by simpa using hcu k 1 _ hkn rfl
   clear hcu;subst hUe;have hXe:=M.f.a hni0;have hIe:=M.i.a hni0;have hOe:=M.o.a hno0;subst hXe;subst hIe;subst hOe;have x0:=M.f.cell hkn;have xl:=M.f.lt hni0;have o0:=M.o.cell hlt;have ol:=M.o.lt hno0;replace hRK:=hRK.out;rw [hdr] at hRK;unfold Xo at hRK;clear hdr;obtain ⟨s0,s1,s2,s3,s4,s5,s6,sl⟩:=Qb.d7 M.km.s;cases hf : fx k
   rotate_left
   ·rw [hf] at x0 hRK;replace hRK:=zh hRK;go_wp2;exact ⟨⟨t + 1,_,_,_,_,_,_,rfl,Qa,by go_num,M,hO,hRK⟩,zi⟩
   rw [hf] at x0 hRK;replace hRK : (if m.2 i = (k : Int) then some (k,m,Qh fx k true) else match Xy adj ni no fx m i k with | some m' => some (k,m',Qh fx k true) | none => Xo adj ni no i ((adj i).drop (t + 1)) m fx) = RK:=hRK;by_cases ge : m.2 i = (k : Int)
   ·have ge1 : (m.2 i == (k : Int)) = true:=beq_iff_eq.2 ge;rw [if_pos ge] at hRK;replace hRK : RK = some (k,m,Qh fx k true):=hRK.symm;subst hRK;replace hR : Hid (Qt ++ (i,k) :: Ya adj ni no (no - (i + 1)) (i + 1) m (Qh fx k true) = RES):=hR;clear ge;have fz:=M.f.frozen hni0 k;go_upto_region 12 with fail
    have hF:=(FT.refl w1).setA M.f hni0 Lr k (.bool true);have HC:=M.setF hkn true;replace hO:=Di hO hF;clear fz x0 xl o0 ol d0 hbd M hF;generalize World.setCell _ _ _ = wq at *;clear s0 s1 s2 s3 s4 s5 s6 sl;refine Zc 19 [18] (fun x => MS W0 x bm bs (.slice (some ⟨bv,ov,none⟩) no co) (.slice (some ⟨bu,ou,none⟩) ni ci) (.slice (some ⟨b,off,none⟩) no cY) (some ⟨bo,0,none⟩) (some ⟨bi,0,none⟩) (some ⟨bf,0,none⟩) no ni cO cI cX bo bi bf m (Qh fx k true)) mixed rfl ?_;intro vz hvz;replace HC:=HC.ext hvz;replace hO:=J0 hO hvz;refine Qs (g:=3) [0,1,2,3,4,5,6,7,8,9,10,11,12,13,14,15] HC ?_
    constructor
    refine ⟨fun u hu => ?_,?_⟩
    ·obtain ⟨s0,s1,s2,s3,s4,s5,s6,sl⟩:=Qb.d7 hu.km.s;have y0:=(hu.e.cell (p:=⟨bv,ov + i * 2,none⟩) hbv).trans cv0;have y1:=(hu.e.cell (p:=⟨bv,ov + i * 2 + 1,none⟩) hbv).trans cv1;have z0:=(hu.e.cell (p:=⟨bu,ou + k * 2,none⟩) hbu).trans cu0;have z1:=(hu.e.cell (p:=⟨bu,ou + k * 2 + 1,none⟩) hbu).trans cu1;have yl:=Nat.lt_of_lt_of_le hbv hu.e.size;have zl:=Nat.lt_of_lt_of_le hbu hu.e.size;exact Qk
    refine Qj 16 ?_;go_wp2;obtain ⟨bq,wb,hbq,hwb,Q6,_,hx,hge⟩:=Ql HC.e 35 #[.int .i64 (ro i).1,.int .i64 (ro i).2,.int .i64 (ri k).1,.int .i64 (ri k).2];rw [← hbq,← hwb];clear hbq hwb;replace HC:=HC.ext hx;replace hO:=J0 hO hx;clear hx;refine Qf HC ?_;refine Qj 17 ?_;go_wp2_with (at_builtin;refine wpList_append_own_at _ rfl _ _ 28 rfl W0.heap.size 35 i0 (.agg #[.int .i64 0,.int .i64 0,.int .i64 0,.int .i64 0]) 4 32 Tryz.underlying28 hi0 hz0 hz1 hz2 rfl zD _ _ _ rfl hO ⟨bq,0,none⟩ 1 1 [.int .i64 (ro i).1,.int .i64 (ro i).2,.int .i64 (ri k).1,.int .i64 (ri k).2] rfl rfl (Wf Q6) (Sk _ _ _ _) (by unfold maxLen;omega) Qa HC.e.size ?_;intro vn wn hown hgrow _ _)
    replace HC:=HC.grown hO hgrow;clear hgrow Q6;refine Qf HC ?_;refine Qr 18 ?_;go_wp2;refine Qq ?_;refine Qx ?_
    have hR2 : Hid ((Qt ++ [(i,k)]) ++ Ya adj ni no (no - (i + 1)) (i + 1) m (Qh fx k true) = RES):=by
     have h:=hR.out;rw [List.append_assoc];exact h
    have hown2 : wn.ownsRow W0.heap.size 35 4 vn (Qt ++ [(i,k)]).length ((Qt ++ [(i,k)]).flatMap (Uf ro ri)):=by
     rw [List.length_append,List.flatMap_append];exact hown
    clear hown hO hR;go_wp2;exact ⟨⟨i + 1,Qt ++ [(i,k)],_,_,_,_,_,_,_,_,Qa,by rw [List.length_append];show Qt.length + 1 ≤ i + 1;omega,by go_num,HC,hown2,hG,hR2⟩,zi⟩
   have ge1 : (m.2 i == (k : Int)) = false:=zb ge;rw [if_neg ge] at hRK;clear ge;have NS:=Qnz W0 bm bs (some ⟨bv,ov,none⟩) (some ⟨bu,ou,none⟩) co ci (.slice (some ⟨b,off,none⟩) no cY) (some ⟨bo,0,none⟩) (some ⟨bi,0,none⟩) (some ⟨bf,0,none⟩) no ni cO cI cX bo bi bf m fx i k hadj hY hlt hkn hno hni hls hf hG.i hG.o w1 M;go_upto_region 11 with fail
   cases es : Xy adj ni no fx m i k with
   | none =>
    rw [es] at NS hRK;replace hRK : Hid (Xo adj ni no i ((adj i).drop (t + 1)) m fx = RK):=hRK;simp only [Option.isSome,Option.getD] at NS;go_upto_region 13 with (go_at_call 128;(with_reducible refine Calls.mono NS ?_);rintro e w3 ⟨rfl,hF,O,I,cO,cI,bo,bi,HC⟩)
    replace HC : MS W0 w3 bm bs (.slice (some ⟨bv,ov,none⟩) no co) (.slice (some ⟨bu,ou,none⟩) ni ci) (.slice (some ⟨b,off,none⟩) no cY) O I (some ⟨bf,0,none⟩) no ni cO cI cX bo bi bf m fx:=HC;replace hO:=Di hO hF;clear NS hF x0 xl o0 ol d0 hbd M es;go_wp2
    exact ⟨⟨t + 1,_,_,_,_,_,_,rfl,Qa,by go_num,HC,hO,hRK⟩,zi⟩
   | some m' =>
    rw [es] at NS hRK;replace hRK : RK = some (k,m',Qh fx k true):=hRK.symm;subst hRK;replace hR : Hid (Qt ++ (i,k) :: Ya adj ni no (no - (i + 1)) (i + 1) m' (Qh fx k true) = RES):=hR;have hG2:=Qn1 hadj hG hlt hkn es;simp only [Option.isSome,Option.getD] at NS;go_upto_region 12 with (go_at_call 128;(with_reducible refine Calls.mono NS ?_);rintro e w3 ⟨rfl,hF,O,I,cO,cI,bo,bi,HC⟩)
    replace HC : MS W0 w3 bm bs (.slice (some ⟨bv,ov,none⟩) no co) (.slice (some ⟨bu,ou,none⟩) ni ci) (.slice (some ⟨b,off,none⟩) no cY) O I (some ⟨bf,0,none⟩) no ni cO cI cX bo bi bf m' (Qh fx k true):=HC;replace hO:=Di hO hF;clear NS hF x0 xl o0 ol d0 hbd M es;have hOe:=HC.o.a hno0;have hIe:=HC.i.a hni0;subst hOe;subst hIe;clear s0 s1 s2 s3 s4 s5 s6 sl;refine Zc 19 [18] (fun x => MS W0 x bm bs (.slice (some ⟨bv,ov,none⟩) no co) (.slice (some ⟨bu,ou,none⟩) ni ci) (.slice (some ⟨b,off,none⟩) no cY) (some ⟨bo,0,none⟩) (some ⟨bi,0,none⟩) (some ⟨bf,0,none⟩) no ni cO cI cX bo bi bf m' (Qh fx k true)) mixed rfl ?_;intro vz hvz;replace HC:=HC.ext hvz;replace hO:=J0 hO hvz
    refine Qs (g:=3) [0,1,2,3,4,5,6,7,8,9,10,11,12,13,14,15] HC ?_
    constructor
    refine ⟨fun u hu => ?_,?_⟩
    ·obtain ⟨s0,s1,s2,s3,s4,s5,s6,sl⟩:=Qb.d7 hu.km.s;have y0:=(hu.e.cell (p:=⟨bv,ov + i * 2,none⟩) hbv).trans cv0;have y1:=(hu.e.cell (p:=⟨bv,ov + i * 2 + 1,none⟩) hbv).trans cv1;have z0:=(hu.e.cell (p:=⟨bu,ou + k * 2,none⟩) hbu).trans cu0;have z1:=(hu.e.cell (p:=⟨bu,ou + k * 2 + 1,none⟩) hbu).trans cu1;have yl:=Nat.lt_of_lt_of_le hbv hu.e.size;have zl:=Nat.lt_of_lt_of_le hbu hu.e.size;exact Qk
    refine Qj 16 ?_;go_wp2;obtain ⟨bq,wb,hbq,hwb,Q6,_,hx,hge⟩:=Ql HC.e 35 #[.int .i64 (ro i).1,.int .i64 (ro i).2,.int .i64 (ri k).1,.int .i64 (ri k).2];rw [← hbq,← hwb];clear hbq hwb;replace HC:=HC.ext hx;replace hO:=J0 hO hx;clear hx;refine Qf HC ?_;refine Qj 17 ?_;go_wp2_with (at_builtin;refine wpList_append_own_at _ rfl _ _ 28 rfl W0.heap.size 35 i0 (.agg #[.int .i64 0,.int .i64 0,.int .i64 0,.int .i64 0]) 4 32 Tryz.underlying28 hi0 hz0 hz1 hz2 rfl zD _ _ _ rfl hO ⟨bq,0,none⟩ 1 1 [.int .i64 (ro i).1,.int .i64 (ro i).2,.int .i64 (ri k).1,.int .i64 (ri k).2] rfl rfl (Wf Q6) (Sk _ _ _ _) (by unfold maxLen;omega) Qa HC.e.size ?_;intro vn wn hown hgrow _ _)
    replace HC:=HC.grown hO hgrow;clear hgrow Q6;refine Qf HC ?_;refine Qr 18 ?_;go_wp2;refine Qq ?_;refine Qx ?_
    have hR2 : Hid ((Qt ++ [(i,k)]) ++ Ya adj ni no (no - (i + 1)) (i + 1) m' (Qh fx k true) = RES):=by
     have h:=hR.out;rw [List.append_assoc];exact h
    have hown2 : wn.ownsRow W0.heap.size 35 4 vn (Qt ++ [(i,k)]).length ((Qt ++ [(i,k)]).flatMap (Uf ro ri)):=by
     rw [List.length_append,List.flatMap_append];exact hown
    clear hown hO hR;go_wp2;exact ⟨⟨i + 1,Qt ++ [(i,k)],_,_,_,_,_,_,_,_,Qa,by rw [List.length_append];show Qt.length + 1 ≤ i + 1;omega,by go_num,HC,hown2,hG2,hR2⟩,zi⟩
end
end Go.Proofs.YtoflcheopfppoaaGreatDoor

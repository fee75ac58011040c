/- Walks of the program's functions and plain facts, packed; proved: the lemmas below; no conditions but those that each states. -/
import Derived.Test.YtoflcheopfppoaaGreatDoorI10
import Derived.Test.YtoflcheopfppoaaGreatDoorI1
set_option maxRecDepth 100000
set_option maxHeartbeats 4000000
namespace Go.Proofs.YtoflcheopfppoaaGreatDoor
section
open Go Go.RowKit Go.Shelf
attribute [local go_sem] Zx
theorem Qkm (n : Nat) (hn : n < 9223372036854775808) (w : World) :
  Calls Tryz.prog 189 #[.int .u64 1,.int .u64 (n : Int)] w fun e w' => e = .returned (.tuple #[.int .u64 0,.int .u64 (n : Int)]) ∧ w = w':=by
 have h:=Qa0 1 n (by decide) Qa w;rw [show (1 * n / 18446744073709551616 : Nat) = 0 by omega,show (1 * n % 18446744073709551616 : Nat) = n by omega] at h;exact h
theorem Gw : Tryz.prog.elem 125 = 3:=by kernel_rfl
theorem Qc0 (w : World) : (sizeOf 3).run Tryz.prog w = .ok 1 w:=by
 obtain ⟨i0,hi,hz0,hz1,hz2⟩:=info_parts Oj;simp [sizeOf,typeInfo,hi,hz1]
theorem Qmw (g N q : Nat) (h : q < N) (w : World) : (Instr.slice 125 (.slice (some ⟨g,0,none⟩) N N) (some (.int .i64 (q : Int))) none none).run Tryz.prog w = .ok (.slice (some ⟨g,q,none⟩) (N - q) (N - q)) w:=by
 rw [run_slice_l (P:=Tryz.prog) w 125 (some ⟨g,0,none⟩) N N (by rw [Gw];exact Tryz.underlying125) .i64 q Qa Qa,Gw,Qc0];have e : ((q : Int)).toNat = q:=by omega
 simp only [Result.andThen_ok,e,sliced];rw [if_neg Qa];simp only [Nat.mul_one,Option.map_some,Addr.add_lit,Nat.zero_add]
theorem sl_to (g N q : Nat) (h : q ≤ N) (h0 : 0 < N) (w : World) : (Instr.slice 125 (.slice (some ⟨g,0,none⟩) N N) none (some (.int .i64 (q : Int))) none).run Tryz.prog w = .ok (.slice (some ⟨g,0,none⟩) q N) w:=by
 rw [run_slice_h (P:=Tryz.prog) w 125 (some ⟨g,0,none⟩) N N (by rw [Gw];exact Tryz.underlying125) .i64 q Qa Qa,Gw,Qc0];have e : ((q : Int)).toNat = q:=by omega
 simp only [Result.andThen_ok,e,sliced];rw [if_neg Qa];simp [Addr.add]
def Jd (N q : Nat) : List Value:=List.replicate q (.int .i64 (-1)) ++ List.replicate (N - q) (.int .i64 0)
theorem Ey {N q j : Nat} (h : j < q) : (Jd N q).toArray[j]? = some (.int .i64 (-1)):=by
 unfold Jd;rw [List.getElem?_toArray,List.getElem?_append_left (by simpa using h)];simp [h]
theorem Qh8 {N q : Nat} (h : q ≤ N) : (Jd N q).length = N:=by unfold Jd;simp;omega
theorem Qh9 (N q : Nat) : splice (Jd N q) q (List.replicate (Nat.min q (N - q)) (.int .i64 (-1))) = Jd N (q + Nat.min q (N - q)):=by
 unfold splice Jd;have hm : Nat.min q (N - q) ≤ N - q:=Nat.min_le_right _ _;rw [List.take_left' (by simp),List.drop_append,List.length_replicate,List.length_replicate,List.drop_eq_nil_of_le (by simp),List.nil_append,List.drop_replicate,← List.append_assoc,List.replicate_append_replicate]
 congr 2
 omega
theorem szI : (Tryz.prog.info? 3).map (·.size) = some 1:=by kernel_rfl
theorem Sh {w : World} {g n q m dl sl sc : Nat} {src : Addr} (HG : Qc w g 3 (Jd n q).toArray) (hq : q ≤ n) (hdl : dl = n - q) (hm : m = Nat.min sl dl) (hsrc : ∀ j,j < m → w.cell? (src.add j) = some (.int .i64 (-1))) (hh : splice (Jd n q) q (List.replicate m (.int .i64 (-1))) = Jd n (q + m)) :
  (Builtin.copy_ #[125,125] 3 #[.slice (some ⟨g,q,none⟩) dl dl,.slice (some src) sl sc]).run Tryz.prog w = .ok (.int .i64 (m : Int)) (w.setRow g (Jd n (q + m)).toArray):=by
 have hmd : m ≤ dl:=by rw [hm];exact Nat.min_le_right _ _
 have h:=run_copy_row (P:=Tryz.prog) w 125 125 3 3 g q dl dl src sl sc (Jd n q).toArray 3 (List.replicate m (.int .i64 (-1))) Tryz.underlying125 szI HG (by rw [List.length_replicate];exact hm) (fun j u hj => by
  obtain ⟨h1,h2⟩:=List.getElem?_eq_some_iff.1 hj;rw [List.getElem_replicate] at h2;rw [← h2];exact hsrc j (by simpa using h1)) (by rw [List.length_replicate,List.size_toArray,Qh8 hq];omega) (fun u hu => by rw [List.eq_of_mem_replicate hu];rfl)
 rw [h,← hh];unfold splice;simp [goInt]
section
variable {P : Program} {ops : Array Oper} {md : Region.Mode} {C : World → Prop} {R : Act → World → Prop} {zs : List Nat}
theorem Qed {f : Nat} {L : Array Bool} {a : Act} {w : World} {o1 o2 o3 o4 : Oper} (k1 k2 k3 k4 : Nat) (h1 : ops[k1]? = some o1) (h2 : ops[k2]? = some o2) (h3 : ops[k3]? = some o3) (h4 : ops[k4]? = some o4) (hB : decide (Region.ready md ops L = [k1,k2,k3,k4]) = true)
  (ha : wpList P ops (Zz fun a' w' => C w' ∧ Zt P md ops C zs R f (L.setIfInBounds k1 true) a' w') [o1] a w)
  (hb : wpList P ops (Zz fun a' w' => C w' ∧ Zt P md ops C zs R f (L.setIfInBounds k2 true) a' w') [o2] a w)
  (hc : wpList P ops (Zz fun a' w' => C w' ∧ Zt P md ops C zs R f (L.setIfInBounds k3 true) a' w') [o3] a w)
  (hd : wpList P ops (Zz fun a' w' => C w' ∧ Zt P md ops C zs R f (L.setIfInBounds k4 true) a' w') [o4] a w) : Zt P md ops C zs R (f + 1) L a w:=by
 have hB:=of_decide_eq_true hB;refine ⟨fun h => (by rw [hB] at h;cases h),fun j hj => ?_⟩;rw [hB] at hj;rcases List.mem_cons.1 hj with rfl | hj
 ·exact wpOp_mono (fun a' w' h' => ⟨fun _ => h'.1,h'.2⟩) (Wh (Wu h1 ha))
 ·rcases List.mem_cons.1 hj with rfl | hj
  ·exact wpOp_mono (fun a' w' h' => ⟨fun _ => h'.1,h'.2⟩) (Wh (Wu h2 hb))
  ·rcases List.mem_cons.1 hj with rfl | hj
   ·exact wpOp_mono (fun a' w' h' => ⟨fun _ => h'.1,h'.2⟩) (Wh (Wu h3 hc))
   ·rw [List.mem_singleton] at hj;subst hj;exact wpOp_mono (fun a' w' h' => ⟨fun _ => h'.1,h'.2⟩) (Wh (Wu h4 hd))
end
def cutW (A : Option Addr → Nat → Option Addr → Nat → Nat → Nat → Nat → Nat → Nat → Nat → Nat → Act) (S : World → Option Addr → Nat → Option Addr → Nat → Nat → Nat → Nat → Nat → Nat → Nat → Nat → Prop) : Exit → Act → World → Prop:=fun e a' w' => e = .normal ∧ ∃ O cO I cI bo bi bf bs bm b1 b2,S w' O cO I cI bo bi bf bs bm b1 b2 ∧ a' = A O cO I cI bo bi bf bs bm b1 b2
theorem Qgy {A : Option Addr → Nat → Option Addr → Nat → Nat → Nat → Nat → Nat → Nat → Nat → Nat → Act} {S : World → Option Addr → Nat → Option Addr → Nat → Nat → Nat → Nat → Nat → Nat → Nat → Nat → Prop} {w' : World} (O : Option Addr) (cO : Nat) (I : Option Addr) (cI bo bi bf bs bm b1 b2 : Nat) {a' : Act} (h : S w' O cO I cI bo bi bf bs bm b1 b2) (ha : a' = A O cO I cI bo bi bf bs bm b1 b2) : cutW A S .normal a' w':=⟨rfl,O,cO,I,cI,bo,bi,bf,bs,bm,b1,b2,h,ha⟩
theorem Qn6 {P : Program} {c : Code} {Q : Exit → Act → World → Prop} {a : Act} {w : World} {A : Option Addr → Nat → Option Addr → Nat → Nat → Nat → Nat → Nat → Nat → Nat → Nat → Act} (S : World → Option Addr → Nat → Option Addr → Nat → Nat → Nat → Nat → Nat → Nat → Nat → Nat → Prop) (h1 : c.wp P (cutW A S) a w) (h2 : ∀ O cO I cI bo bi bf bs bm b1 b2 w',S w' O cO I cI bo bi bf bs bm b1 b2 → Q .normal (A O cO I cI bo bi bf bs bm b1 b2) w') : c.wp P Q a w :=
 Code.wp_mono (fun e a' w' ⟨he,O,cO,I,cI,bo,bi,bf,bs,bm,b1,b2,hs,ha⟩ => by subst he;subst ha;exact h2 O cO I cI bo bi bf bs bm b1 b2 w' hs) h1
theorem Qfa (n : Nat) (hn : n < 9223372036854775808) (w : World) :
  Calls Tryz.prog 165 #[.int .u64 1,.int .u64 (n : Int)] w fun e w' => e = .returned (.tuple #[.int .u64 0,.int .u64 (n : Int)]) ∧ w = w':=by
 go_enter Tryz.func165,Tryz.ntmps165
 go_wp2_with (go_at_call 189;(with_reducible refine zc (Qkm n hn _) ?_);rintro e w' ⟨rfl,rfl⟩);go_ret2;exact ⟨rfl,rfl⟩
theorem Ul (n bx : Nat) (w : World) (hx : w.cell? ⟨bx,0,none⟩ = some (.int .i64 (-1))) (hbx : bx < w.heap.size) (hn : n ≤ 1000000) :
  Calls Tryz.prog 126 #[.slice (some ⟨bx,0,none⟩) 1 1,.int .i64 (n : Int)] w fun e w' => ∃ A cap b,e = .returned (.slice A n cap) ∧ Qb w w' ∧ w.heap.size ≤ b ∧ Qx w' 3 A n b (fun _ => (.int .i64 (-1))):=by
 have NM:=fun w => Qfa n Qa w
 have hmk:=fun w => Qkd n hn w
 have wr1 : IntKind.u64.wrap (n : Int) = n:=by rw [IntKind.wrap_u64];omega
 have wr2 : IntKind.i64.wrap (n : Int) = n:=by rw [IntKind.wrap_i64];omega
 have g1 : decide ((9223372036854775807 : Int) < (n : Int)) = false:=decide_eq_false Qa
 go_enter Tryz.func126,Tryz.ntmps126
 go_upto_region 4 with (go_at_call 165;(with_reducible refine zc (NM _) ?_);rintro e w' ⟨rfl,rfl⟩)
 go_upto_region 7 with (fail)
 obtain ⟨v,hv⟩:=Qf (w.alloc (.cells (Array.replicate n (.int .i64 0)) 3));rw [← hv];have E : Qb w v:=by rw [hv];exact (Qb.refl _).alloc _
 have HG0 : Qc v w.heap.size 3 (Jd n 0).toArray:=by
  rw [hv];have h:=Qc.new w 3 (Array.replicate n (.int .i64 0))
  have e : (Jd n 0).toArray = Array.replicate n (.int .i64 0):=by
   apply Array.ext';simp [Jd]
  rw [e];exact h
 have hxv:=(E.cell (p:=⟨bx,0,none⟩) hbx).trans hx;clear hv hmk NM hx;obtain ⟨g,hg⟩:=Qf (w.heap.size);rw [← hg] at HG0 ⊢;have hbg : w.heap.size ≤ g:=Nat.le_of_eq hg.symm;clear hg;obtain ⟨m1,hm1⟩:=Qf (Nat.min 1 n)
 have hs1 : splice (Jd n 0) 0 (List.replicate m1 (.int .i64 (-1))) = Jd n m1:=by
  rw [hm1];by_cases h0 : n = 0
  ·subst h0;rfl
  ·rw [show Nat.min 1 n = 1 from Nat.min_eq_left Qa];obtain ⟨k,rfl⟩ : ∃ k,n = k + 1:=⟨n - 1,by omega⟩;simp [splice,Jd,List.replicate_succ]
 have hsrc1 : ∀ j : Nat,j < m1 → v.cell? ((⟨bx,0,none⟩ : Addr).add j) = some (.int .i64 (-1)):=fun j hj => by
  have hj0 : j = 0:=by
   have : m1 ≤ 1:=by rw [hm1];exact Nat.min_le_left _ _
   omega
  subst hj0;rw [Addr.add_lit];exact hxv
 have hm1n : m1 ≤ n:=by rw [hm1];exact Nat.min_le_right _ _
 have hm1p : 0 < n → 1 ≤ m1:=fun h => by rw [hm1];exact Nat.le_min.2 ⟨Nat.le_refl _,h⟩
 replace hm1:=Lib.hid hm1;replace hs1:=Lib.hid hs1;replace hm1p:=Lib.hid hm1p;have hcp:=Sh (sc:=1) HG0 (Nat.zero_le _) (Nat.sub_zero n).symm hm1.out (fun j hj => hsrc1 j hj) (by rw [Nat.zero_add];exact hs1.out);rw [Nat.zero_add] at hcp;go_upto_region 8 with (fail)
 have HG2:=setRow_heap v g _ (Jd n m1).toArray 3 _ HG0;have E2 : Qb w (v.setRow g (Jd n m1).toArray):=below_setRow E hbg _;generalize v.setRow g (Jd n m1).toArray = w2 at *;replace HG2 : Qc w2 g 3 (Jd n m1).toArray:=HG2;clear hcp HG0 hs1 hsrc1 hxv E
 go_loopw [8] (fun iv wr => ∃ q : Nat,q ≤ n ∧ Hid (0 < n → 1 ≤ q) ∧ iv = .int .i64 q ∧ Qc wr g 3 (Jd n q).toArray ∧ Qb w wr) (fun iv _ => n - (intOf iv).toNat)
 case atStart => exact ⟨m1,hm1n,hm1p,rfl,HG2,E2⟩
 case round =>
  clear HG2 E2 hm1n hm1p hm1;obtain ⟨q,hq,hq1,rfl,HG,hE⟩:=hrel;obtain ⟨wo,rfl⟩:=Qf wr;by_cases hlt : q < n
  ·have h1q := hq1.out Qa;obtain ⟨m, hm⟩ := Qf (Nat.min q (n - q));have hmq : m ≤ q := by rw [hm]; exact Nat.min_le_left _ _
   have hmn : m ≤ n - q:=by rw [hm];exact Nat.min_le_right _ _
   have hm1' : 1 ≤ m:=by rw [hm];exact Nat.le_min.2 ⟨h1q,by omega⟩
   have hs2 : Hid (splice (Jd n q) q (List.replicate m (.int .i64 (-1))) = Jd n (q + m)):=by rw [hm];exact Qh9 n q
   replace hm:=Lib.hid hm;have hsl1:=fun w => Qmw g n q hlt w
   have hsl2:=fun w => sl_to g n q hq Qa w
   have hsub : ((n - q : Nat) : Int) = (n : Int) - q:=by omega
   go_upto_region 9 with (fail)
   refine Q5 10 [0,1,2,4,5,7,8,9] (fun x => Qb wo x) mixed rfl ?_;intro vz hvz;have HC:=hvz;refine Jv (g:=5) [0,1,2,4,5] ?_
   constructor
   refine ⟨fun u hu => ?_,?_⟩
   ·exact Qj
   refine Zp 3 6 ?_ ?_
   ·go_wp2;refine Qe HC ?_;refine Qk 6 ?_;go_wp2;refine Qe HC ?_;refine Qn 7 ?_;have HGz:=Qc.ext HG HC
    have hcp:=Sh (sc:=n) HGz hq rfl hm.out (fun j hj => by
     rw [Addr.add_lit,Nat.zero_add,HGz.cell j];exact Ey Qa) hs2.out
    have HG3:=setRow_heap _ g _ (Jd n (q + m)).toArray 3 _ HGz;have E3 : Qb w _:=below_setRow (hE.trans HC) hbg (Jd n (q + m)).toArray;go_wp2;generalize World.setRow _ _ _ = w3 at *;refine Qm ?_;refine Jv (g:=1) [8] ?_
    constructor
    refine ⟨fun u hu => ?_,?_⟩
    ·exact Qj
    refine Qn 9 ?_;go_wp2;refine Qm ?_;refine Qt ?_;replace HG3 : Qc w3 g 3 (Jd n (q + m)).toArray:=HG3;clear HG hs2 hsl1 hsl2;go_wp2;exact ⟨⟨q + m,by omega,fun _ => by omega,by go_num,HG3,E3⟩,by simp [intOf];omega⟩
   ·go_wp2;refine Qe HC ?_;refine Qk 3 ?_;go_wp2;refine Qe HC ?_;refine Qn 7 ?_;have HGz:=Qc.ext HG HC
    have hcp:=Sh (sc:=n) HGz hq rfl hm.out (fun j hj => by
     rw [Addr.add_lit,Nat.zero_add,HGz.cell j];exact Ey Qa) hs2.out
    have HG3:=setRow_heap _ g _ (Jd n (q + m)).toArray 3 _ HGz;have E3 : Qb w _:=below_setRow (hE.trans HC) hbg (Jd n (q + m)).toArray;go_wp2;generalize World.setRow _ _ _ = w3 at *;refine Qm ?_;refine Jv (g:=1) [8] ?_
    constructor
    refine ⟨fun u hu => ?_,?_⟩
    ·exact Qj
    refine Qn 9 ?_;go_wp2;refine Qm ?_;refine Qt ?_;replace HG3 : Qc w3 g 3 (Jd n (q + m)).toArray:=HG3;clear HG hs2 hsl1 hsl2;go_wp2;exact ⟨⟨q + m,by omega,fun _ => by omega,by go_num,HG3,E3⟩,by simp [intOf];omega⟩
  ·obtain rfl : q = n := by omega
   go_wp2;go_ret;refine ⟨_,_,g,rfl,hE,hbg,fun _ => rfl,fun _ => ⟨_,HG,by simp [Jd],fun k hk => ?_⟩⟩;simp [Jd,hk]
set_option maxHeartbeats 400000000 in
theorem Qk4 {adj : Nat → List Nat} (Vo Vi : Option Addr) (no ni co ci : Nat) (vy : Value) (w : World) (hadj : ∀ o,∀ k ∈ adj o,k < ni) (hY : Nt w vy no adj) (hno : no ≤ 1000000) (hni : ni ≤ 1000000) :
  Calls Tryz.prog 80 #[.slice Vo no co,.slice Vi ni ci,vy] w fun e w' => ∃ bm bs O I X cO cI cX bo bi bf,e = .returned (.pointer (some ⟨bs,0,none⟩)) ∧ w.heap.size ≤ bs ∧ MS w w' bm bs (.slice Vo no co) (.slice Vi ni ci) vy O I X no ni cO cI cX bo bi bf (Jq adj ni (fun _ => false) no 0 Yl).1 (fun _ => false):=by
 obtain ⟨Y,cY,vs,rfl,hYr,hYi⟩:=id hY;clear hYr hYi;have hmkb:=fun w => Qas ni hni w
 obtain ⟨R,hR⟩:=Qf ((Jq adj ni (fun _ => false) no 0 Yl).1);rw [← hR];replace hR : Hid ((Jq adj ni (fun _ => false) (no - 0) 0 Yl).1 = R):=Lib.hid hR.symm
 go_enter Tryz.func80,Tryz.ntmps80
 go_upto_region 1 with (fail)
 apply Qn6 (S:=fun w' O cO I cI bo bi bf bs bm b1 b2 => Qb w w' ∧ (Qc w' bm 166 #[.pointer (some ⟨bs,0,none⟩)] ∧ Qc w' bs 213 #[.slice Vo no co,.slice Vi ni ci,.slice Y no cY,.slice O no cO,.slice I ni cI,.slice (some ⟨bf,0,none⟩) ni ni,.nilFunc]) ∧ Qx w' 3 O no bo (fun _ => .int .i64 (-1)) ∧ Qx w' 3 I ni bi (fun _ => .int .i64 (-1)) ∧ Qx w' 4 (some ⟨bf,0,none⟩) ni bf (fun _ => .bool false) ∧ (0 < no → 0 < ni → bo ≠ bi) ∧ w.heap.size ≤ bo ∧ w.heap.size ≤ bi ∧ w.heap.size ≤ bf ∧ w.heap.size ≤ bs ∧ w.heap.size ≤ bm)
 ·refine Q5 18 [17] (fun x => Qb w x) mixed rfl ?_;intro vz hvz;have HC:=hvz;have mz0:=trivial
  all_goals try
   (clear mz0
    refine Qr (g:=9) [0,1,2,4,5,8,9,11,12] HC ?_
    constructor
    refine ⟨fun u hu => ?_,?_⟩
    ·exact Qj
    have mz1:=trivial)
  all_goals try
   (clear mz1
    refine Qed 3 7 13 16 rfl rfl rfl rfl (by kernel_rfl) ?_ ?_ ?_ ?_
    focus
     simp only [Q8,Q9,Za];go_wp2;obtain ⟨b1,wb,hbq,hwb,HX1,HC',hx,gp_b1⟩:=Qp HC 3 #[(.int .i64 (-1))];rw [← hbq,← hwb];replace HC:=HC';try replace HX2:=HX2.ext hx
     try replace AO:=AO.ext hx
     try replace AI:=AI.ext hx
     try replace AF:=AF.ext hx
     try replace HS:=HS.ext hx
     try replace HM:=HM.ext hx
     clear hbq hwb hx HC' gp_b1;have mz2:=trivial;refine Qe HC ?_
    rotate_left
    focus
     simp only [Q8,Q9,Za];go_wp2;obtain ⟨b2,wb,hbq,hwb,HX2,HC',hx,gp_b2⟩:=Qp HC 3 #[(.int .i64 (-1))];rw [← hbq,← hwb];replace HC:=HC';try replace HX1:=HX1.ext hx
     try replace AO:=AO.ext hx
     try replace AI:=AI.ext hx
     try replace AF:=AF.ext hx
     try replace HS:=HS.ext hx
     try replace HM:=HM.ext hx
     clear hbq hwb hx HC' gp_b2;have mz3:=trivial;refine Qe HC ?_
    rotate_left
    focus
     simp only [Q8,Q9,Za];go_wp2;obtain ⟨bf,wb,hbq,hwb,HF,HC',hx,gp_bf⟩:=Qp HC 4 (Array.replicate ni (.bool false));rw [← hbq,← hwb];have AF : Qx wb 4 (some ⟨bf,0,none⟩) ni bf (fun _ => .bool false):=⟨fun _ => rfl,fun _ => ⟨_,HF,by simp,fun k hk => by simp [hk]⟩⟩;replace HC:=HC';try replace HX1:=HX1.ext hx
     try replace HX2:=HX2.ext hx
     try replace AO:=AO.ext hx
     try replace AI:=AI.ext hx
     try replace HS:=HS.ext hx
     try replace HM:=HM.ext hx
     clear hbq hwb hx HC' HF;have mz4:=trivial;refine Qe HC ?_
    rotate_left
    focus
     simp only [Q8,Q9,Za];go_wp2;obtain ⟨bm,wb,hbq,hwb,HM,HC',hx,gp_bm⟩:=Qp HC 166 #[.pointer none];rw [← hbq,← hwb];replace HC:=HC';try replace HX1:=HX1.ext hx
     try replace HX2:=HX2.ext hx
     try replace AO:=AO.ext hx
     try replace AI:=AI.ext hx
     try replace AF:=AF.ext hx
     try replace HS:=HS.ext hx
     clear hbq hwb hx HC';have mz5:=trivial;refine Qe HC ?_
    rotate_left)
  all_goals try
   (clear mz2
    refine Qed 6 7 13 16 rfl rfl rfl rfl (by kernel_rfl) ?_ ?_ ?_ ?_
    focus
     simp only [Q8,Q9,Za];have hz:=HC.size;go_wp2_with (go_at_call 126;(with_reducible refine zc (Ul no b1 _ HX1.c1 HX1.lt hno) ?_);rintro e wc ⟨O,cO,bo,rfl,hj,hl_bo,AO⟩);try replace HX1:=HX1.ext hj
     try replace HX2:=HX2.ext hj
     try replace AI:=AI.ext hj
     try replace AF:=AF.ext hj
     try replace HS:=HS.ext hj
     try replace HM:=HM.ext hj
     replace HC:=HC.trans hj;replace hl_bo:=Nat.le_trans hz hl_bo;clear hj hz HX1;have mz6:=trivial;refine Qe HC ?_
    rotate_left
    focus
     simp only [Q8,Q9,Za];go_wp2;obtain ⟨b2,wb,hbq,hwb,HX2,HC',hx,gp_b2⟩:=Qp HC 3 #[(.int .i64 (-1))];rw [← hbq,← hwb];replace HC:=HC';try replace HX1:=HX1.ext hx
     try replace AO:=AO.ext hx
     try replace AI:=AI.ext hx
     try replace AF:=AF.ext hx
     try replace HS:=HS.ext hx
     try replace HM:=HM.ext hx
     clear hbq hwb hx HC' gp_b2;have mz7:=trivial;refine Qe HC ?_
    rotate_left
    focus
     simp only [Q8,Q9,Za];go_wp2;obtain ⟨bf,wb,hbq,hwb,HF,HC',hx,gp_bf⟩:=Qp HC 4 (Array.replicate ni (.bool false));rw [← hbq,← hwb];have AF : Qx wb 4 (some ⟨bf,0,none⟩) ni bf (fun _ => .bool false):=⟨fun _ => rfl,fun _ => ⟨_,HF,by simp,fun k hk => by simp [hk]⟩⟩;replace HC:=HC';try replace HX1:=HX1.ext hx
     try replace HX2:=HX2.ext hx
     try replace AO:=AO.ext hx
     try replace AI:=AI.ext hx
     try replace HS:=HS.ext hx
     try replace HM:=HM.ext hx
     clear hbq hwb hx HC' HF;have mz8:=trivial;refine Qe HC ?_
    rotate_left
    focus
     simp only [Q8,Q9,Za];go_wp2;obtain ⟨bm,wb,hbq,hwb,HM,HC',hx,gp_bm⟩:=Qp HC 166 #[.pointer none];rw [← hbq,← hwb];replace HC:=HC';try replace HX1:=HX1.ext hx
     try replace HX2:=HX2.ext hx
     try replace AO:=AO.ext hx
     try replace AI:=AI.ext hx
     try replace AF:=AF.ext hx
     try replace HS:=HS.ext hx
     clear hbq hwb hx HC';have mz9:=trivial;refine Qe HC ?_
    rotate_left)
  all_goals try
   (clear mz3
    refine Up 3 13 16 ?_ ?_ ?_
    focus
     go_wp2;obtain ⟨b1,wb,hbq,hwb,HX1,HC',hx,gp_b1⟩:=Qp HC 3 #[(.int .i64 (-1))];rw [← hbq,← hwb];replace HC:=HC';try replace HX2:=HX2.ext hx
     try replace AO:=AO.ext hx
     try replace AI:=AI.ext hx
     try replace AF:=AF.ext hx
     try replace HS:=HS.ext hx
     try replace HM:=HM.ext hx
     clear hbq hwb hx HC' gp_b1;have mz7:=trivial;refine Qe HC ?_
    rotate_left
    focus
     go_wp2;obtain ⟨bf,wb,hbq,hwb,HF,HC',hx,gp_bf⟩:=Qp HC 4 (Array.replicate ni (.bool false));rw [← hbq,← hwb];have AF : Qx wb 4 (some ⟨bf,0,none⟩) ni bf (fun _ => .bool false):=⟨fun _ => rfl,fun _ => ⟨_,HF,by simp,fun k hk => by simp [hk]⟩⟩;replace HC:=HC';try replace HX1:=HX1.ext hx
     try replace HX2:=HX2.ext hx
     try replace AO:=AO.ext hx
     try replace AI:=AI.ext hx
     try replace HS:=HS.ext hx
     try replace HM:=HM.ext hx
     clear hbq hwb hx HC' HF;have mz10:=trivial;refine Qe HC ?_
    rotate_left
    focus
     go_wp2;obtain ⟨bm,wb,hbq,hwb,HM,HC',hx,gp_bm⟩:=Qp HC 166 #[.pointer none];rw [← hbq,← hwb];replace HC:=HC';try replace HX1:=HX1.ext hx
     try replace HX2:=HX2.ext hx
     try replace AO:=AO.ext hx
     try replace AI:=AI.ext hx
     try replace AF:=AF.ext hx
     try replace HS:=HS.ext hx
     clear hbq hwb hx HC';have mz11:=trivial;refine Qe HC ?_
    rotate_left)
  all_goals try
   (clear mz4
    refine Up 3 7 16 ?_ ?_ ?_
    focus
     go_wp2;obtain ⟨b1,wb,hbq,hwb,HX1,HC',hx,gp_b1⟩:=Qp HC 3 #[(.int .i64 (-1))];rw [← hbq,← hwb];replace HC:=HC';try replace HX2:=HX2.ext hx
     try replace AO:=AO.ext hx
     try replace AI:=AI.ext hx
     try replace AF:=AF.ext hx
     try replace HS:=HS.ext hx
     try replace HM:=HM.ext hx
     clear hbq hwb hx HC' gp_b1;have mz8:=trivial;refine Qe HC ?_
    rotate_left
    focus
     go_wp2;obtain ⟨b2,wb,hbq,hwb,HX2,HC',hx,gp_b2⟩:=Qp HC 3 #[(.int .i64 (-1))];rw [← hbq,← hwb];replace HC:=HC';try replace HX1:=HX1.ext hx
     try replace AO:=AO.ext hx
     try replace AI:=AI.ext hx
     try replace AF:=AF.ext hx
     try replace HS:=HS.ext hx
     try replace HM:=HM.ext hx
     clear hbq hwb hx HC' gp_b2;have mz10:=trivial;refine Qe HC ?_
    rotate_left
    focus
     go_wp2;obtain ⟨bm,wb,hbq,hwb,HM,HC',hx,gp_bm⟩:=Qp HC 166 #[.pointer none];rw [← hbq,← hwb];replace HC:=HC';try replace HX1:=HX1.ext hx
     try replace HX2:=HX2.ext hx
     try replace AO:=AO.ext hx
     try replace AI:=AI.ext hx
     try replace AF:=AF.ext hx
     try replace HS:=HS.ext hx
     clear hbq hwb hx HC';have mz12:=trivial;refine Qe HC ?_
    rotate_left)
  all_goals try
   (clear mz5
    refine Up 3 7 13 ?_ ?_ ?_
    focus
     go_wp2;obtain ⟨b1,wb,hbq,hwb,HX1,HC',hx,gp_b1⟩:=Qp HC 3 #[(.int .i64 (-1))];rw [← hbq,← hwb];replace HC:=HC';try replace HX2:=HX2.ext hx
     try replace AO:=AO.ext hx
     try replace AI:=AI.ext hx
     try replace AF:=AF.ext hx
     try replace HS:=HS.ext hx
     try replace HM:=HM.ext hx
     clear hbq hwb hx HC' gp_b1;have mz9:=trivial;refine Qe HC ?_
    rotate_left
    focus
     go_wp2;obtain ⟨b2,wb,hbq,hwb,HX2,HC',hx,gp_b2⟩:=Qp HC 3 #[(.int .i64 (-1))];rw [← hbq,← hwb];replace HC:=HC';try replace HX1:=HX1.ext hx
     try replace AO:=AO.ext hx
     try replace AI:=AI.ext hx
     try replace AF:=AF.ext hx
     try replace HS:=HS.ext hx
     try replace HM:=HM.ext hx
     clear hbq hwb hx HC' gp_b2;have mz11:=trivial;refine Qe HC ?_
    rotate_left
    focus
     go_wp2;obtain ⟨bf,wb,hbq,hwb,HF,HC',hx,gp_bf⟩:=Qp HC 4 (Array.replicate ni (.bool false));rw [← hbq,← hwb];have AF : Qx wb 4 (some ⟨bf,0,none⟩) ni bf (fun _ => .bool false):=⟨fun _ => rfl,fun _ => ⟨_,HF,by simp,fun k hk => by simp [hk]⟩⟩;replace HC:=HC';try replace HX1:=HX1.ext hx
     try replace HX2:=HX2.ext hx
     try replace AO:=AO.ext hx
     try replace AI:=AI.ext hx
     try replace HS:=HS.ext hx
     try replace HM:=HM.ext hx
     clear hbq hwb hx HC' HF;have mz12:=trivial;refine Qe HC ?_
    rotate_left)
  all_goals try
   (clear mz6
    refine Up 7 13 16 ?_ ?_ ?_
    focus
     go_wp2;obtain ⟨b2,wb,hbq,hwb,HX2,HC',hx,gp_b2⟩:=Qp HC 3 #[(.int .i64 (-1))];rw [← hbq,← hwb];replace HC:=HC';try replace HX1:=HX1.ext hx
     try replace AO:=AO.ext hx
     try replace AI:=AI.ext hx
     try replace AF:=AF.ext hx
     try replace HS:=HS.ext hx
     try replace HM:=HM.ext hx
     clear hbq hwb hx HC' gp_b2;have mz13:=trivial;refine Qe HC ?_
    rotate_left
    focus
     go_wp2;obtain ⟨bf,wb,hbq,hwb,HF,HC',hx,gp_bf⟩:=Qp HC 4 (Array.replicate ni (.bool false));rw [← hbq,← hwb];have AF : Qx wb 4 (some ⟨bf,0,none⟩) ni bf (fun _ => .bool false):=⟨fun _ => rfl,fun _ => ⟨_,HF,by simp,fun k hk => by simp [hk]⟩⟩;replace HC:=HC';try replace HX1:=HX1.ext hx
     try replace HX2:=HX2.ext hx
     try replace AO:=AO.ext hx
     try replace AI:=AI.ext hx
     try replace HS:=HS.ext hx
     try replace HM:=HM.ext hx
     clear hbq hwb hx HC' HF;have mz14:=trivial;refine Qe HC ?_
    rotate_left
    focus
     go_wp2;obtain ⟨bm,wb,hbq,hwb,HM,HC',hx,gp_bm⟩:=Qp HC 166 #[.pointer none];rw [← hbq,← hwb];replace HC:=HC';try replace HX1:=HX1.ext hx
     try replace HX2:=HX2.ext hx
     try replace AO:=AO.ext hx
     try replace AI:=AI.ext hx
     try replace AF:=AF.ext hx
     try replace HS:=HS.ext hx
     clear hbq hwb hx HC';have mz15:=trivial;refine Qe HC ?_
    rotate_left)
  all_goals try
   (clear mz7
    refine Up 6 13 16 ?_ ?_ ?_
    focus
     have hz:=HC.size;go_wp2_with (go_at_call 126;(with_reducible refine zc (Ul no b1 _ HX1.c1 HX1.lt hno) ?_);rintro e wc ⟨O,cO,bo,rfl,hj,hl_bo,AO⟩);try replace HX1:=HX1.ext hj
     try replace HX2:=HX2.ext hj
     try replace AI:=AI.ext hj
     try replace AF:=AF.ext hj
     try replace HS:=HS.ext hj
     try replace HM:=HM.ext hj
     replace HC:=HC.trans hj;replace hl_bo:=Nat.le_trans hz hl_bo;clear hj hz HX1;have mz13:=trivial;refine Qe HC ?_
    rotate_left
    focus
     go_wp2;obtain ⟨bf,wb,hbq,hwb,HF,HC',hx,gp_bf⟩:=Qp HC 4 (Array.replicate ni (.bool false));rw [← hbq,← hwb];have AF : Qx wb 4 (some ⟨bf,0,none⟩) ni bf (fun _ => .bool false):=⟨fun _ => rfl,fun _ => ⟨_,HF,by simp,fun k hk => by simp [hk]⟩⟩;replace HC:=HC';try replace HX1:=HX1.ext hx
     try replace HX2:=HX2.ext hx
     try replace AO:=AO.ext hx
     try replace AI:=AI.ext hx
     try replace HS:=HS.ext hx
     try replace HM:=HM.ext hx
     clear hbq hwb hx HC' HF;have mz16:=trivial;refine Qe HC ?_
    rotate_left
    focus
     go_wp2;obtain ⟨bm,wb,hbq,hwb,HM,HC',hx,gp_bm⟩:=Qp HC 166 #[.pointer none];rw [← hbq,← hwb];replace HC:=HC';try replace HX1:=HX1.ext hx
     try replace HX2:=HX2.ext hx
     try replace AO:=AO.ext hx
     try replace AI:=AI.ext hx
     try replace AF:=AF.ext hx
     try replace HS:=HS.ext hx
     clear hbq hwb hx HC';have mz17:=trivial;refine Qe HC ?_
    rotate_left)
  all_goals try
   (clear mz8
    refine Up 6 7 16 ?_ ?_ ?_
    focus
     have hz:=HC.size;go_wp2_with (go_at_call 126;(with_reducible refine zc (Ul no b1 _ HX1.c1 HX1.lt hno) ?_);rintro e wc ⟨O,cO,bo,rfl,hj,hl_bo,AO⟩);try replace HX1:=HX1.ext hj
     try replace HX2:=HX2.ext hj
     try replace AI:=AI.ext hj
     try replace AF:=AF.ext hj
     try replace HS:=HS.ext hj
     try replace HM:=HM.ext hj
     replace HC:=HC.trans hj;replace hl_bo:=Nat.le_trans hz hl_bo;clear hj hz HX1;have mz14:=trivial;refine Qe HC ?_
    rotate_left
    focus
     go_wp2;obtain ⟨b2,wb,hbq,hwb,HX2,HC',hx,gp_b2⟩:=Qp HC 3 #[(.int .i64 (-1))];rw [← hbq,← hwb];replace HC:=HC';try replace HX1:=HX1.ext hx
     try replace AO:=AO.ext hx
     try replace AI:=AI.ext hx
     try replace AF:=AF.ext hx
     try replace HS:=HS.ext hx
     try replace HM:=HM.ext hx
     clear hbq hwb hx HC' gp_b2;have mz16:=trivial;refine Qe HC ?_
    rotate_left
    focus
     go_wp2;obtain ⟨bm,wb,hbq,hwb,HM,HC',hx,gp_bm⟩:=Qp HC 166 #[.pointer none];rw [← hbq,← hwb];replace HC:=HC';try replace HX1:=HX1.ext hx
     try replace HX2:=HX2.ext hx
     try replace AO:=AO.ext hx
     try replace AI:=AI.ext hx
     try replace AF:=AF.ext hx
     try replace HS:=HS.ext hx
     clear hbq hwb hx HC';have mz18:=trivial;refine Qe HC ?_
    rotate_left)
  all_goals try
   (clear mz9
    refine Up 6 7 13 ?_ ?_ ?_
    focus
     have hz:=HC.size;go_wp2_with (go_at_call 126;(with_reducible refine zc (Ul no b1 _ HX1.c1 HX1.lt hno) ?_);rintro e wc ⟨O,cO,bo,rfl,hj,hl_bo,AO⟩);try replace HX1:=HX1.ext hj
     try replace HX2:=HX2.ext hj
     try replace AI:=AI.ext hj
     try replace AF:=AF.ext hj
     try replace HS:=HS.ext hj
     try replace HM:=HM.ext hj
     replace HC:=HC.trans hj;replace hl_bo:=Nat.le_trans hz hl_bo;clear hj hz HX1;have mz15:=trivial;refine Qe HC ?_
    rotate_left
    focus
     go_wp2;obtain ⟨b2,wb,hbq,hwb,HX2,HC',hx,gp_b2⟩:=Qp HC 3 #[(.int .i64 (-1))];rw [← hbq,← hwb];replace HC:=HC';try replace HX1:=HX1.ext hx
     try replace AO:=AO.ext hx
     try replace AI:=AI.ext hx
     try replace AF:=AF.ext hx
     try replace HS:=HS.ext hx
     try replace HM:=HM.ext hx
     clear hbq hwb hx HC' gp_b2;have mz17:=trivial;refine Qe HC ?_
    rotate_left
    focus
     go_wp2;obtain ⟨bf,wb,hbq,hwb,HF,HC',hx,gp_bf⟩:=Qp HC 4 (Array.replicate ni (.bool false));rw [← hbq,← hwb];have AF : Qx wb 4 (some ⟨bf,0,none⟩) ni bf (fun _ => .bool false):=⟨fun _ => rfl,fun _ => ⟨_,HF,by simp,fun k hk => by simp [hk]⟩⟩;replace HC:=HC';try replace HX1:=HX1.ext hx
     try replace HX2:=HX2.ext hx
     try replace AO:=AO.ext hx
     try replace AI:=AI.ext hx
     try replace HS:=HS.ext hx
     try replace HM:=HM.ext hx
     clear hbq hwb hx HC' HF;have mz18:=trivial;refine Qe HC ?_
    rotate_left)
  all_goals try
   (clear mz10
    refine Zp 3 16 ?_ ?_
    focus
     go_wp2;obtain ⟨b1,wb,hbq,hwb,HX1,HC',hx,gp_b1⟩:=Qp HC 3 #[(.int .i64 (-1))];rw [← hbq,← hwb];replace HC:=HC';try replace HX2:=HX2.ext hx
     try replace AO:=AO.ext hx
     try replace AI:=AI.ext hx
     try replace AF:=AF.ext hx
     try replace HS:=HS.ext hx
     try replace HM:=HM.ext hx
     clear hbq hwb hx HC' gp_b1;have mz16:=trivial;refine Qe HC ?_
    rotate_left
    focus
     go_wp2;obtain ⟨bm,wb,hbq,hwb,HM,HC',hx,gp_bm⟩:=Qp HC 166 #[.pointer none];rw [← hbq,← hwb];replace HC:=HC';try replace HX1:=HX1.ext hx
     try replace HX2:=HX2.ext hx
     try replace AO:=AO.ext hx
     try replace AI:=AI.ext hx
     try replace AF:=AF.ext hx
     try replace HS:=HS.ext hx
     clear hbq hwb hx HC';have mz19:=trivial;refine Qe HC ?_
    rotate_left)
  all_goals try
   (clear mz11
    refine Zp 3 13 ?_ ?_
    focus
     go_wp2;obtain ⟨b1,wb,hbq,hwb,HX1,HC',hx,gp_b1⟩:=Qp HC 3 #[(.int .i64 (-1))];rw [← hbq,← hwb];replace HC:=HC';try replace HX2:=HX2.ext hx
     try replace AO:=AO.ext hx
     try replace AI:=AI.ext hx
     try replace AF:=AF.ext hx
     try replace HS:=HS.ext hx
     try replace HM:=HM.ext hx
     clear hbq hwb hx HC' gp_b1;have mz17:=trivial;refine Qe HC ?_
    rotate_left
    focus
     go_wp2;obtain ⟨bf,wb,hbq,hwb,HF,HC',hx,gp_bf⟩:=Qp HC 4 (Array.replicate ni (.bool false));rw [← hbq,← hwb];have AF : Qx wb 4 (some ⟨bf,0,none⟩) ni bf (fun _ => .bool false):=⟨fun _ => rfl,fun _ => ⟨_,HF,by simp,fun k hk => by simp [hk]⟩⟩;replace HC:=HC';try replace HX1:=HX1.ext hx
     try replace HX2:=HX2.ext hx
     try replace AO:=AO.ext hx
     try replace AI:=AI.ext hx
     try replace HS:=HS.ext hx
     try replace HM:=HM.ext hx
     clear hbq hwb hx HC' HF;have mz19:=trivial;refine Qe HC ?_
    rotate_left)
  all_goals try
   (clear mz12
    refine Zp 3 7 ?_ ?_
    focus
     go_wp2;obtain ⟨b1,wb,hbq,hwb,HX1,HC',hx,gp_b1⟩:=Qp HC 3 #[(.int .i64 (-1))];rw [← hbq,← hwb];replace HC:=HC';try replace HX2:=HX2.ext hx
     try replace AO:=AO.ext hx
     try replace AI:=AI.ext hx
     try replace AF:=AF.ext hx
     try replace HS:=HS.ext hx
     try replace HM:=HM.ext hx
     clear hbq hwb hx HC' gp_b1;have mz18:=trivial;refine Qe HC ?_
    rotate_left
    focus
     go_wp2;obtain ⟨b2,wb,hbq,hwb,HX2,HC',hx,gp_b2⟩:=Qp HC 3 #[(.int .i64 (-1))];rw [← hbq,← hwb];replace HC:=HC';try replace HX1:=HX1.ext hx
     try replace AO:=AO.ext hx
     try replace AI:=AI.ext hx
     try replace AF:=AF.ext hx
     try replace HS:=HS.ext hx
     try replace HM:=HM.ext hx
     clear hbq hwb hx HC' gp_b2;have mz19:=trivial;refine Qe HC ?_
    rotate_left)
  all_goals try
   (clear mz13
    refine Up 10 13 16 ?_ ?_ ?_
    focus
     have hz:=HC.size;go_wp2_with (go_at_call 126;(with_reducible refine zc (Ul ni b2 _ HX2.c1 HX2.lt hni) ?_);rintro e wc ⟨I,cI,bi,rfl,hj,hl_bi,AI⟩);have hne : 0 < no → 0 < ni → bo ≠ bi:=fun h _ => by have:=AO.lt h;omega
     try replace HX1:=HX1.ext hj
     try replace HX2:=HX2.ext hj
     try replace AO:=AO.ext hj
     try replace AF:=AF.ext hj
     try replace HS:=HS.ext hj
     try replace HM:=HM.ext hj
     replace HC:=HC.trans hj;replace hl_bi:=Nat.le_trans hz hl_bi;clear hj hz HX2;have mz20:=trivial;refine Qe HC ?_
    rotate_left
    focus
     go_wp2;obtain ⟨bf,wb,hbq,hwb,HF,HC',hx,gp_bf⟩:=Qp HC 4 (Array.replicate ni (.bool false));rw [← hbq,← hwb];have AF : Qx wb 4 (some ⟨bf,0,none⟩) ni bf (fun _ => .bool false):=⟨fun _ => rfl,fun _ => ⟨_,HF,by simp,fun k hk => by simp [hk]⟩⟩;replace HC:=HC';try replace HX1:=HX1.ext hx
     try replace HX2:=HX2.ext hx
     try replace AO:=AO.ext hx
     try replace AI:=AI.ext hx
     try replace HS:=HS.ext hx
     try replace HM:=HM.ext hx
     clear hbq hwb hx HC' HF;have mz21:=trivial;refine Qe HC ?_
    rotate_left
    focus
     go_wp2;obtain ⟨bm,wb,hbq,hwb,HM,HC',hx,gp_bm⟩:=Qp HC 166 #[.pointer none];rw [← hbq,← hwb];replace HC:=HC';try replace HX1:=HX1.ext hx
     try replace HX2:=HX2.ext hx
     try replace AO:=AO.ext hx
     try replace AI:=AI.ext hx
     try replace AF:=AF.ext hx
     try replace HS:=HS.ext hx
     clear hbq hwb hx HC';have mz22:=trivial;refine Qe HC ?_
    rotate_left)
  all_goals try
   (clear mz14
    refine Zp 7 16 ?_ ?_
    focus
     go_wp2;obtain ⟨b2,wb,hbq,hwb,HX2,HC',hx,gp_b2⟩:=Qp HC 3 #[(.int .i64 (-1))];rw [← hbq,← hwb];replace HC:=HC';try replace HX1:=HX1.ext hx
     try replace AO:=AO.ext hx
     try replace AI:=AI.ext hx
     try replace AF:=AF.ext hx
     try replace HS:=HS.ext hx
     try replace HM:=HM.ext hx
     clear hbq hwb hx HC' gp_b2;have mz21:=trivial;refine Qe HC ?_
    rotate_left
    focus
     go_wp2;obtain ⟨bm,wb,hbq,hwb,HM,HC',hx,gp_bm⟩:=Qp HC 166 #[.pointer none];rw [← hbq,← hwb];replace HC:=HC';try replace HX1:=HX1.ext hx
     try replace HX2:=HX2.ext hx
     try replace AO:=AO.ext hx
     try replace AI:=AI.ext hx
     try replace AF:=AF.ext hx
     try replace HS:=HS.ext hx
     clear hbq hwb hx HC';have mz23:=trivial;refine Qe HC ?_
    rotate_left)
  all_goals try
   (clear mz15
    refine Zp 7 13 ?_ ?_
    focus
     go_wp2;obtain ⟨b2,wb,hbq,hwb,HX2,HC',hx,gp_b2⟩:=Qp HC 3 #[(.int .i64 (-1))];rw [← hbq,← hwb];replace HC:=HC';try replace HX1:=HX1.ext hx
     try replace AO:=AO.ext hx
     try replace AI:=AI.ext hx
     try replace AF:=AF.ext hx
     try replace HS:=HS.ext hx
     try replace HM:=HM.ext hx
     clear hbq hwb hx HC' gp_b2;have mz22:=trivial;refine Qe HC ?_
    rotate_left
    focus
     go_wp2;obtain ⟨bf,wb,hbq,hwb,HF,HC',hx,gp_bf⟩:=Qp HC 4 (Array.replicate ni (.bool false));rw [← hbq,← hwb];have AF : Qx wb 4 (some ⟨bf,0,none⟩) ni bf (fun _ => .bool false):=⟨fun _ => rfl,fun _ => ⟨_,HF,by simp,fun k hk => by simp [hk]⟩⟩;replace HC:=HC';try replace HX1:=HX1.ext hx
     try replace HX2:=HX2.ext hx
     try replace AO:=AO.ext hx
     try replace AI:=AI.ext hx
     try replace HS:=HS.ext hx
     try replace HM:=HM.ext hx
     clear hbq hwb hx HC' HF;have mz23:=trivial;refine Qe HC ?_
    rotate_left)
  all_goals try
   (clear mz16
    refine Zp 6 16 ?_ ?_
    focus
     have hz:=HC.size;go_wp2_with (go_at_call 126;(with_reducible refine zc (Ul no b1 _ HX1.c1 HX1.lt hno) ?_);rintro e wc ⟨O,cO,bo,rfl,hj,hl_bo,AO⟩);try replace HX1:=HX1.ext hj
     try replace HX2:=HX2.ext hj
     try replace AI:=AI.ext hj
     try replace AF:=AF.ext hj
     try replace HS:=HS.ext hj
     try replace HM:=HM.ext hj
     replace HC:=HC.trans hj;replace hl_bo:=Nat.le_trans hz hl_bo;clear hj hz HX1;have mz21:=trivial;refine Qe HC ?_
    rotate_left
    focus
     go_wp2;obtain ⟨bm,wb,hbq,hwb,HM,HC',hx,gp_bm⟩:=Qp HC 166 #[.pointer none];rw [← hbq,← hwb];replace HC:=HC';try replace HX1:=HX1.ext hx
     try replace HX2:=HX2.ext hx
     try replace AO:=AO.ext hx
     try replace AI:=AI.ext hx
     try replace AF:=AF.ext hx
     try replace HS:=HS.ext hx
     clear hbq hwb hx HC';have mz24:=trivial;refine Qe HC ?_
    rotate_left)
  all_goals try
   (clear mz17
    refine Zp 6 13 ?_ ?_
    focus
     have hz:=HC.size;go_wp2_with (go_at_call 126;(with_reducible refine zc (Ul no b1 _ HX1.c1 HX1.lt hno) ?_);rintro e wc ⟨O,cO,bo,rfl,hj,hl_bo,AO⟩);try replace HX1:=HX1.ext hj
     try replace HX2:=HX2.ext hj
     try replace AI:=AI.ext hj
     try replace AF:=AF.ext hj
     try replace HS:=HS.ext hj
     try replace HM:=HM.ext hj
     replace HC:=HC.trans hj;replace hl_bo:=Nat.le_trans hz hl_bo;clear hj hz HX1;have mz22:=trivial;refine Qe HC ?_
    rotate_left
    focus
     go_wp2;obtain ⟨bf,wb,hbq,hwb,HF,HC',hx,gp_bf⟩:=Qp HC 4 (Array.replicate ni (.bool false));rw [← hbq,← hwb];have AF : Qx wb 4 (some ⟨bf,0,none⟩) ni bf (fun _ => .bool false):=⟨fun _ => rfl,fun _ => ⟨_,HF,by simp,fun k hk => by simp [hk]⟩⟩;replace HC:=HC';try replace HX1:=HX1.ext hx
     try replace HX2:=HX2.ext hx
     try replace AO:=AO.ext hx
     try replace AI:=AI.ext hx
     try replace HS:=HS.ext hx
     try replace HM:=HM.ext hx
     clear hbq hwb hx HC' HF;have mz24:=trivial;refine Qe HC ?_
    rotate_left)
  all_goals try
   (clear mz18
    refine Zp 6 7 ?_ ?_
    focus
     have hz:=HC.size;go_wp2_with (go_at_call 126;(with_reducible refine zc (Ul no b1 _ HX1.c1 HX1.lt hno) ?_);rintro e wc ⟨O,cO,bo,rfl,hj,hl_bo,AO⟩);try replace HX1:=HX1.ext hj
     try replace HX2:=HX2.ext hj
     try replace AI:=AI.ext hj
     try replace AF:=AF.ext hj
     try replace HS:=HS.ext hj
     try replace HM:=HM.ext hj
     replace HC:=HC.trans hj;replace hl_bo:=Nat.le_trans hz hl_bo;clear hj hz HX1;have mz23:=trivial;refine Qe HC ?_
    rotate_left
    focus
     go_wp2;obtain ⟨b2,wb,hbq,hwb,HX2,HC',hx,gp_b2⟩:=Qp HC 3 #[(.int .i64 (-1))];rw [← hbq,← hwb];replace HC:=HC';try replace HX1:=HX1.ext hx
     try replace AO:=AO.ext hx
     try replace AI:=AI.ext hx
     try replace AF:=AF.ext hx
     try replace HS:=HS.ext hx
     try replace HM:=HM.ext hx
     clear hbq hwb hx HC' gp_b2;have mz24:=trivial;refine Qe HC ?_
    rotate_left)
  all_goals try
   (clear mz19
    refine Qk 3 ?_;go_wp2;obtain ⟨b1,wb,hbq,hwb,HX1,HC',hx,gp_b1⟩:=Qp HC 3 #[(.int .i64 (-1))];rw [← hbq,← hwb];replace HC:=HC';try replace HX2:=HX2.ext hx
    try replace AO:=AO.ext hx
    try replace AI:=AI.ext hx
    try replace AF:=AF.ext hx
    try replace HS:=HS.ext hx
    try replace HM:=HM.ext hx
    clear hbq hwb hx HC' gp_b1;have mz24:=trivial;refine Qe HC ?_)
  all_goals try
   (clear mz20
    refine Zp 13 16 ?_ ?_
    focus
     go_wp2;obtain ⟨bf,wb,hbq,hwb,HF,HC',hx,gp_bf⟩:=Qp HC 4 (Array.replicate ni (.bool false));rw [← hbq,← hwb];have AF : Qx wb 4 (some ⟨bf,0,none⟩) ni bf (fun _ => .bool false):=⟨fun _ => rfl,fun _ => ⟨_,HF,by simp,fun k hk => by simp [hk]⟩⟩;replace HC:=HC';try replace HX1:=HX1.ext hx
     try replace HX2:=HX2.ext hx
     try replace AO:=AO.ext hx
     try replace AI:=AI.ext hx
     try replace HS:=HS.ext hx
     try replace HM:=HM.ext hx
     clear hbq hwb hx HC' HF;have mz25:=trivial;refine Qe HC ?_
    rotate_left
    focus
     go_wp2;obtain ⟨bm,wb,hbq,hwb,HM,HC',hx,gp_bm⟩:=Qp HC 166 #[.pointer none];rw [← hbq,← hwb];replace HC:=HC';try replace HX1:=HX1.ext hx
     try replace HX2:=HX2.ext hx
     try replace AO:=AO.ext hx
     try replace AI:=AI.ext hx
     try replace AF:=AF.ext hx
     try replace HS:=HS.ext hx
     clear hbq hwb hx HC';have mz26:=trivial;refine Qe HC ?_
    rotate_left)
  all_goals try
   (clear mz21
    refine Zp 10 16 ?_ ?_
    focus
     have hz:=HC.size;go_wp2_with (go_at_call 126;(with_reducible refine zc (Ul ni b2 _ HX2.c1 HX2.lt hni) ?_);rintro e wc ⟨I,cI,bi,rfl,hj,hl_bi,AI⟩);have hne : 0 < no → 0 < ni → bo ≠ bi:=fun h _ => by have:=AO.lt h;omega
     try replace HX1:=HX1.ext hj
     try replace HX2:=HX2.ext hj
     try replace AO:=AO.ext hj
     try replace AF:=AF.ext hj
     try replace HS:=HS.ext hj
     try replace HM:=HM.ext hj
     replace HC:=HC.trans hj;replace hl_bi:=Nat.le_trans hz hl_bi;clear hj hz HX2;have mz25:=trivial;refine Qe HC ?_
    rotate_left
    focus
     go_wp2;obtain ⟨bm,wb,hbq,hwb,HM,HC',hx,gp_bm⟩:=Qp HC 166 #[.pointer none];rw [← hbq,← hwb];replace HC:=HC';try replace HX1:=HX1.ext hx
     try replace HX2:=HX2.ext hx
     try replace AO:=AO.ext hx
     try replace AI:=AI.ext hx
     try replace AF:=AF.ext hx
     try replace HS:=HS.ext hx
     clear hbq hwb hx HC';have mz27:=trivial;refine Qe HC ?_
    rotate_left)
  all_goals try
   (clear mz22
    refine Zp 10 13 ?_ ?_
    focus
     have hz:=HC.size;go_wp2_with (go_at_call 126;(with_reducible refine zc (Ul ni b2 _ HX2.c1 HX2.lt hni) ?_);rintro e wc ⟨I,cI,bi,rfl,hj,hl_bi,AI⟩);have hne : 0 < no → 0 < ni → bo ≠ bi:=fun h _ => by have:=AO.lt h;omega
     try replace HX1:=HX1.ext hj
     try replace HX2:=HX2.ext hj
     try replace AO:=AO.ext hj
     try replace AF:=AF.ext hj
     try replace HS:=HS.ext hj
     try replace HM:=HM.ext hj
     replace HC:=HC.trans hj;replace hl_bi:=Nat.le_trans hz hl_bi;clear hj hz HX2;have mz26:=trivial;refine Qe HC ?_
    rotate_left
    focus
     go_wp2;obtain ⟨bf,wb,hbq,hwb,HF,HC',hx,gp_bf⟩:=Qp HC 4 (Array.replicate ni (.bool false));rw [← hbq,← hwb];have AF : Qx wb 4 (some ⟨bf,0,none⟩) ni bf (fun _ => .bool false):=⟨fun _ => rfl,fun _ => ⟨_,HF,by simp,fun k hk => by simp [hk]⟩⟩;replace HC:=HC';try replace HX1:=HX1.ext hx
     try replace HX2:=HX2.ext hx
     try replace AO:=AO.ext hx
     try replace AI:=AI.ext hx
     try replace HS:=HS.ext hx
     try replace HM:=HM.ext hx
     clear hbq hwb hx HC' HF;have mz27:=trivial;refine Qe HC ?_
    rotate_left)
  all_goals try
   (clear mz23
    refine Qk 7 ?_;go_wp2;obtain ⟨b2,wb,hbq,hwb,HX2,HC',hx,gp_b2⟩:=Qp HC 3 #[(.int .i64 (-1))];rw [← hbq,← hwb];replace HC:=HC';try replace HX1:=HX1.ext hx
    try replace AO:=AO.ext hx
    try replace AI:=AI.ext hx
    try replace AF:=AF.ext hx
    try replace HS:=HS.ext hx
    try replace HM:=HM.ext hx
    clear hbq hwb hx HC' gp_b2;have mz27:=trivial;refine Qe HC ?_)
  all_goals try
   (clear mz24
    refine Qk 6 ?_;have hz:=HC.size;go_wp2_with (go_at_call 126;(with_reducible refine zc (Ul no b1 _ HX1.c1 HX1.lt hno) ?_);rintro e wc ⟨O,cO,bo,rfl,hj,hl_bo,AO⟩);try replace HX1:=HX1.ext hj
    try replace HX2:=HX2.ext hj
    try replace AI:=AI.ext hj
    try replace AF:=AF.ext hj
    try replace HS:=HS.ext hj
    try replace HM:=HM.ext hj
    replace HC:=HC.trans hj;replace hl_bo:=Nat.le_trans hz hl_bo;clear hj hz HX1;have mz27:=trivial;refine Qe HC ?_)
  all_goals try
   (clear mz25
    refine Qr (g:=3) [14] HC ?_
    constructor
    refine ⟨fun u hu => ?_,?_⟩
    ·exact Qj
    have mz28:=trivial)
  all_goals try
   (clear mz26
    refine Qk 13 ?_;go_wp2;obtain ⟨bf,wb,hbq,hwb,HF,HC',hx,gp_bf⟩:=Qp HC 4 (Array.replicate ni (.bool false));rw [← hbq,← hwb];have AF : Qx wb 4 (some ⟨bf,0,none⟩) ni bf (fun _ => .bool false):=⟨fun _ => rfl,fun _ => ⟨_,HF,by simp,fun k hk => by simp [hk]⟩⟩;replace HC:=HC';try replace HX1:=HX1.ext hx
    try replace HX2:=HX2.ext hx
    try replace AO:=AO.ext hx
    try replace AI:=AI.ext hx
    try replace HS:=HS.ext hx
    try replace HM:=HM.ext hx
    clear hbq hwb hx HC' HF;have mz29:=trivial;refine Qe HC ?_)
  all_goals try
   (clear mz27
    refine Qk 10 ?_;have hz:=HC.size;go_wp2_with (go_at_call 126;(with_reducible refine zc (Ul ni b2 _ HX2.c1 HX2.lt hni) ?_);rintro e wc ⟨I,cI,bi,rfl,hj,hl_bi,AI⟩);have hne : 0 < no → 0 < ni → bo ≠ bi:=fun h _ => by have:=AO.lt h;omega
    try replace HX1:=HX1.ext hj
    try replace HX2:=HX2.ext hj
    try replace AO:=AO.ext hj
    try replace AF:=AF.ext hj
    try replace HS:=HS.ext hj
    try replace HM:=HM.ext hj
    replace HC:=HC.trans hj;replace hl_bi:=Nat.le_trans hz hl_bi;clear hj hz HX2;have mz29:=trivial;refine Qe HC ?_)
  all_goals try
   (clear mz28
    refine Zp 15 16 ?_ ?_
    focus
     go_wp2;obtain ⟨bs,wb,hbq,hwb,HS,HC',hx,gp_bs⟩:=Qp HC 213 #[.slice Vo no co,.slice Vi ni ci,.slice Y no cY,.slice O no cO,.slice I ni cI,.slice (some ⟨bf,0,none⟩) ni ni,.nilFunc];rw [← hbq,← hwb];replace HC:=HC';try replace HX1:=HX1.ext hx
     try replace HX2:=HX2.ext hx
     try replace AO:=AO.ext hx
     try replace AI:=AI.ext hx
     try replace AF:=AF.ext hx
     try replace HM:=HM.ext hx
     clear hbq hwb hx HC';have mz30:=trivial;refine Qe HC ?_
    rotate_left
    focus
     go_wp2;obtain ⟨bm,wb,hbq,hwb,HM,HC',hx,gp_bm⟩:=Qp HC 166 #[.pointer none];rw [← hbq,← hwb];replace HC:=HC';try replace HX1:=HX1.ext hx
     try replace HX2:=HX2.ext hx
     try replace AO:=AO.ext hx
     try replace AI:=AI.ext hx
     try replace AF:=AF.ext hx
     try replace HS:=HS.ext hx
     clear hbq hwb hx HC';have mz31:=trivial;refine Qe HC ?_
    rotate_left)
  all_goals try
   (clear mz29
    refine Qr (g:=2) [14] HC ?_
    constructor
    refine ⟨fun u hu => ?_,?_⟩
    ·exact Qj
    have mz31:=trivial)
  all_goals try
   (clear mz30
    refine Qk 16 ?_;go_wp2;obtain ⟨bm,wb,hbq,hwb,HM,HC',hx,gp_bm⟩:=Qp HC 166 #[.pointer none];rw [← hbq,← hwb];replace HC:=HC';try replace HX1:=HX1.ext hx
    try replace HX2:=HX2.ext hx
    try replace AO:=AO.ext hx
    try replace AI:=AI.ext hx
    try replace AF:=AF.ext hx
    try replace HS:=HS.ext hx
    clear hbq hwb hx HC';have mz32:=trivial;refine Qe HC ?_)
  all_goals try
   (clear mz31
    refine Qk 15 ?_;go_wp2;obtain ⟨bs,wb,hbq,hwb,HS,HC',hx,gp_bs⟩:=Qp HC 213 #[.slice Vo no co,.slice Vi ni ci,.slice Y no cY,.slice O no cO,.slice I ni cI,.slice (some ⟨bf,0,none⟩) ni ni,.nilFunc];rw [← hbq,← hwb];replace HC:=HC';try replace HX1:=HX1.ext hx
    try replace HX2:=HX2.ext hx
    try replace AO:=AO.ext hx
    try replace AI:=AI.ext hx
    try replace AF:=AF.ext hx
    try replace HM:=HM.ext hx
    clear hbq hwb hx HC';have mz32:=trivial;refine Qe HC ?_)
  all_goals try
   (clear mz32
    refine Qn 17 ?_;have zm:=HM.frozen 0;have cm:=HM.c1;have lm:=HM.lt;go_wp2;have HS2:=Wn HS (Ne.symm (Xt HM HS (by decide))) 0 (.pointer (some ⟨bs,0,none⟩));have AO2:=AO.offM HM (by decide) 0 (.pointer (some ⟨bs,0,none⟩));have AI2:=AI.offM HM (by decide) 0 (.pointer (some ⟨bs,0,none⟩));have AF2:=AF.offM HM (by decide) 0 (.pointer (some ⟨bs,0,none⟩));have HC2:=HC.setCell (p:=⟨bm,0,none⟩) gp_bm (.pointer (some ⟨bs,0,none⟩));have HM2:=Ls HM 0 (.pointer (some ⟨bs,0,none⟩));have mz33:=trivial;refine Qm ?_)
  all_goals try
   (clear mz33
    refine Qt ?_;exact Qgy O cO I cI bo bi bf bs bm b1 b2 ⟨HC2,⟨HM2,HS2⟩,AO2,AI2,AF2,hne,hl_bo,hl_bi,gp_bf,gp_bs,gp_bm⟩ rfl)
 rintro O cO I cI bo bi bf bs bm b1 b2 w1 ⟨E,⟨HM,HS⟩,AO,AI,AF,hne,lo,li,lf,ls,lm⟩;have HC:=Qb.refl w1;have HS4:=HS.ext HC;have HM4:=HM.ext HC;have z6:=HS4.frozen 6;have m0:=HM4.c1;have ml:=HM4.lt;obtain ⟨s0,s1,s2,s3,s4,s5,s6⟩:=Q7 HS4;have sl:=HS4.lt;have HM5:=Wn HM4 (Xt HM4 HS4 (by decide)) 6 (.func (.func 127) #[] #[.pointer (some ⟨bm,0,none⟩)]);have AO5:=(AO.ext HC).offM HS4 (by decide) 6 (.func (.func 127) #[] #[.pointer (some ⟨bm,0,none⟩)]);have AI5:=(AI.ext HC).offM HS4 (by decide) 6 (.func (.func 127) #[] #[.pointer (some ⟨bm,0,none⟩)]);have AF5:=(AF.ext HC).offM HS4 (by decide) 6 (.func (.func 127) #[] #[.pointer (some ⟨bm,0,none⟩)])
 have E5:=(E.trans HC).setCell (p:=⟨bs,6,none⟩) ls (.func (.func 127) #[] #[.pointer (some ⟨bm,0,none⟩)]);have HS5:=Ls HS4 6 (.func (.func 127) #[] #[.pointer (some ⟨bm,0,none⟩)]);go_upto_region 3 with (fail)
 clear z6 m0 ml s0 s1 s2 s3 s4 s5 s6 sl HS4 HM4;generalize World.setCell _ _ _ = wq at *;have M0 : MS w wq bm bs (.slice Vo no co) (.slice Vi ni ci) (.slice Y no cY) O I (some ⟨bf,0,none⟩) no ni cO cI ni bo bi bf Yl (fun _ => false):=⟨E5,⟨HM5,HS5⟩,AO5,AI5,AF5,hne,fun _ => lo,fun _ => li,fun _ => lf⟩;clear E5 HM5 HS5 AO5 AI5 AF5 HM HS AO AI AF E HC;go_upto_region 4 with (fail)
 go_loopw [31] (fun iv wr => ∃ (i : Nat) (m : Mt),i ≤ no ∧ iv = .int .i64 i ∧ MS w wr bm bs (.slice Vo no co) (.slice Vi ni ci) (.slice Y no cY) O I (some ⟨bf,0,none⟩) no ni cO cI ni bo bi bf m (fun _ => false) ∧ Ma adj ni 0 (fun _ => false) i m ∧ Hid ((Jq adj ni (fun _ => false) (no - i) i m).1 = R)) (fun iv _ => no - (intOf iv).toNat)
 case atStart => exact ⟨0,Yl,Nat.zero_le _,rfl,M0,Et adj ni 0 _,hR⟩
 case round =>
  clear M0 hR;obtain ⟨i,m,hi,rfl,M,G,hR⟩:=hrel;obtain ⟨wo,rfl⟩:=Qf wr;by_cases hlt : i < no;rotate_left
  ·obtain rfl : i = no := by omega
   have hRm : m = R:=by
    have h:=hR.out;rw [Nat.sub_self] at h;exact h
   subst hRm;clear hR G;have m0:=M.km.p.c1;have ml:=M.km.p.lt;go_wp2;go_ret;exact ⟨bm,bs,O,I,_,cO,cI,_,bo,bi,bf,rfl,ls,M⟩
  have hm : ∀ k,k < ni → 0 ≤ m.1 k → (m.1 k).toNat < no:=fun k hk h0 => by have:=(G.v.a k hk rfl h0).1;omega
  go_upto_region 6 with (fail)
  refine Q5 9 [8] (fun x => MS w x bm bs (.slice Vo no co) (.slice Vi ni ci) (.slice Y no cY) O I (some ⟨bf,0,none⟩) no ni cO cI ni bo bi bf m (fun _ => false)) mixed rfl ?_;intro vz hvz;have HC:=M.ext hvz;refine Qr (g:=2) [0,1,2,3,4,5,6] HC ?_
  constructor
  refine ⟨fun u hu => ?_,?_⟩
  ·have m0:=hu.km.p.c1;have ml:=hu.km.p.lt;obtain ⟨s0,s1,s2,s3,s4,s5,s6⟩:=Q7 hu.km.s;have sl:=hu.km.s.lt;exact Qj
  refine Qk 7 ?_;have hz:=HC.e.size;go_wp2;obtain ⟨bn,wb,hbq,hwb,HN,_,hx,gp⟩:=Qp HC.e 4 (Array.replicate ni (.bool false));have hnf : 0 < ni → bn ≠ bf:=fun h => by have:=HC.f.lt h;omega
  have hln : 0 < ni → w.heap.size ≤ bn:=fun _ => gp
  rw [← hbq,← hwb];have AN : Qx wb 4 (some ⟨bn,0,none⟩) ni bn (fun _ => .bool false):=⟨fun _ => rfl,fun _ => ⟨_,HN,by simp,fun k hk => by simp [hk]⟩⟩;replace HC:=HC.ext hx;clear hz hbq hwb hx HN;refine Qe HC ?_;refine Qn 8 ?_;go_wp2_with (go_at_call 127;(with_reducible refine zc (Cj w bm bs (.slice Vo no co) (.slice Vi ni ci) (.slice Y no cY) O I (some ⟨bf,0,none⟩) no ni cO cI ni bo bi bf m (fun _ => false) hadj hY hm ni _ (fun _ => false) i _ _ bn hlt (Od ni _) HC AN hnf hln) ?_);rintro e w3 ⟨rfl,M6,F6,sn3,N6,hb3⟩);clear AN N6 F6 hb3 sn3;refine Qm ?_;refine Qt ?_;have G2:=Qh3 hadj (Nat.zero_le i) G
  have hR2 : Hid ((Jq adj ni (fun _ => false) (no - (i + 1)) (i + 1) ((Zh adj ni m (fun _ => false) i).1.getD m)).1 = R):=by
   have h:=hR.out;rw [show no - i = (no - (i + 1)) + 1 by omega,G2.2 (no - (i + 1))] at h;exact h
  replace M6 : MS w w3 bm bs (.slice Vo no co) (.slice Vi ni ci) (.slice Y no cY) O I (some ⟨bf,0,none⟩) no ni cO cI ni bo bi bf ((Zh adj ni m (fun _ => false) i).1.getD m) (fun _ => false):=M6;replace G2:=G2.1;clear hR hm G;go_wp2;exact ⟨⟨i + 1,_,by omega,by go_num,M6,G2,hR2⟩,by simp [intOf];omega⟩
theorem N8 {W : World} {t : TypeId} {A : Option Addr} {n b : Nat} {g : Nat → Value} (h : Qx W t A n b g) : Qs W A n 1 (fun i => [g i]):=fun hn => by
 obtain ⟨cs,h1,h2,h3⟩:=h.h hn;refine ⟨b,0,h.a hn,h1.lt,fun i j v hi hv => ?_⟩
 have hj : j = 0:=by
  have:=(List.getElem?_eq_some_iff.1 hv).1;simp at this;omega
 subst hj;have hv' : g i = v:=by simpa using hv
 rw [← hv'];have:=h.cell hi
 simpa using this
def MT (t : TypeId) : Prop:=t = 3 ∨ t = 4 ∨ t = 213
/-- Blocks of other types than a matcher's stay as they are. -/
def FT (W W' : World) : Prop:=∀ b t (cs : Array Value),Qc W b t cs → ¬ MT t → Qc W' b t cs
theorem FT.refl (W : World) : FT W W:=fun _ _ _ h _ => h
theorem FT.trans {W W1 W2 : World} (h : FT W W1) (k : FT W1 W2) : FT W W2:=fun b t cs hb ht => k b t cs (h b t cs hb ht) ht
theorem FT.ext {W W1 W2 : World} (h : FT W W1) (x : Qb W1 W2) : FT W W2:=fun b t cs hb ht => (h b t cs hb ht).ext x
theorem FT.setH {W W1 : World} {b : Nat} {t : TypeId} {cs : Array Value} (h : FT W W1) (hb : Qc W1 b t cs) (ht : MT t) (j : Nat) (u : Value) : FT W (W1.setCell ⟨b,j,none⟩ u):=fun b' t' cs' hb' ht' => Wn (h b' t' cs' hb' ht') (Xt (h b' t' cs' hb' ht') hb (fun e => ht' (e ▸ ht))) j u
theorem FT.setA {W W1 : World} {t : TypeId} {A : Option Addr} {n b : Nat} {g : Nat → Value} (h : FT W W1) (hA : Qx W1 t A n b g) (hn : 0 < n) (ht : MT t) (j : Nat) (u : Value) : FT W (W1.setCell ⟨b,j,none⟩ u):=by
 obtain ⟨cs,h1,_⟩:=hA.h hn;exact h.setH h1 ht j u
theorem Ws : MT 3:=Or.inl rfl
theorem Lw : MT 4:=Or.inr (Or.inl rfl)
theorem mt_m : MT 213:=Or.inr (Or.inr rfl)
theorem FT.fr {W W1 W2 : World} {no ni bo bi bn : Nat} {O I N : Option Addr} {g g' g'' : Nat → Value} (h : FT W W1) (f : Fr (SN no ni bo bi bn) W1 W2) (ho : Qx W1 3 O no bo g) (hi : Qx W1 3 I ni bi g') (hn : Qx W1 4 N ni bn g'') : FT W W2:=fun b t cs hb ht => f.held (h b t cs hb ht) (fun hs => by
 rcases hs with ⟨h0,e⟩ | ⟨h0,e | e⟩
 ·obtain ⟨ds,h1,_⟩:=ho.h h0;exact Xt (h b t cs hb ht) h1 (fun e => ht (e ▸ Ws)) e
 ·obtain ⟨ds,h1,_⟩:=hi.h h0;exact Xt (h b t cs hb ht) h1 (fun e => ht (e ▸ Ws)) e
 ·obtain ⟨ds,h1,_⟩:=hn.h h0;exact Xt (h b t cs hb ht) h1 (fun e => ht (e ▸ Lw)) e)
theorem Qx.fr {W W' : World} {S : Nat → Prop} {t : TypeId} {A : Option Addr} {n b : Nat} {g : Nat → Value} (h : Qx W t A n b g) (f : Fr S W W') (hs : 0 < n → ¬ S b) : Qx W' t A n b g:=⟨h.a,fun hn => by
 obtain ⟨cs,h1,h2⟩:=h.h hn;exact ⟨cs,f.held h1 (hs hn),h2⟩⟩
section
variable {P : Program} {ops : Array Oper} {md : Region.Mode} {C : World → Prop} {R : Act → World → Prop} {zs : List Nat}
/-- A guarded operation that is wanted and leaves the world. -/
theorem Vs {g : Nat} {L : Array Bool} {a : Act} {w : World} {o : Oper} (k : Nat) (ho : ops[k]? = some o) (hd : (match o.dst with | some d => decide (d < a.tmps.size) | none => false) = true) (hg : Region.wanted o (yielded ops a.tmps) = true) (hB : (Region.noSelect ops && Gr md ops L && L8 md ops zs [k] L) = true) (hw : C w)
  (h : ∃ A,(∀ u,C u → wpQuiet P ops (fun w' => w' = u) (fun a' => a' = A) [o] a) ∧ Zt P md ops C zs R g (L.setIfInBounds k true) A w) : Zt P md ops C zs R (g + 1) L a w:=by
 obtain ⟨A,h1,h2⟩:=h;simp only [Bool.and_eq_true,L8] at hB;obtain ⟨⟨hs,hc⟩,⟨⟨⟨hr,hf⟩,hwz⟩,_⟩⟩:=hB
 cases hod : o.dst with
 | none => rw [hod] at hd;cases hd
 | some d =>
  rw [hod] at hd;have hz : d < a.tmps.size:=by simpa using hd
  have each : ∀ u,C u → ∃ v,o.quietAt P a (fun w' => w' = u) u v ∧ A.tmps[d]? = some v ∧ a.put (some d) v = A:=fun u hu => by
   have h3:=h1 u hu;unfold wpQuiet at h3;rw [if_pos hg] at h3;obtain ⟨v,h4,h5⟩:=h3;have h5 : a.put o.dst v = A:=h5;rw [hod] at h5;refine ⟨v,h4 _ rfl,?_,h5⟩;rw [← h5];simp [Act.put,hz]
  obtain ⟨v,_,hv,hA⟩:=each w hw
  have hy : Wx P ops C o v a:=⟨hg,fun w' e => by
   obtain ⟨v',g1,g2,_⟩:=each w' e;rw [hv] at g2;rw [Option.some.inj g2];exact g1⟩
  exact Qd6 ho (fun j hj => List.all_eq_true.1 hwz j hj) (Region.noSelect_spec hs) _ L a w (Ah hc) (Region.free_spec ho hf) (by simpa using hr) hw hy (by rw [hod,hA];exact h2)
end
theorem Qdb {m : Mt} {i k no ni : Nat} (hi : i < no) (hm1 : ∀ x,x < ni → 0 ≤ m.1 x → (m.1 x).toNat < no) : ∀ x,x < ni → 0 ≤ (Ya m i k).1 x → ((Ya m i k).1 x).toNat < no:=fun x hx h0 => by
 have h0 : 0 ≤ Qi (Z8 m i) k i x:=h0
 show (Qi (Z8 m i) k i x).toNat < no
 by_cases e : x = k
 ·subst e;rw [Z2];simpa using hi
 ·rw [Zl _ _ e] at h0 ⊢;unfold Z8 at h0 ⊢;by_cases c : 0 ≤ m.2 i
  ·rw [if_pos c] at h0 ⊢;by_cases e2 : x = (m.2 i).toNat
   ·subst e2;rw [Z2] at h0;omega
   ·rw [Zl _ _ e2] at h0 ⊢;exact hm1 x hx h0
  ·rw [if_neg c] at h0 ⊢;exact hm1 x hx h0
theorem Qnl {fx : Bl} {k : Nat} (h : fx k = false) : Qi (Qi fx k true) k false = fx:=by
 funext x
 unfold Qi;by_cases e : x = k
 ·subst e;simp [h]
 ·simp [e]
theorem Ag (A : Option Addr) (n cap b0 : Nat) (f : Nat → Int) (w : World) (h : Qx w 3 A n b0 (fun k => .int .i64 (f k))) (hn : n ≤ 1000000) :
  Calls Tryz.prog 166 #[.slice A n cap] w fun e w' => ∃ A' cap' b,e = .returned (.slice A' n cap') ∧ Qb w w' ∧ (0 < n → w.heap.size ≤ b) ∧ Qx w' 3 A' n b (fun k => .int .i64 (f k)):=by
 have q23 : ∀ (w : World) (a : Option Addr) (n c n' c' : Nat),(binOp .eql 125 (.slice a n c) (.slice none n' c')).run Tryz.prog w = .ok (.bool a.isNone) w:=fun w a n c n' c' => Lib.run_eql_slice_nil w _ _ a n c n' c' Tryz.underlying125
 cases A with
 | none =>
  have h0 : n = 0:=by
   refine Nat.eq_zero_of_not_pos fun hp => ?_
   have:=h.a hp;cases this
  subst h0;clear h
  go_enter Tryz.func166,Tryz.ntmps166
  go_wp2;go_ret
  exact ⟨none,0,0,rfl,Qb.refl _,fun h => absurd h Qa,fun h => absurd h Qa,fun h => absurd h Qa⟩
 | some a =>
  obtain ⟨i0,hi,hz0,hz1,hz2⟩:=info_parts Oj;obtain ⟨xs,hxs⟩ : ∃ xs : List Value,xs = (List.range n).map (fun k => .int .i64 (f k)):=⟨_,rfl⟩;have hlen : xs.length = n * 1:=by rw [hxs];simp
  have HN : ∀ (j : Nat) (u : Value),xs[j]? = some u → (w.alloc (.cells #[] 3)).cell? (a.add j) = some u:=fun j u hj => by
   have hjn : j < n:=by
    have:=(List.getElem?_eq_some_iff.1 hj).1;omega
   have ha:=h.a Qa;injection ha with ha
   have hc:=h.cell hjn;rw [hxs] at hj;have e : u = .int .i64 (f j):=by simp [hjn] at hj;exact hj.symm
   rw [ha,e,Addr.add_lit,Nat.zero_add];exact (((Qb.refl w).alloc _).cell (p:=⟨b0,j,none⟩) (h.lt Qa)).trans hc
  have hone : ∀ u ∈ xs,u.oneCell' = true:=fun u hu => by
   rw [hxs] at hu;obtain ⟨x,_,rfl⟩:=List.mem_map.1 hu;rfl
  have hget : ∀ k,k < n → xs[k]? = some (.int .i64 (f k)):=fun k hk => by rw [hxs];simp [hk]
  clear hxs h
  go_enter Tryz.func166,Tryz.ntmps166
  go_wp2_with (at_builtin;refine wpList_append_own _ rfl _ _ 125 rfl w.heap.size 3 i0 (.int .i64 0) 1 8 Tryz.underlying125 hi hz0 hz1 hz2 rfl (by decide) _ _ _ rfl (World.ownsRow_made w #[] 0 (Nat.le_refl _) (Nat.zero_le _) rfl) a n cap xs rfl hlen HN hone (by unfold maxLen;omega) Qa (by simp) ?_;intro v' w1 hown hgrow hnil2);go_ret;have hown2 : w1.ownsRow w.heap.size 3 1 v' n xs:=by simpa using hown
  obtain ⟨A',cap',b,rfl,hb,_,hA⟩:=Tf (g:=fun k => .int .i64 (f k)) hown2 hget;exact ⟨A',cap',b,rfl,((Qb.refl w).alloc _).grown hgrow (fun q hq => by have h : some w.heap.size = some q:=hq;cases h;exact Nat.le_refl _),fun _ => hb,hA⟩
set_option maxHeartbeats 40000000 in
theorem Qm8 {adj : Nat → List Nat} (W0 : World) (bm bs : Nat) (Vo Vi : Option Addr) (co ci : Nat) (vy : Value) (O I X : Option Addr) (no ni cO cI cX bo bi bf : Nat) (m : Mt) (fx : Bl) (i k : Nat) (hadj : ∀ o,∀ k ∈ adj o,k < ni) (hY : Nt W0 vy no adj) (hi : i < no) (hk : k < ni) (hno : no ≤ 1000000) (hni : ni ≤ 1000000) (hls : W0.heap.size ≤ bs) (hf : fx k = false) (hm1 : ∀ x,x < ni → 0 ≤ m.1 x → (m.1 x).toNat < no) (hm2 : ∀ o,o < no → 0 ≤ m.2 o → (m.2 o).toNat < ni) (W : World) (hM : MS W0 W bm bs (.slice Vo no co) (.slice Vi ni ci) vy O I X no ni cO cI cX bo bi bf m fx) :
  Calls Tryz.prog 128 #[.pointer (some ⟨bs,0,none⟩),.int .i64 i,.int .i64 k] W fun e W' => e = .returned (.bool (Xk adj ni no fx m i k).isSome) ∧ FT W W' ∧ ∃ O' I' cO' cI' bo' bi',MS W0 W' bm bs (.slice Vo no co) (.slice Vi ni ci) vy O' I' X no ni cO' cI' cX bo' bi' bf ((Xk adj ni no fx m i k).getD m) (if (Xk adj ni no fx m i k).isSome then Qi fx k true else fx):=by
 obtain ⟨Y,cY,vs,rfl,_,_⟩:=id hY;obtain ⟨R,hR⟩:=Qf (Xk adj ni no fx m i k);rw [← hR];replace hR:=Lib.hid hR;have hno0 : 0 < no:=by omega
 have hni0 : 0 < ni:=by omega
 have hmkb:=fun w => Qas ni hni w
 have hXe:=hM.f.a hni0;have hIe:=hM.i.a hni0;have hOe:=hM.o.a hno0;subst hXe;subst hIe;subst hOe
 go_enter Tryz.func128,Tryz.ntmps128
 obtain ⟨s0,s1,s2,s3,s4,s5,s6⟩:=Q7 hM.km.s;have sl:=hM.km.s.lt;go_upto_region 1 with (fail)
 clear s0 s1 s2 s3 s4 s5 s6 sl;refine Q5 12 [10,11] (fun x => MS W0 x bm bs (.slice Vo no co) (.slice Vi ni ci) (.slice Y no cY) (some ⟨bo,0,none⟩) (some ⟨bi,0,none⟩) (some ⟨bf,0,none⟩) no ni cO cI cX bo bi bf m fx) mixed rfl ?_;intro vz hvz;have HC:=hM.ext hvz;have hE:=hvz;refine Qr (g:=4) [0,1,2,3,5,6,7,8] HC ?_
 constructor
 refine ⟨fun u hu => ?_,?_⟩
 ·obtain ⟨s0,s1,s2,s3,s4,s5,s6⟩:=Q7 hu.km.s;have sl:=hu.km.s.lt;exact Qj
 refine Qk 4 ?_;have hz:=HC.e.size;have hb1:=HC.o.lt hno0;have hb2:=HC.i.lt hni0;go_wp2_with (go_at_call 166;(with_reducible refine zc (Ag _ no _ bo m.2 _ HC.o hno) ?_);rintro e wc ⟨O2,cO2,bo2,rfl,hj,hl,AO2⟩);have a1 : W0.heap.size ≤ bo2 ∧ bo2 ≠ bo ∧ bo2 ≠ bi:=by have:=hl hno0;exact ⟨by omega,by omega,by omega⟩
 replace HC:=HC.ext hj;replace hE:=hE.trans hj;clear hz hb1 hb2 hl hj;refine Qe HC ?_;refine Qk 9 ?_;have hz:=HC.e.size;have hb1:=HC.o.lt hno0;have hb2:=HC.i.lt hni0;go_wp2_with (go_at_call 166;(with_reducible refine zc (Ag _ ni _ bi m.1 _ HC.i hni) ?_);rintro e wc ⟨I2,cI2,bi2,rfl,hj,hl,AI2⟩)
 have a2 : W0.heap.size ≤ bi2 ∧ bi2 ≠ bo ∧ bi2 ≠ bi ∧ bo2 ≠ bi2:=by
  have:=hl hni0;have:=AO2.lt hno0;exact ⟨by omega,by omega,by omega,by omega⟩
 replace AO2:=AO2.ext hj;replace HC:=HC.ext hj;replace hE:=hE.trans hj;clear hz hb1 hb2 hl hj;refine Qe HC ?_;refine Qn 10 ?_;go_wp2;refine Qm ?_;refine Qn 11 ?_;go_wp2;refine Qm ?_;refine Qt ?_;have hF : FT W wc:=fun b t cs hb _ => hb.ext hE
 clear hM hE;obtain ⟨z1,hz1⟩:=Qf (m.2 i);obtain ⟨z2,hz2⟩:=Qf (m.1 k);have o0:=HC.o.cell hi;rw [← hz1] at o0;have ol:=HC.o.lt hno0;have i0:=HC.i.cell hk;rw [← hz2] at i0;have il:=HC.i.lt hni0;replace hz1:=Lib.hid hz1;replace hz2:=Lib.hid hz2;obtain ⟨s0,s1,s2,s3,s4,s5,s6⟩:=Q7 HC.km.s;have sl:=HC.km.s.lt;go_upto_region 2 with (fail)
 refine Zo wc ?_;intro w2 h2;obtain ⟨hcbw2,hfbw2,hzbw2,hzw2⟩:=Zn wc h2;clear s0 s1 s2 s3 s4 s5 s6 sl o0 ol i0 il;replace HC:=HC.ext h2;replace hF:=hF.ext h2;replace AO2:=AO2.ext h2;replace AI2:=AI2.ext h2;clear h2;obtain ⟨s0,s1,s2,s3,s4,s5,s6⟩:=Q7 HC.km.s;have sl:=HC.km.s.lt;rcases Int.lt_or_le z2 0 with n2 | n2
 ·rcases Int.lt_or_le z1 0 with n1 | n1
  ·replace hz1:=hz1.out;replace hz2:=hz2.out;have g2 : decide (0 ≤ z2) = false:=decide_eq_false Qa;have g4 : decide (z2 < 0) = true:=decide_eq_true n2;have g1 : decide (0 ≤ z1) = false:=decide_eq_false Qa;have g3 : decide (z1 < 0) = true:=decide_eq_true n1
   have hs : (Qi (m.1) k (i : Int),Qi (m.2) i (k : Int)) = Ya m i k:=by
    unfold Ya Z8;rw [if_neg (show ¬ 0 ≤ m.2 i by omega),if_neg (show ¬ 0 ≤ m.1 k by omega)]
   have hRs : R = some (Ya m i k):=by rw [hR.out];unfold Xk;rw [if_pos Qa]
   subst hRs;clear hR;replace hs:=Lib.hid hs;replace hz1:=Lib.hid hz1;replace hz2:=Lib.hid hz2;go_upto_region 7 with (fail)
   clear s0 s1 s2 s3 s4 s5 s6 sl;refine Q5 16 [15] (fun x => KM bm bs (.slice Vo no co) (.slice Vi ni ci) (.slice Y no cY) (some ⟨bo,0,none⟩) (some ⟨bi,0,none⟩) (some ⟨bf,0,none⟩) no ni cO cI cX x) mixed rfl ?_;intro vz hvz;replace HC:=HC.ext hvz;replace hF:=hF.ext hvz;replace AO2:=AO2.ext hvz;replace AI2:=AI2.ext hvz;have HK:=HC.km;refine Qr (g:=3) [0,1,2,3,4,5,6,7,8,9,10,11,12] HK ?_
   constructor
   refine ⟨fun u hu => ?_,?_⟩
   ·obtain ⟨s0,s1,s2,s3,s4,s5,s6⟩:=Q7 hu.s;have sl:=hu.s.lt;exact Qj
   refine Qk 13 ?_;have fz:=HC.o.frozen hno0 i;have fc:=HC.o.cell hi;have fl:=HC.o.lt hno0;go_wp2;replace hF:=hF.setA HC.o hno0 Ws i (.int .i64 (k : Int));replace AO2:=AO2.oth (fun hn => a1.2.1) i (.int .i64 (k : Int));replace AI2:=AI2.oth (fun hn => a2.2.1) i (.int .i64 (k : Int));replace HC:=HC.setO hi (k : Int);clear fz fc fl;generalize World.setCell _ _ _ = wq at *;replace HK:=HC.km;refine Qe HK ?_;refine Qr (g:=1) [14] HK ?_
   constructor
   refine ⟨fun u hu => ?_,?_⟩
   ·obtain ⟨s0,s1,s2,s3,s4,s5,s6⟩:=Q7 hu.s;have sl:=hu.s.lt;exact Qj
   refine Qn 15 ?_;have fz:=HC.i.frozen hni0 k;have fc:=HC.i.cell hk;have fl:=HC.i.lt hni0;go_wp2;replace hF:=hF.setA HC.i hni0 Ws k (.int .i64 (i : Int));replace AO2:=AO2.oth (fun hn => a1.2.2) k (.int .i64 (i : Int));replace AI2:=AI2.oth (fun hn => a2.2.2.1) k (.int .i64 (i : Int));replace HC:=HC.setI hk (i : Int);clear fz fc fl;generalize World.setCell _ _ _ = wq at *;replace HK:=HC.km;refine Qm ?_;refine Qt ?_;rw [hs.out] at HC;clear HK;obtain ⟨s0,s1,s2,s3,s4,s5,s6⟩:=Q7 HC.km.s;have sl:=HC.km.s.lt;go_upto_region 8 with (fail)
   have fz:=HC.f.frozen hni0 k;have fc:=HC.f.cell hk;have fl:=HC.f.lt hni0;go_upto_region 9 with (fail)
   replace hF:=hF.setA HC.f hni0 Lw k (.bool true);replace AO2:=AO2.oth (fun hn => AO2.apart2 HC.f (by decide) hn hni0) k (.bool true);replace AI2:=AI2.oth (fun hn => AI2.apart2 HC.f (by decide) hn hni0) k (.bool true);replace HC:=HC.setF hk (true);clear fz fc fl;generalize World.setCell _ _ _ = wq at *;clear s0 s1 s2 s3 s4 s5 s6 sl;obtain ⟨s0,s1,s2,s3,s4,s5,s6⟩:=Q7 HC.km.s;have sl:=HC.km.s.lt;go_upto_region 11 with (fail)
   go_loopw [11,12] (fun okv jv wr => okv = .bool true ∧ jv = .int .i64 ((i + 1 : Nat) : Int) ∧ wr = wq) (fun _ _ _ => 0)
   case atStart => exact ⟨rfl,by go_num,rfl⟩
   case round =>
    obtain ⟨rfl,rfl,rfl⟩:=hrel;by_cases cj : i + 1 < no
    ·have cj1 : decide (((i + 1 : Nat) : Int) < (no : Int)) = true:=decide_eq_true Qa;go_wp2;go_ret;exact ⟨rfl,hF,_,_,_,_,_,_,HC⟩
    ·have cj1 : decide (((i + 1 : Nat) : Int) < (no : Int)) = false:=decide_eq_false Qa;go_wp2;go_ret;exact ⟨rfl,hF,_,_,_,_,_,_,HC⟩
  ·replace hz1 := hz1.out;replace hz2 := hz2.out;have g2 : decide (0 ≤ z2) = false := decide_eq_false Qa;have g4 : decide (z2 < 0) = true := decide_eq_true n2;obtain ⟨p1, rfl⟩ := Int.eq_ofNat_of_zero_le n1;have hp1 : p1 < ni := by have := hm2 i hi Qa; rw [← hz1] at this; simpa using this
   have g1 : decide ((0 : Int) ≤ (p1 : Int)) = true:=decide_eq_true n1;have g3 : decide ((p1 : Int) < 0) = false:=decide_eq_false Qa
   have hs : (Qi (Qi m.1 p1 (-1)) k (i : Int),Qi (m.2) i (k : Int)) = Ya m i k:=by
    unfold Ya Z8;rw [if_pos (show 0 ≤ m.2 i by omega),if_neg (show ¬ 0 ≤ m.1 k by omega),← hz1];rfl
   have hRs : R = some (Ya m i k):=by rw [hR.out];unfold Xk;rw [if_pos Qa]
   subst hRs;clear hR;replace hs:=Lib.hid hs;replace hz1:=Lib.hid hz1;replace hz2:=Lib.hid hz2;go_upto_region 6 with (fail)
   have fz:=HC.i.frozen hni0 p1;have fc:=HC.i.cell hp1;have fl:=HC.i.lt hni0;go_upto_region 7 with (fail)
   replace hF:=hF.setA HC.i hni0 Ws p1 (.int .i64 (-1));replace AO2:=AO2.oth (fun hn => a1.2.2) p1 (.int .i64 (-1));replace AI2:=AI2.oth (fun hn => a2.2.2.1) p1 (.int .i64 (-1));replace HC:=HC.setI hp1 (-1);clear fz fc fl;generalize World.setCell _ _ _ = wq at *;clear s0 s1 s2 s3 s4 s5 s6 sl;refine Q5 16 [15] (fun x => KM bm bs (.slice Vo no co) (.slice Vi ni ci) (.slice Y no cY) (some ⟨bo,0,none⟩) (some ⟨bi,0,none⟩) (some ⟨bf,0,none⟩) no ni cO cI cX x) mixed rfl ?_;intro vz hvz;replace HC:=HC.ext hvz;replace hF:=hF.ext hvz;replace AO2:=AO2.ext hvz;replace AI2:=AI2.ext hvz;have HK:=HC.km;refine Qr (g:=3) [0,1,2,3,4,5,6,7,8,9,10,11,12] HK ?_
   constructor
   refine ⟨fun u hu => ?_,?_⟩
   ·obtain ⟨s0,s1,s2,s3,s4,s5,s6⟩:=Q7 hu.s;have sl:=hu.s.lt;exact Qj
   refine Qk 13 ?_;have fz:=HC.o.frozen hno0 i;have fc:=HC.o.cell hi;have fl:=HC.o.lt hno0;go_wp2;replace hF:=hF.setA HC.o hno0 Ws i (.int .i64 (k : Int));replace AO2:=AO2.oth (fun hn => a1.2.1) i (.int .i64 (k : Int));replace AI2:=AI2.oth (fun hn => a2.2.1) i (.int .i64 (k : Int));replace HC:=HC.setO hi (k : Int);clear fz fc fl;generalize World.setCell _ _ _ = wq at *;replace HK:=HC.km;refine Qe HK ?_;refine Qr (g:=1) [14] HK ?_
   constructor
   refine ⟨fun u hu => ?_,?_⟩
   ·obtain ⟨s0,s1,s2,s3,s4,s5,s6⟩:=Q7 hu.s;have sl:=hu.s.lt;exact Qj
   refine Qn 15 ?_;have fz:=HC.i.frozen hni0 k;have fc:=HC.i.cell hk;have fl:=HC.i.lt hni0;go_wp2;replace hF:=hF.setA HC.i hni0 Ws k (.int .i64 (i : Int));replace AO2:=AO2.oth (fun hn => a1.2.2) k (.int .i64 (i : Int));replace AI2:=AI2.oth (fun hn => a2.2.2.1) k (.int .i64 (i : Int));replace HC:=HC.setI hk (i : Int);clear fz fc fl;generalize World.setCell _ _ _ = wq at *;replace HK:=HC.km;refine Qm ?_;refine Qt ?_;rw [hs.out] at HC;clear HK;obtain ⟨s0,s1,s2,s3,s4,s5,s6⟩:=Q7 HC.km.s;have sl:=HC.km.s.lt;go_upto_region 8 with (fail)
   have fz:=HC.f.frozen hni0 k;have fc:=HC.f.cell hk;have fl:=HC.f.lt hni0;go_upto_region 9 with (fail)
   replace hF:=hF.setA HC.f hni0 Lw k (.bool true);replace AO2:=AO2.oth (fun hn => AO2.apart2 HC.f (by decide) hn hni0) k (.bool true);replace AI2:=AI2.oth (fun hn => AI2.apart2 HC.f (by decide) hn hni0) k (.bool true);replace HC:=HC.setF hk (true);clear fz fc fl;generalize World.setCell _ _ _ = wq at *;clear s0 s1 s2 s3 s4 s5 s6 sl;obtain ⟨s0,s1,s2,s3,s4,s5,s6⟩:=Q7 HC.km.s;have sl:=HC.km.s.lt;go_upto_region 11 with (fail)
   go_loopw [11,12] (fun okv jv wr => okv = .bool true ∧ jv = .int .i64 ((i + 1 : Nat) : Int) ∧ wr = wq) (fun _ _ _ => 0)
   case atStart => exact ⟨rfl,by go_num,rfl⟩
   case round =>
    obtain ⟨rfl,rfl,rfl⟩:=hrel;by_cases cj : i + 1 < no
    ·have cj1 : decide (((i + 1 : Nat) : Int) < (no : Int)) = true:=decide_eq_true Qa;go_wp2;go_ret;exact ⟨rfl,hF,_,_,_,_,_,_,HC⟩
    ·have cj1 : decide (((i + 1 : Nat) : Int) < (no : Int)) = false:=decide_eq_false Qa;go_wp2;go_ret;exact ⟨rfl,hF,_,_,_,_,_,_,HC⟩
 ·rcases Int.lt_or_le z1 0 with n1 | n1
  ·replace hz1 := hz1.out;replace hz2 := hz2.out;obtain ⟨p2, rfl⟩ := Int.eq_ofNat_of_zero_le n2;have hp2 : p2 < no := by have := hm1 k hk Qa; rw [← hz2] at this; simpa using this
   have g2 : decide ((0 : Int) ≤ (p2 : Int)) = true:=decide_eq_true n2;have g1 : decide (0 ≤ z1) = false:=decide_eq_false Qa;have g3 : decide (z1 < 0) = true:=decide_eq_true n1;have g4 : decide ((p2 : Int) < 0) = false:=decide_eq_false Qa
   have hs : (Qi (m.1) k (i : Int),Qi (Qi m.2 p2 (-1)) i (k : Int)) = Ya m i k:=by
    unfold Ya Z8;rw [if_neg (show ¬ 0 ≤ m.2 i by omega),if_pos (show 0 ≤ m.1 k by omega),← hz2];rfl
   have hRs : R = some (Ya m i k):=by rw [hR.out];unfold Xk;rw [if_pos Qa]
   subst hRs;clear hR;replace hs:=Lib.hid hs;replace hz1:=Lib.hid hz1;replace hz2:=Lib.hid hz2;go_upto_region 4 with (fail)
   have fz:=HC.o.frozen hno0 p2;have fc:=HC.o.cell hp2;have fl:=HC.o.lt hno0;go_upto_region 5 with (fail)
   replace hF:=hF.setA HC.o hno0 Ws p2 (.int .i64 (-1));replace AO2:=AO2.oth (fun hn => a1.2.1) p2 (.int .i64 (-1));replace AI2:=AI2.oth (fun hn => a2.2.1) p2 (.int .i64 (-1));replace HC:=HC.setO hp2 (-1);clear fz fc fl;generalize World.setCell _ _ _ = wq at *;clear s0 s1 s2 s3 s4 s5 s6 sl;obtain ⟨s0,s1,s2,s3,s4,s5,s6⟩:=Q7 HC.km.s;have sl:=HC.km.s.lt;go_upto_region 7 with (fail)
   clear s0 s1 s2 s3 s4 s5 s6 sl;refine Q5 16 [15] (fun x => KM bm bs (.slice Vo no co) (.slice Vi ni ci) (.slice Y no cY) (some ⟨bo,0,none⟩) (some ⟨bi,0,none⟩) (some ⟨bf,0,none⟩) no ni cO cI cX x) mixed rfl ?_;intro vz hvz;replace HC:=HC.ext hvz;replace hF:=hF.ext hvz;replace AO2:=AO2.ext hvz;replace AI2:=AI2.ext hvz;have HK:=HC.km;refine Qr (g:=3) [0,1,2,3,4,5,6,7,8,9,10,11,12] HK ?_
   constructor
   refine ⟨fun u hu => ?_,?_⟩
   ·obtain ⟨s0,s1,s2,s3,s4,s5,s6⟩:=Q7 hu.s;have sl:=hu.s.lt;exact Qj
   refine Qk 13 ?_;have fz:=HC.o.frozen hno0 i;have fc:=HC.o.cell hi;have fl:=HC.o.lt hno0;go_wp2;replace hF:=hF.setA HC.o hno0 Ws i (.int .i64 (k : Int));replace AO2:=AO2.oth (fun hn => a1.2.1) i (.int .i64 (k : Int));replace AI2:=AI2.oth (fun hn => a2.2.1) i (.int .i64 (k : Int));replace HC:=HC.setO hi (k : Int);clear fz fc fl;generalize World.setCell _ _ _ = wq at *;replace HK:=HC.km;refine Qe HK ?_;refine Qr (g:=1) [14] HK ?_
   constructor
   refine ⟨fun u hu => ?_,?_⟩
   ·obtain ⟨s0,s1,s2,s3,s4,s5,s6⟩:=Q7 hu.s;have sl:=hu.s.lt;exact Qj
   refine Qn 15 ?_;have fz:=HC.i.frozen hni0 k;have fc:=HC.i.cell hk;have fl:=HC.i.lt hni0;go_wp2;replace hF:=hF.setA HC.i hni0 Ws k (.int .i64 (i : Int));replace AO2:=AO2.oth (fun hn => a1.2.2) k (.int .i64 (i : Int));replace AI2:=AI2.oth (fun hn => a2.2.2.1) k (.int .i64 (i : Int));replace HC:=HC.setI hk (i : Int);clear fz fc fl;generalize World.setCell _ _ _ = wq at *;replace HK:=HC.km;refine Qm ?_;refine Qt ?_;rw [hs.out] at HC;clear HK;obtain ⟨s0,s1,s2,s3,s4,s5,s6⟩:=Q7 HC.km.s;have sl:=HC.km.s.lt;go_upto_region 8 with (fail)
   have fz:=HC.f.frozen hni0 k;have fc:=HC.f.cell hk;have fl:=HC.f.lt hni0;go_upto_region 9 with (fail)
   replace hF:=hF.setA HC.f hni0 Lw k (.bool true);replace AO2:=AO2.oth (fun hn => AO2.apart2 HC.f (by decide) hn hni0) k (.bool true);replace AI2:=AI2.oth (fun hn => AI2.apart2 HC.f (by decide) hn hni0) k (.bool true);replace HC:=HC.setF hk (true);clear fz fc fl;generalize World.setCell _ _ _ = wq at *;clear s0 s1 s2 s3 s4 s5 s6 sl;obtain ⟨s0,s1,s2,s3,s4,s5,s6⟩:=Q7 HC.km.s;have sl:=HC.km.s.lt;go_upto_region 11 with (fail)
   go_loopw [11,12] (fun okv jv wr => okv = .bool true ∧ jv = .int .i64 ((i + 1 : Nat) : Int) ∧ wr = wq) (fun _ _ _ => 0)
   case atStart => exact ⟨rfl,by go_num,rfl⟩
   case round =>
    obtain ⟨rfl,rfl,rfl⟩:=hrel;by_cases cj : i + 1 < no
    ·have cj1 : decide (((i + 1 : Nat) : Int) < (no : Int)) = true:=decide_eq_true Qa;go_wp2;go_ret;exact ⟨rfl,hF,_,_,_,_,_,_,HC⟩
    ·have cj1 : decide (((i + 1 : Nat) : Int) < (no : Int)) = false:=decide_eq_false Qa;go_wp2;go_ret;exact ⟨rfl,hF,_,_,_,_,_,_,HC⟩
  ·replace hz1 := hz1.out;replace hz2 := hz2.out;obtain ⟨p2, rfl⟩ := Int.eq_ofNat_of_zero_le n2;have hp2 : p2 < no := by have := hm1 k hk Qa; rw [← hz2] at this; simpa using this
   have g2 : decide ((0 : Int) ≤ (p2 : Int)) = true:=decide_eq_true n2;obtain ⟨p1,rfl⟩:=Int.eq_ofNat_of_zero_le n1;have hp1 : p1 < ni:=by have:=hm2 i hi Qa;rw [← hz1] at this;simpa using this
   have g1 : decide ((0 : Int) ≤ (p1 : Int)) = true:=decide_eq_true n1;have g3 : decide ((p1 : Int) < 0) = false:=decide_eq_false Qa;have g4 : decide ((p2 : Int) < 0) = false:=decide_eq_false Qa
   have hs : (Qi (Qi m.1 p1 (-1)) k (i : Int),Qi (Qi m.2 p2 (-1)) i (k : Int)) = Ya m i k:=by
    unfold Ya Z8;rw [if_pos (show 0 ≤ m.2 i by omega),if_pos (show 0 ≤ m.1 k by omega),← hz1,← hz2];rfl
   replace hR : Hid (Vc adj ni (Qi fx k true) (no - (i + 1)) (i + 1) (Ya m i k) = R):=by
    have h:=hR.out;unfold Xk at h;rw [if_neg Qa] at h;exact h.symm
   replace hs:=Lib.hid hs;replace hz1:=Lib.hid hz1;replace hz2:=Lib.hid hz2;go_upto_region 4 with (fail)
   have fz:=HC.o.frozen hno0 p2;have fc:=HC.o.cell hp2;have fl:=HC.o.lt hno0;go_upto_region 5 with (fail)
   replace hF:=hF.setA HC.o hno0 Ws p2 (.int .i64 (-1));replace AO2:=AO2.oth (fun hn => a1.2.1) p2 (.int .i64 (-1));replace AI2:=AI2.oth (fun hn => a2.2.1) p2 (.int .i64 (-1));replace HC:=HC.setO hp2 (-1);clear fz fc fl;generalize World.setCell _ _ _ = wq at *;clear s0 s1 s2 s3 s4 s5 s6 sl;obtain ⟨s0,s1,s2,s3,s4,s5,s6⟩:=Q7 HC.km.s;have sl:=HC.km.s.lt;go_upto_region 6 with (fail)
   have fz:=HC.i.frozen hni0 p1;have fc:=HC.i.cell hp1;have fl:=HC.i.lt hni0;go_upto_region 7 with (fail)
   replace hF:=hF.setA HC.i hni0 Ws p1 (.int .i64 (-1));replace AO2:=AO2.oth (fun hn => a1.2.2) p1 (.int .i64 (-1));replace AI2:=AI2.oth (fun hn => a2.2.2.1) p1 (.int .i64 (-1));replace HC:=HC.setI hp1 (-1);clear fz fc fl;generalize World.setCell _ _ _ = wq at *;clear s0 s1 s2 s3 s4 s5 s6 sl;refine Q5 16 [15] (fun x => KM bm bs (.slice Vo no co) (.slice Vi ni ci) (.slice Y no cY) (some ⟨bo,0,none⟩) (some ⟨bi,0,none⟩) (some ⟨bf,0,none⟩) no ni cO cI cX x) mixed rfl ?_;intro vz hvz;replace HC:=HC.ext hvz;replace hF:=hF.ext hvz;replace AO2:=AO2.ext hvz;replace AI2:=AI2.ext hvz;have HK:=HC.km;refine Qr (g:=3) [0,1,2,3,4,5,6,7,8,9,10,11,12] HK ?_
   constructor
   refine ⟨fun u hu => ?_,?_⟩
   ·obtain ⟨s0,s1,s2,s3,s4,s5,s6⟩:=Q7 hu.s;have sl:=hu.s.lt;exact Qj
   refine Qk 13 ?_;have fz:=HC.o.frozen hno0 i;have fc:=HC.o.cell hi;have fl:=HC.o.lt hno0;go_wp2;replace hF:=hF.setA HC.o hno0 Ws i (.int .i64 (k : Int));replace AO2:=AO2.oth (fun hn => a1.2.1) i (.int .i64 (k : Int));replace AI2:=AI2.oth (fun hn => a2.2.1) i (.int .i64 (k : Int));replace HC:=HC.setO hi (k : Int);clear fz fc fl;generalize World.setCell _ _ _ = wq at *;replace HK:=HC.km;refine Qe HK ?_;refine Qr (g:=1) [14] HK ?_
   constructor
   refine ⟨fun u hu => ?_,?_⟩
   ·obtain ⟨s0,s1,s2,s3,s4,s5,s6⟩:=Q7 hu.s;have sl:=hu.s.lt;exact Qj
   refine Qn 15 ?_;have fz:=HC.i.frozen hni0 k;have fc:=HC.i.cell hk;have fl:=HC.i.lt hni0;go_wp2;replace hF:=hF.setA HC.i hni0 Ws k (.int .i64 (i : Int));replace AO2:=AO2.oth (fun hn => a1.2.2) k (.int .i64 (i : Int));replace AI2:=AI2.oth (fun hn => a2.2.2.1) k (.int .i64 (i : Int));replace HC:=HC.setI hk (i : Int);clear fz fc fl;generalize World.setCell _ _ _ = wq at *;replace HK:=HC.km;refine Qm ?_;refine Qt ?_;rw [hs.out] at HC;clear HK;obtain ⟨s0,s1,s2,s3,s4,s5,s6⟩:=Q7 HC.km.s;have sl:=HC.km.s.lt;go_upto_region 8 with (fail)
   have fz:=HC.f.frozen hni0 k;have fc:=HC.f.cell hk;have fl:=HC.f.lt hni0;go_upto_region 9 with (fail)
   replace hF:=hF.setA HC.f hni0 Lw k (.bool true);replace AO2:=AO2.oth (fun hn => AO2.apart2 HC.f (by decide) hn hni0) k (.bool true);replace AI2:=AI2.oth (fun hn => AI2.apart2 HC.f (by decide) hn hni0) k (.bool true);replace HC:=HC.setF hk (true);clear fz fc fl;generalize World.setCell _ _ _ = wq at *;clear s0 s1 s2 s3 s4 s5 s6 sl;obtain ⟨s0,s1,s2,s3,s4,s5,s6⟩:=Q7 HC.km.s;have sl:=HC.km.s.lt;go_upto_region 11 with (fail)
   obtain ⟨mS,hmS⟩:=Qf (Ya m i k);have hms:=Qdb (k:=k) hi hm1;rw [← hmS] at HC hR hms;clear hs hz1 hz2 hmS s0 s1 s2 s3 s4 s5 s6 sl
   go_loopw [11,12] (fun okv jv wr => ∃ (j : Nat) (om : Option Mt),j ≤ no ∧ jv = .int .i64 j ∧ okv = .bool om.isSome ∧ MS W0 wr bm bs (.slice Vo no co) (.slice Vi ni ci) (.slice Y no cY) (some ⟨bo,0,none⟩) (some ⟨bi,0,none⟩) (some ⟨bf,0,none⟩) no ni cO cI cX bo bi bf (om.getD mS) (Qi fx k true) ∧ FT W wr ∧ Qx wr 3 O2 no bo2 (fun x => .int .i64 (m.2 x)) ∧ Qx wr 3 I2 ni bi2 (fun x => .int .i64 (m.1 x)) ∧ Hid (om = none → Vc adj ni (Qi fx k true) (no - j) j mS = R) ∧ Hid (∀ m',om = some m' → R = some m')) (fun _ jv _ => no - (intOf jv).toNat)
   case atStart => exact ⟨i + 1,none,by omega,by go_num,rfl,HC,hF,AO2,AI2,Lib.hid fun _ => hR.out,Lib.hid fun _ h => by cases h⟩
   case round =>
    clear HC hF AO2 AI2 hR;obtain ⟨j,om,hj,rfl,rfl,M,hF,AO2,AI2,h1,h2⟩:=hrel;obtain ⟨wo,rfl⟩:=Qf wr
    cases om with
    | some m' =>
     have hRs:=h2.out m' rfl;subst hRs;clear h1 h2;obtain ⟨s0,s1,s2,s3,s4,s5,s6⟩:=Q7 M.km.s;have sl:=M.km.s.lt;by_cases cj : j < no
     ·have cj1 : decide ((j : Int) < (no : Int)) = true:=decide_eq_true Qa;go_wp2;go_ret;exact ⟨rfl,hF,_,_,_,_,_,_,M⟩
     ·have cj1 : decide ((j : Int) < (no : Int)) = false:=decide_eq_false Qa;go_wp2;go_ret
      exact ⟨rfl,hF,_,_,_,_,_,_,M⟩
    | none =>
     replace M : MS W0 wo bm bs (.slice Vo no co) (.slice Vi ni ci) (.slice Y no cY) (some ⟨bo,0,none⟩) (some ⟨bi,0,none⟩) (some ⟨bf,0,none⟩) no ni cO cI cX bo bi bf mS (Qi fx k true):=M;replace h1:=h1.out rfl;clear h2;obtain ⟨s0,s1,s2,s3,s4,s5,s6⟩:=Q7 M.km.s;have sl:=M.km.s.lt;by_cases cj : j < no;rotate_left
     ·have cj1 : decide ((j : Int) < (no : Int)) = false:=decide_eq_false Qa
      obtain rfl : R = none:=by
       rw [show no - j = 0 by omega] at h1;exact h1.symm
      clear h1;go_upto_region 15 with (fail)
      have z3:=M.km.s.frozen 3;have z4:=M.km.s.frozen 4;go_upto_region 16 with (fail)
      have HS1:=Ls M.km.s 3 (.slice O2 no cO2);have hbb:=Xt M.km.p M.km.s (by decide);have HP2:=Wn (Wn M.km.p hbb 3 (.slice O2 no cO2)) hbb 4 (.slice I2 ni cI2);have HS2:=Ls HS1 4 (.slice I2 ni cI2);have E2:=(M.e.setCell (p:=⟨bs,3,none⟩) hls (.slice O2 no cO2)).setCell (p:=⟨bs,4,none⟩) hls (.slice I2 ni cI2);have AO3:=(AO2.offM M.km.s (by decide) 3 (.slice O2 no cO2)).offM HS1 (by decide) 4 (.slice I2 ni cI2);have AI3:=(AI2.offM M.km.s (by decide) 3 (.slice O2 no cO2)).offM HS1 (by decide) 4 (.slice I2 ni cI2);have AF3:=(M.f.offM M.km.s (by decide) 3 (.slice O2 no cO2)).offM HS1 (by decide) 4 (.slice I2 ni cI2);replace hF:=(hF.setH M.km.s mt_m 3 (.slice O2 no cO2)).setH HS1 mt_m 4 (.slice I2 ni cI2)
      have M9 : MS W0 _ bm bs (.slice Vo no co) (.slice Vi ni ci) (.slice Y no cY) O2 I2 (some ⟨bf,0,none⟩) no ni cO2 cI2 cX bo2 bi2 bf m (Qi fx k true):=⟨E2,⟨HP2,HS2⟩,AO3,AI3,AF3,fun _ _ => a2.2.2.2,fun _ => a1.1,fun _ => a2.1,M.lf⟩;clear HS1 HS2 HP2 E2 AO3 AI3 AF3 AO2 AI2 z3 z4 hbb s0 s1 s2 s3 s4 s5 s6 sl M;generalize World.setCell (World.setCell _ _ _) _ _ = w9 at *;obtain ⟨s0,s1,s2,s3,s4,s5,s6⟩:=Q7 M9.km.s;have sl:=M9.km.s.lt;have fz:=M9.f.frozen hni0 k;have fc:=M9.f.cell hk;have fl:=M9.f.lt hni0;go_upto_region 17 with (fail)
      replace hF:=hF.setA M9.f hni0 Lw k (.bool false);have M10:=M9.setF hk false;rw [Qnl hf] at M10;clear fz fc fl M9 s0 s1 s2 s3 s4 s5 s6 sl;generalize World.setCell _ _ _ = w10 at *;go_wp2;go_ret;exact ⟨rfl,hF,_,_,_,_,_,_,M10⟩
     have cj1 : decide ((j : Int) < (no : Int)) = true:=decide_eq_true Qa;have o0:=M.o.cell cj;have ol:=M.o.lt hno0;rw [show no - j = (no - (j + 1)) + 1 by omega] at h1;unfold Vc at h1;by_cases c : mS.2 j < 0;rotate_left
     ·have c1 : decide (mS.2 j < 0) = false:=decide_eq_false c;rw [if_neg c] at h1;replace h1:=Lib.hid h1;go_upto_region 13 with (fail)
      refine Zo wo ?_;intro w9 h9;obtain ⟨hcbw9,hfbw9,hzbw9,hzw9⟩:=Zn wo h9;replace M:=M.ext h9;replace hF:=hF.ext h9;replace AO2:=AO2.ext h9;replace AI2:=AI2.ext h9;clear h9 o0 ol s0 s1 s2 s3 s4 s5 s6 sl;go_wp2;exact ⟨⟨j + 1,none,by omega,by go_num,rfl,M,hF,AO2,AI2,Lib.hid fun _ => h1.out,Lib.hid fun _ h => by cases h⟩,by simp [intOf];omega⟩
     have c1 : decide (mS.2 j < 0) = true:=decide_eq_true c;rw [if_pos c] at h1;replace h1:=Lib.hid h1;go_upto_region 13 with (fail)
     refine Q5 23 [20,21,22] (fun x => MS W0 x bm bs (.slice Vo no co) (.slice Vi ni ci) (.slice Y no cY) (some ⟨bo,0,none⟩) (some ⟨bi,0,none⟩) (some ⟨bf,0,none⟩) no ni cO cI cX bo bi bf mS (Qi fx k true) ∧ x.cell? ⟨bo,j,none⟩ = some (.int .i64 (mS.2 j)) ∧ bo < x.heap.size) mixed rfl ?_;intro vz hvz;replace hF:=hF.ext hvz;replace AO2:=AO2.ext hvz;replace AI2:=AI2.ext hvz;have HC:=And.intro (M.ext hvz) (And.intro ((hvz.cell (p:=⟨bo,j,none⟩) ol).trans o0) (Nat.lt_of_lt_of_le ol hvz.size));clear M o0 ol s0 s1 s2 s3 s4 s5 s6 sl;refine Qr (g:=14) [0,1,2,3,4,5,6,7,8] HC ?_
     constructor
     refine ⟨fun u hu => ?_,?_⟩
     ·obtain ⟨s0,s1,s2,s3,s4,s5,s6⟩:=Q7 hu.1.km.s;have sl:=hu.1.km.s.lt;have o0:=hu.2.1;have ol:=hu.2.2;exact Qj
     refine Vs (g:=13) 9 rfl (by kernel_rfl) (by kernel_rfl) (by kernel_rfl) HC ?_;simp only [Q8,Q9,Za];apply Exists.intro;refine ⟨fun u hu => ?_,?_⟩
     ·obtain ⟨s0,s1,s2,s3,s4,s5,s6⟩:=Q7 hu.1.km.s;have sl:=hu.1.km.s.lt;have o0:=hu.2.1;have ol:=hu.2.2;exact Qj
     refine Vs (g:=12) 10 rfl (by kernel_rfl) (by kernel_rfl) (by kernel_rfl) HC ?_;simp only [Q8,Q9,Za];apply Exists.intro;refine ⟨fun u hu => ?_,?_⟩
     ·obtain ⟨s0,s1,s2,s3,s4,s5,s6⟩:=Q7 hu.1.km.s;have sl:=hu.1.km.s.lt;have o0:=hu.2.1;have ol:=hu.2.2;exact Qj
     refine Vs (g:=11) 11 rfl (by kernel_rfl) (by kernel_rfl) (by kernel_rfl) HC ?_;simp only [Q8,Q9,Za];apply Exists.intro;refine ⟨fun u hu => ?_,?_⟩
     ·obtain ⟨s0,s1,s2,s3,s4,s5,s6⟩:=Q7 hu.1.km.s;have sl:=hu.1.km.s.lt;have o0:=hu.2.1;have ol:=hu.2.2;exact Qj
     refine Vs (g:=10) 12 rfl (by kernel_rfl) (by kernel_rfl) (by kernel_rfl) HC ?_;simp only [Q8,Q9,Za];apply Exists.intro;refine ⟨fun u hu => ?_,?_⟩
     ·obtain ⟨s0,s1,s2,s3,s4,s5,s6⟩:=Q7 hu.1.km.s;have sl:=hu.1.km.s.lt;have o0:=hu.2.1;have ol:=hu.2.2;exact Qj
     refine Vs (g:=9) 13 rfl (by kernel_rfl) (by kernel_rfl) (by kernel_rfl) HC ?_;simp only [Q8,Q9,Za];apply Exists.intro;refine ⟨fun u hu => ?_,?_⟩
     ·obtain ⟨s0,s1,s2,s3,s4,s5,s6⟩:=Q7 hu.1.km.s;have sl:=hu.1.km.s.lt;have o0:=hu.2.1;have ol:=hu.2.2;exact Qj
     refine Vs (g:=8) 14 rfl (by kernel_rfl) (by kernel_rfl) (by kernel_rfl) HC ?_;simp only [Q8,Q9,Za];apply Exists.intro;refine ⟨fun u hu => ?_,?_⟩
     ·obtain ⟨s0,s1,s2,s3,s4,s5,s6⟩:=Q7 hu.1.km.s;have sl:=hu.1.km.s.lt;have o0:=hu.2.1;have ol:=hu.2.2;exact Qj
     refine Vs (g:=7) 15 rfl (by kernel_rfl) (by kernel_rfl) (by kernel_rfl) HC ?_;simp only [Q8,Q9,Za];apply Exists.intro;refine ⟨fun u hu => ?_,?_⟩
     ·obtain ⟨s0,s1,s2,s3,s4,s5,s6⟩:=Q7 hu.1.km.s;have sl:=hu.1.km.s.lt;have o0:=hu.2.1;have ol:=hu.2.2;exact Qj
     refine Vs (g:=6) 16 rfl (by kernel_rfl) (by kernel_rfl) (by kernel_rfl) HC ?_;simp only [Q8,Q9,Za];apply Exists.intro;refine ⟨fun u hu => ?_,?_⟩
     ·obtain ⟨s0,s1,s2,s3,s4,s5,s6⟩:=Q7 hu.1.km.s;have sl:=hu.1.km.s.lt;have o0:=hu.2.1;have ol:=hu.2.2;exact Qj
     refine Vs (g:=5) 17 rfl (by kernel_rfl) (by kernel_rfl) (by kernel_rfl) HC ?_;simp only [Q8,Q9,Za];apply Exists.intro;refine ⟨fun u hu => ?_,?_⟩
     ·obtain ⟨s0,s1,s2,s3,s4,s5,s6⟩:=Q7 hu.1.km.s;have sl:=hu.1.km.s.lt;have o0:=hu.2.1;have ol:=hu.2.2;exact Qj
     refine Vs (g:=4) 18 rfl (by kernel_rfl) (by kernel_rfl) (by kernel_rfl) HC ?_;simp only [Q8,Q9,Za];apply Exists.intro;refine ⟨fun u hu => ?_,?_⟩
     ·obtain ⟨s0,s1,s2,s3,s4,s5,s6⟩:=Q7 hu.1.km.s;have sl:=hu.1.km.s.lt;have o0:=hu.2.1;have ol:=hu.2.2;exact Qj
     refine Qk 19 ?_;go_wp2;obtain ⟨bn,wb,hbq,hwb,HN,_,hx,gp⟩:=Qp HC.1.e 4 (Array.replicate ni (.bool false));have hnf : 0 < ni → bn ≠ bf:=fun h => by have:=HC.1.f.lt h;omega
     have hln : 0 < ni → W0.heap.size ≤ bn:=fun _ => gp
     have q1:=AO2.lt hno0;have q2:=AI2.lt hni0;rw [← hbq] at q1 q2;rw [← hbq,← hwb];have AN : Qx wb 4 (some ⟨bn,0,none⟩) ni bn (fun x => .bool ((fun _ => false : Bl) x)):=⟨fun _ => rfl,fun _ => ⟨_,HN,by simp,fun k hk => by simp [hk]⟩⟩;replace HC:=And.intro (HC.1.ext hx) (And.intro ((hx.cell (p:=⟨bo,j,none⟩) HC.2.2).trans HC.2.1) (Nat.lt_of_lt_of_le HC.2.2 hx.size));replace hF:=hF.ext hx;replace AO2:=AO2.ext hx;replace AI2:=AI2.ext hx;clear hbq hwb hx HN gp;refine Qe HC ?_;refine Qn 20 ?_;go_wp2_with (go_at_call 127;(with_reducible refine zc (Cj W0 bm bs (.slice Vo no co) (.slice Vi ni ci) (.slice Y no cY) (some ⟨bo,0,none⟩) (some ⟨bi,0,none⟩) (some ⟨bf,0,none⟩) no ni cO cI cX bo bi bf mS (Qi fx k true) hadj hY hms ni _ (fun _ => false) j _ _ bn cj (Od ni _) HC.1 AN hnf hln) ?_);rintro e w6 ⟨rfl,M6,F6,sn3,N6,hb3⟩)
     replace hF:=hF.fr F6 HC.1.o HC.1.i AN;refine Qm ?_;refine Jv (g:=1) [21] ?_
     constructor
     refine ⟨fun u hu => ?_,?_⟩
     ·exact Qj
     refine Qn 22 ?_;go_wp2;refine Qm ?_;refine Qt ?_;replace M6 : MS W0 w6 bm bs (.slice Vo no co) (.slice Vi ni ci) (.slice Y no cY) (some ⟨bo,0,none⟩) (some ⟨bi,0,none⟩) (some ⟨bf,0,none⟩) no ni cO cI cX bo bi bf ((Zh adj ni mS (Qi fx k true) j).1.getD mS) (Qi fx k true):=M6
     replace AO2:=AO2.fr F6 (fun _ hs => by
      rcases hs with ⟨_,e⟩ | ⟨_,e | e⟩
      ·exact a1.2.1 e
      ·exact a1.2.2 e
      ·omega)
     replace AI2:=AI2.fr F6 (fun _ hs => by
      rcases hs with ⟨_,e⟩ | ⟨_,e | e⟩
      ·exact a2.2.1 e
      ·exact a2.2.2.1 e
      ·omega)
     clear F6 N6 hb3 sn3 AN q1 q2 HC;go_wp2;refine ⟨⟨j + 1,(Zh adj ni mS (Qi fx k true) j).1,by omega,by go_num,rfl,M6,hF,AO2,AI2,Lib.hid fun e => ?_,Lib.hid fun m' e => ?_⟩,by simp [intOf];omega⟩
     ·have h:=h1.out;rw [e] at h;exact h
     ·have h:=h1.out;rw [e] at h;exact h.symm
end
end Go.Proofs.YtoflcheopfppoaaGreatDoor

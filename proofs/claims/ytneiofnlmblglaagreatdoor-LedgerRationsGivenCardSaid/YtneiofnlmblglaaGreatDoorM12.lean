/- Walks of the program's functions and plain facts, packed; proved: the lemmas below; no conditions but those that each states. -/
import Derived.Test.YtneiofnlmblglaaGreatDoorM10
import Derived.Lib.MinMax
import Derived.Test.YtneiofnlmblglaaGreatDoorM11
import Derived.Test.YtneiofnlmblglaaGreatDoorM4
import Derived.Test.YtneiofnlmblglaaGreatDoorM3
import Derived.Test.YtneiofnlmblglaaGreatDoorM2
import Derived.Test.YtneiofnlmblglaaGreatDoorM7
import Derived.Laws.StructEq
import Derived.Test.YtneiofnlmblglaaGreatDoorM9
import Derived.Test.YtneiofnlmblglaaGreatDoorM8
set_option maxRecDepth 100000
set_option maxHeartbeats 4000000
namespace Go.Proofs.YtneiofnlmblglaaGreatDoor
/-- A class of people: how many, and what each gets. -/
structure Cls where
 k : Int
 l : List Lt
def absV (x : Int) : Int := max x (-x)
def scBig (k : Int) (x : Lt) : Bool := decide (1099511627776 / absV x.n < absV k)
def scl (k : Int) (x : Lt) : Lt := ⟨x.g, x.n * k⟩
def scE (l : List Lt) (k : Int) : Int := if lotsEL l ≠ 0 then lotsEL l else if k = 0 then 0 else if l.any (scBig k) then 6 else 0
def scL (l : List Lt) (k : Int) : List Lt := if scE l k ≠ 0 then [] else if k = 0 then [] else l.map (scl k)
theorem lots_nz {f : Nat → Lt} {n : Nat} (h : lotsE f n = 0) : ∀ i, i < n → (f i).n ≠ 0 ∧ (f i).n ≤ 1099511627776 ∧ -1099511627776 ≤ (f i).n := by
 unfold lotsE at h
 by_cases h64 : 64 < n
 ·rw [if_pos h64] at h; exact absurd h (by decide)
 ·rw [if_neg h64] at h
  by_cases ho : lotsOk f n = true
  ·intro i hi
   have h1 := List.all_eq_true.1 ho i (by simpa using hi)
   unfold lotOk at h1
   simp only [Bool.and_eq_true, decide_eq_true_eq] at h1
   exact h1.2
  ·rw [if_neg ho] at h; exact absurd h (by decide)
theorem abs_pos {x : Int} (h : x ≠ 0) : 0 < absV x := by unfold absV; omega
theorem abs_le {x m : Int} (h1 : x ≤ m) (h2 : -m ≤ x) : absV x ≤ m := by unfold absV; omega
theorem scE_lots {l : List Lt} {k q : Int} (h : lotsEL l = q) (hq : q ≠ 0) : scE l k = q ∧ scL l k = [] := by
 have h1 : scE l k = q := by unfold scE; rw [h, if_pos hq]
 exact ⟨h1, by unfold scL; rw [h1, if_pos hq]⟩
theorem scE_zero {l : List Lt} (h : lotsEL l = 0) : scE l 0 = 0 ∧ scL l 0 = [] := by
 have h1 : scE l 0 = 0 := by unfold scE; simp [h]
 exact ⟨h1, by unfold scL; simp [h1]⟩
theorem scE_big {l : List Lt} {k : Int} {i : Nat} (h : lotsEL l = 0) (hk : k ≠ 0) (hi : i < l.length) (hb : scBig k (ofL l i) = true) : scE l k = 6 ∧ scL l k = [] := by
 have h0 : l.any (scBig k) = true := List.any_eq_true.2 ⟨ofL l i, by rw [ofL_get hi]; exact List.getElem_mem _, hb⟩
 have h1 : scE l k = 6 := by unfold scE; rw [if_neg (by simpa using h), if_neg hk, if_pos h0]
 exact ⟨h1, by unfold scL; simp [h1]⟩
theorem scE_fine {l : List Lt} {k : Int} (h : lotsEL l = 0) (hk : k ≠ 0) (hb : ∀ i, i < l.length → scBig k (ofL l i) = false) : scE l k = 0 ∧ scL l k = l.map (scl k) := by
 have h0 : l.any (scBig k) = false := List.any_eq_false.2 fun x hx => by
  obtain ⟨i, hi, rfl⟩ := List.getElem_of_mem hx
  have := hb i hi
  rw [ofL_get hi] at this
  simp [this]
 have h1 : scE l k = 0 := by unfold scE; rw [if_neg (by simpa using h), if_neg hk, h0]; rfl
 exact ⟨h1, by unfold scL; rw [if_neg (by simpa using h1), if_neg hk]⟩
theorem take_scl (l : List Lt) (k : Int) {i : Nat} (hi : i < l.length) : (l.take (i + 1)).map (scl k) = (l.take i).map (scl k) ++ [⟨(ofL l i).g, (ofL l i).n * k⟩] := by
 rw [List.take_add_one, List.map_append, List.getElem?_eq_getElem hi, ofL_get hi]; rfl
/-- What is not too great is a number of the machine. -/
theorem scl_bd {k : Int} {x : Lt} (h0 : x.n ≠ 0) (h : scBig k x = false) : absV k ≤ 1099511627776 / absV x.n ∧ -1099511627776 ≤ x.n * k ∧ x.n * k ≤ 1099511627776 := by
 have h1 : absV k ≤ 1099511627776 / absV x.n := by unfold scBig at h; simpa using h
 refine ⟨h1, ?_⟩
 have ha := abs_pos h0
 have h2 : absV k * absV x.n ≤ 1099511627776 := Int.le_trans (Int.mul_le_mul_of_nonneg_right h1 (Int.le_of_lt ha)) (Int.ediv_mul_le _ (by omega))
 have h3 : absV k * absV x.n = absV (x.n * k) := by
  unfold absV
  rcases Int.le_total 0 k with hk | hk <;> rcases Int.le_total 0 x.n with hx | hx
  ·have := Int.mul_nonneg hx hk
   rw [Int.max_eq_left (by omega), Int.max_eq_left (by omega), Int.max_eq_left (by omega), Int.mul_comm]
  ·have := Int.mul_nonneg (show 0 ≤ -x.n by omega) hk
   rw [Int.neg_mul] at this
   rw [Int.max_eq_left (by omega), Int.max_eq_right (by omega), Int.max_eq_right (by omega), Int.mul_neg, Int.mul_comm]
  ·have := Int.mul_nonneg hx (show 0 ≤ -k by omega)
   rw [Int.mul_neg] at this
   rw [Int.max_eq_right (by omega), Int.max_eq_left (by omega), Int.max_eq_right (by omega), Int.neg_mul, Int.mul_comm]
  ·have := Int.mul_nonneg (show 0 ≤ -x.n by omega) (show 0 ≤ -k by omega)
   rw [Int.neg_mul_neg] at this
   rw [Int.max_eq_right (by omega), Int.max_eq_right (by omega), Int.max_eq_left (by omega), Int.neg_mul_neg, Int.mul_comm]
 rw [h3] at h2
 unfold absV at h2
 omega
/-- The error of a class. -/
def cl1E (x : Cls) : Int := if x.k < 0 ∨ 1099511627776 < x.k then 8 else if lotsEL x.l ≠ 0 then lotsEL x.l else if x.l.any (fun y => decide (y.n < 0)) then 8 else 0
def clsE : List Cls → Int
 | [] => 0
 | x :: r => if cl1E x ≠ 0 then cl1E x else clsE r
def ratnS (m : Int) : List Lt → List Cls → List Lt × Int
 | s, [] => (s, 0)
 | s, x :: r => if scE x.l (x.k * m) ≠ 0 then ([], scE x.l (x.k * m)) else if combEL 1 s (scL x.l (x.k * m)) ≠ 0 then ([], combEL 1 s (scL x.l (x.k * m))) else ratnS m (combLL 1 s (scL x.l (x.k * m))) r
def ratnV (l : List Cls) (m : Int) : List Lt × Int := if 64 < l.length then ([], 3) else if clsE l ≠ 0 then ([], clsE l) else if m < 0 ∨ 1200 < m then ([], 8) else ratnS m [] l
def zCls : Cls := ⟨0, []⟩
theorem drop_cls (l : List Cls) {i : Nat} (hi : i < l.length) : l.drop i = l.getD i zCls :: l.drop (i + 1) := by
 rw [List.drop_eq_getElem_cons hi]; simp [List.getD_eq_getElem?_getD, hi]
theorem cls_ok {l : List Cls} (h : clsE l = 0) : ∀ i, i < l.length → cl1E (l.getD i zCls) = 0 := by
 induction l with
 | nil => intro i hi; simp at hi
 | cons x r ih =>
  intro i hi
  unfold clsE at h
  by_cases h1 : cl1E x ≠ 0
  ·rw [if_pos h1] at h; exact absurd h h1
  ·rw [if_neg h1] at h
   cases i with
   | zero => simpa using h1
   | succ i => simpa using ih h i (by simpa using hi)
theorem cl1_ok {x : Cls} (h : cl1E x = 0) : (0 ≤ x.k ∧ x.k ≤ 1099511627776) ∧ lotsEL x.l = 0 := by
 unfold cl1E at h
 split at h
 ·exact absurd h (by decide)
 ·split at h
  ·rename_i h2; exact absurd h h2
  ·rename_i h1 h2; exact ⟨by omega, Decidable.not_not.1 h2⟩
theorem clsmul_bd {k m : Int} (h0 : 0 ≤ k) (h1 : k ≤ 1099511627776) (h2 : 0 ≤ m) (h3 : m ≤ 1200) : 0 ≤ k * m ∧ k * m ≤ 1319413953331200 := by
 refine ⟨Int.mul_nonneg h0 h2, ?_⟩
 have := Int.mul_le_mul h1 h3 h2 (by decide)
 omega
theorem cl_cnt {x : Cls} (h : x.k < 0 ∨ 1099511627776 < x.k) : cl1E x = 8 := by unfold cl1E; rw [if_pos h]
theorem cl_lots {x : Cls} {q : Int} (h : ¬ (x.k < 0 ∨ 1099511627776 < x.k)) (hq : lotsEL x.l = q) (h0 : q ≠ 0) : cl1E x = q := by unfold cl1E; rw [if_neg h, hq, if_pos h0]
theorem cl_neg {x : Cls} {j : Nat} (h : ¬ (x.k < 0 ∨ 1099511627776 < x.k)) (hq : lotsEL x.l = 0) (hj : j < x.l.length) (hn : (ofL x.l j).n < 0) : cl1E x = 8 := by
 unfold cl1E
 rw [if_neg h, if_neg (by simpa using hq), if_pos]
 exact List.any_eq_true.2 ⟨ofL x.l j, by rw [ofL_get hj]; exact List.getElem_mem _, by simpa using hn⟩
theorem cl_fine {x : Cls} (h : ¬ (x.k < 0 ∨ 1099511627776 < x.k)) (hq : lotsEL x.l = 0) (hj : ∀ j, j < x.l.length → 0 ≤ (ofL x.l j).n) : cl1E x = 0 := by
 unfold cl1E
 rw [if_neg h, if_neg (by simpa using hq), if_neg]
 intro ha
 obtain ⟨y, hy, hn⟩ := List.any_eq_true.1 ha
 obtain ⟨i, hi, rfl⟩ := List.getElem_of_mem hy
 have := hj i hi
 rw [ofL_get hi] at this
 have hn' : x.l[i].n < 0 := by simpa using hn
 omega
theorem clsE_step {l : List Cls} {i : Nat} (hi : i < l.length) {q : Int} (h : cl1E (l.getD i zCls) = q) : clsE (l.drop i) = if q ≠ 0 then q else clsE (l.drop (i + 1)) := by
 rw [drop_cls l hi]
 show (if _ then _ else _) = _
 rw [h]
theorem ratn_many {l : List Cls} {m : Int} (h : 64 < l.length) : ratnV l m = ([], 3) := by unfold ratnV; rw [if_pos h]
theorem ratn_err {l : List Cls} {m q : Int} (h : ¬ 64 < l.length) (hq : clsE l = q) (h0 : q ≠ 0) : ratnV l m = ([], q) := by unfold ratnV; rw [if_neg h, hq, if_pos h0]
theorem ratn_mon {l : List Cls} {m : Int} (h : ¬ 64 < l.length) (hq : clsE l = 0) (h0 : m < 0 ∨ 1200 < m) : ratnV l m = ([], 8) := by unfold ratnV; rw [if_neg h, if_neg (by simpa using hq), if_pos h0]
theorem ratn_go {l : List Cls} {m : Int} (h : ¬ 64 < l.length) (hq : clsE l = 0) (h0 : ¬ (m < 0 ∨ 1200 < m)) : ratnV l m = ratnS m [] l := by unfold ratnV; rw [if_neg h, if_neg (by simpa using hq), if_neg h0]
theorem ratn_step {l : List Cls} {m : Int} {s : List Lt} {i : Nat} (hi : i < l.length) : ratnS m s (l.drop i) = if scE (l.getD i zCls).l ((l.getD i zCls).k * m) ≠ 0 then ([], scE (l.getD i zCls).l ((l.getD i zCls).k * m)) else if combEL 1 s (scL (l.getD i zCls).l ((l.getD i zCls).k * m)) ≠ 0 then ([], combEL 1 s (scL (l.getD i zCls).l ((l.getD i zCls).k * m))) else ratnS m (combLL 1 s (scL (l.getD i zCls).l ((l.getD i zCls).k * m))) (l.drop (i + 1)) := by
 rw [drop_cls l hi]; rfl
end Go.Proofs.YtneiofnlmblglaaGreatDoor
namespace Go.Proofs.YtneiofnlmblglaaGreatDoor
open Go Go.RowKit Go.Shelf
attribute [local go_sem] gv_yes
theorem big_all {k : Int} {x : Lt} (h : 1099511627776 < absV k) : scBig k x = true := by
 have := Int.ediv_le_self (a := 1099511627776) (absV x.n) (by decide)
 unfold scBig
 exact decide_eq_true (by omega)
theorem scale_any (v : Value) (l : List Lt) (k : Int) (hk1 : -1319413953331200 ≤ k) (hk2 : k ≤ 1319413953331200) (w : World) (hL : LotsAt w v l) :
  Calls Tryz.prog 53 #[v, .int .i64 k] w fun e w' => ∃ F n c, e = .returned (.tuple #[.slice F n c, .int .i64 (scE l k)]) ∧ Ext w w' ∧ LotsAt w' (.slice F n c) (scL l k) := by
 obtain ⟨i0, hi, hz0, hz1, hz2⟩ := info_parts info_lotQ
 obtain ⟨T, cap, rfl, hT, hcap, hmax, _⟩ := hL
 have hmx : l.length ≤ 9223372036854775807 := Nat.le_trans hcap (Nat.le_trans hmax (by decide))
 have N1 := fun w h => checkLots_any T l.length cap (ofL l) w h hcap hmx
 obtain ⟨q, hq⟩ := zgE (lotsE (ofL l) l.length)
 simp only [← hq] at N1
 replace hq := Lib.hid hq
 clear hmax hcap hmx
 go_enter Tryz.func53, Tryz.ntmps53
 by_cases e0 : q = 0
 rotate_left
 ·have g0 : (q == 0) = false := beq_eq_false_iff_ne.2 e0
  have g0n : (q != 0) = true := by rw [bne, g0]; rfl
  have HS := Lib.hid (scE_lots (k := k) hq.out.symm e0)
  clear e0 hq hk1 hk2
  go_wp2_with (go_at_call 52; (with_reducible refine Calls.mono (N1 _ hT) ?_); rintro e w1 ⟨rfl, h1⟩)
  go_ret2
  exact ⟨none, 0, 0, by rw [HS.out.1]; rfl, h1, by rw [HS.out.2]; exact lotsAt_nil _⟩
 subst e0
 have bf := Lib.hid (lots_nz hq.out.symm)
 obtain ⟨n64, _⟩ := lots_bd hq.out.symm
 by_cases k0 : k = 0
 ·subst k0
  have HS := Lib.hid (scE_zero (l := l) hq.out.symm)
  clear hq bf hk1 hk2
  go_wp2_with (go_at_call 52; (with_reducible refine Calls.mono (N1 _ hT) ?_); rintro e w1 ⟨rfl, h1⟩)
  go_ret2
  exact ⟨none, 0, 0, by rw [HS.out.1]; rfl, h1, by rw [HS.out.2]; exact lotsAt_nil _⟩
 have gk : (k == 0) = false := beq_eq_false_iff_ne.2 k0
 go_upto_region 8 with (go_at_call 52; (with_reducible refine Calls.mono (N1 _ hT) ?_); rintro e w1 ⟨rfl, h1⟩)
 clear N1
 have hall0 : Hid (∀ j, j < 0 → scBig k (ofL l j) = false) := fun j h => absurd h (by omega)
 go_loopw [7, 21] (fun ov iv wr => ∃ i : Nat, i ≤ l.length ∧ iv = .int .i64 i ∧ Ext w1 wr ∧ wr.ownsRow w1.heap.size 68 2 ov i (((l.take i).map (scl k)).flatMap lcells) ∧ Hid (∀ j, j < i → scBig k (ofL l j) = false)) (fun _ iv _ => l.length - (intOf iv).toNat)
 case atStart => exact ⟨0, Nat.zero_le _, rfl, Ext.refl _, World.ownsRow_nil _ _ _ _, hall0⟩
 case round =>
  clear hall0
  obtain ⟨i, hi1, rfl, hE, hO, hall⟩ := hrel
  obtain ⟨wo, rfl⟩ := zgE wr
  by_cases hlt : i < l.length
  rotate_left
  ·obtain rfl : i = l.length := by omega
   have HS := Lib.hid (scE_fine hq.out.symm k0 hall.out)
   clear hq bf hall
   obtain ⟨F5, m5, rfl⟩ := own_sl hO
   have hL5 := lotsAt_own hO
   have hl5 : ((l.take l.length).map (scl k)).length = l.length := by simp
   go_wp2
   go_ret2
   exact ⟨F5, _, m5, by rw [HS.out.1]; rfl, h1.trans hE, by rw [HS.out.2]; simpa using hL5⟩
  obtain ⟨b, off, rfl, hb, hc⟩ := ((hT.ext h1).ext hE) (by omega)
  have c0 : wo.cell? ⟨b, off + i * 2, none⟩ = some (.string (ofL l i).g) := by simpa using hc i 0 _ hlt rfl
  have c1 : wo.cell? ⟨b, off + i * 2 + 1, none⟩ = some (.int .i64 (ofL l i).n) := hc i 1 _ hlt rfl
  clear hc
  have ht := Lib.hid (take_scl l k hlt)
  obtain ⟨xz, xu, xd⟩ := bf.out i hlt
  have hbd := Lib.hid (fun h => scl_bd (k := k) (x := ofL l i) xz h)
  have hbad := Lib.hid (fun h => scE_big hq.out.symm k0 hlt h)
  obtain ⟨X, hX0⟩ := zgE (ofL l i)
  rw [← hX0] at c0 c1 ht xz xu xd hbd hbad
  have hX := Lib.hid hX0
  clear hX0
  obtain ⟨s, xn⟩ := X
  simp only at c0 c1 xz xu xd
  have v0 : IntKind.i64.wrap (-xn) = -xn := wrap64 (by omega) (by omega)
  have a0 := abs_pos xz
  have aU := abs_le xu xd
  have hB0 : scBig k ⟨s, xn⟩ = decide (1099511627776 / absV xn < absV k) := rfl
  have hbk := Lib.hid hB0
  clear hB0 xz xu xd
  have vm : max xn (-xn) = absV xn := rfl
  obtain ⟨a, ha⟩ := zgE (absV xn)
  rw [← ha] at vm a0 aU hbk
  clear ha
  have z1 : (a == 0) = false := beq_eq_false_iff_ne.2 (by omega)
  have z2 : a ≠ 0 := by omega
  have m0 : 0 ≤ 1099511627776 / a := Int.ediv_nonneg (by decide) (by omega)
  have m1 : 1099511627776 / a ≤ 1099511627776 := Int.ediv_le_self _ (by decide)
  have vq : IntKind.i64.wrap ((1099511627776 : Int).tdiv a) = 1099511627776 / a := by
   rw [Int.tdiv_eq_ediv_of_nonneg (by decide)]
   exact wrap64 (by omega) (by omega)
  generalize 1099511627776 / a = M at *
  clear a0 aU
  go_upto_region 10 with (fail)
  obtain ⟨v3, hv⟩ := zgE (wo.alloc (.cells #[.string s, .int .i64 xn] 68))
  rw [← hv]
  have h3 : Ext wo v3 := by rw [hv]; exact (Ext.refl _).alloc _
  have H9 : Held v3 wo.heap.size 68 #[.string s, .int .i64 xn] := by rw [hv]; exact Held.new _ _ _
  clear hv
  generalize wo.heap.size = b9 at *
  replace hE := hE.trans h3
  replace hO := owns_ext hO h3
  clear h3 c0 c1 hb
  obtain ⟨x0, x1⟩ := H9.c2
  have xl := H9.lt
  by_cases g : M < k
  ·have g1 : decide (M < k) = true := decide_eq_true g
   have HS := Lib.hid (hbad.out (by rw [hbk.out]; exact decide_eq_true (by unfold absV; omega)))
   clear hbad hbd hbk hq bf hall ht hX
   go_wp2
   go_ret2
   exact ⟨none, 0, 0, by rw [HS.out.1]; rfl, h1.trans hE, by rw [HS.out.2]; exact lotsAt_nil _⟩
  have g1 : decide (M < k) = false := decide_eq_false g
  have vM : IntKind.i64.wrap (-M) = -M := wrap64 (by omega) (by omega)
  by_cases g' : k < -M
  ·have g2 : decide (k < -M) = true := decide_eq_true g'
   have HS := Lib.hid (hbad.out (by rw [hbk.out]; exact decide_eq_true (by unfold absV; omega)))
   clear hbad hbd hbk hq bf hall ht hX
   go_wp2
   go_ret2
   exact ⟨none, 0, 0, by rw [HS.out.1]; rfl, h1.trans hE, by rw [HS.out.2]; exact lotsAt_nil _⟩
  have g2 : decide (k < -M) = false := decide_eq_false g'
  have nb : scBig k ⟨s, xn⟩ = false := by rw [hbk.out]; exact decide_eq_false (by unfold absV; omega)
  obtain ⟨_, p1, p2⟩ := hbd.out nb
  have vp : IntKind.i64.wrap (xn * k) = xn * k := by exact wrap64 (by simpa using Int.le_trans (by decide) p1) (by simpa using Int.le_trans p2 (by decide))
  have hall2 : Hid (∀ j, j < i + 1 → scBig k (ofL l j) = false) := fun j hj => by
   by_cases e : j = i
   ·subst e; rw [← hX.out]; exact nb
   ·exact hall.out j (by omega)
  clear nb p1 p2 hbad hbd hbk bf hall hX
  obtain ⟨F5, m5, rfl⟩ := own_sl hO
  go_upto_region 15 with (at_builtin; refine wpList_append_own_at _ rfl _ _ 28 rfl w1.heap.size 68 i0 (.agg #[.string ⟨#[]⟩, .int .i64 0]) 2 24 Tryz.underlying28 hi hz0 hz1 hz2 rfl (by decide) _ _ _ rfl (hO.alloc _) ⟨v3.heap.size, 0, none⟩ 1 1 [.string s, .int .i64 (xn * k)] rfl rfl (cells_newL _ _ _) (cells_lotQ _ _) (by unfold maxLen; omega) (by omega) (by have := hE.size; simp; omega) ?_; intro o' w5 hown hgrow _ _)
  have E5 : Ext w1 w5 := (hE.alloc _).grown hgrow (fun q hq => (hO.lt q hq).1)
  rw [show (((l.take i).map (scl k)).flatMap lcells ++ [Value.string s, .int .i64 (xn * k)]) = ((l.take (i + 1)).map (scl k)).flatMap lcells by rw [ht.out]; exact lc_snoc _ _ _] at hown
  clear hgrow hO hE ht
  go_wp2
  exact ⟨⟨i + 1, by omega, by go_num, E5, hown, hall2⟩, by simp [intOf]; omega⟩
theorem scaleR_any (v : Value) (l : List Lt) (k : Int) (hk1 : -1319413953331200 ≤ k) (hk2 : k ≤ 1319413953331200) (w : World) (hL : LotsAt w v l) :
  Calls Tryz.prog 56 #[v, .int .i64 k] w fun e w' => ∃ F n c, e = .returned (.tuple #[.slice F n c, .int .i64 (scE l k)]) ∧ Ext w w' ∧ LotsAt w' (.slice F n c) (scL l k) := by
 obtain ⟨i0, hi, hz0, hz1, hz2⟩ := info_parts info_lotQ
 obtain ⟨T, cap, rfl, hT, hcap, hmax, _⟩ := hL
 have hmx : l.length ≤ 9223372036854775807 := Nat.le_trans hcap (Nat.le_trans hmax (by decide))
 have N1 := fun w h => checkLotsR_any T l.length cap (ofL l) w h hcap hmx
 obtain ⟨q, hq⟩ := zgE (lotsE (ofL l) l.length)
 simp only [← hq] at N1
 replace hq := Lib.hid hq
 clear hmax hcap hmx
 go_enter Tryz.func56, Tryz.ntmps56
 by_cases e0 : q = 0
 rotate_left
 ·have g0 : (q == 0) = false := beq_eq_false_iff_ne.2 e0
  have g0n : (q != 0) = true := by rw [bne, g0]; rfl
  have HS := Lib.hid (scE_lots (k := k) hq.out.symm e0)
  clear e0 hq hk1 hk2
  go_wp2_with (go_at_call 55; (with_reducible refine Calls.mono (N1 _ hT) ?_); rintro e w1 ⟨rfl, h1⟩)
  go_ret2
  exact ⟨none, 0, 0, by rw [HS.out.1]; rfl, h1, by rw [HS.out.2]; exact lotsAt_nil _⟩
 subst e0
 have bf := Lib.hid (lots_nz hq.out.symm)
 obtain ⟨n64, _⟩ := lots_bd hq.out.symm
 by_cases k0 : k = 0
 ·subst k0
  have HS := Lib.hid (scE_zero (l := l) hq.out.symm)
  clear hq bf hk1 hk2
  go_upto_region 6 with (go_at_call 55; (with_reducible refine Calls.mono (N1 _ hT) ?_); rintro e w1 ⟨rfl, h1⟩)
  go_loopw [7, 8] (fun ov iv wr => ov = .slice none 0 0 ∧ iv = .int .i64 0 ∧ Ext w1 wr) (fun _ _ _ => 0)
  case atStart => exact ⟨rfl, rfl, Ext.refl _⟩
  case round =>
   obtain ⟨rfl, rfl, hE⟩ := hrel
   by_cases hlt : 0 < l.length
   ·go_wp2
    go_ret2
    exact ⟨none, 0, 0, by rw [HS.out.1]; rfl, h1.trans hE, by rw [HS.out.2]; exact lotsAt_nil _⟩
   ·go_wp2
    go_ret2
    exact ⟨none, 0, 0, by rw [HS.out.1]; rfl, h1.trans hE, by rw [HS.out.2]; exact lotsAt_nil _⟩
 have gk : (k == 0) = false := beq_eq_false_iff_ne.2 k0
 have gkn : (k != 0) = true := by rw [bne, gk]; rfl
 go_upto_region 6 with (go_at_call 55; (with_reducible refine Calls.mono (N1 _ hT) ?_); rintro e w1 ⟨rfl, h1⟩)
 clear N1
 have hall0 : Hid (∀ j, j < 0 → scBig k (ofL l j) = false) := fun j h => absurd h (by omega)
 go_loopw [7, 8] (fun ov iv wr => ∃ i : Nat, i ≤ l.length ∧ iv = .int .i64 i ∧ Ext w1 wr ∧ wr.ownsRow w1.heap.size 68 2 ov i (((l.take i).map (scl k)).flatMap lcells) ∧ Hid (∀ j, j < i → scBig k (ofL l j) = false)) (fun _ iv _ => l.length - (intOf iv).toNat)
 case atStart => exact ⟨0, Nat.zero_le _, rfl, Ext.refl _, World.ownsRow_nil _ _ _ _, hall0⟩
 case round =>
  clear hall0
  obtain ⟨i, hi1, rfl, hE, hO, hall⟩ := hrel
  obtain ⟨wo, rfl⟩ := zgE wr
  by_cases hlt : i < l.length
  rotate_left
  ·obtain rfl : i = l.length := by omega
   have HS := Lib.hid (scE_fine hq.out.symm k0 hall.out)
   clear hq bf hall
   obtain ⟨F5, m5, rfl⟩ := own_sl hO
   have hL5 := lotsAt_own hO
   have hl5 : ((l.take l.length).map (scl k)).length = l.length := by simp
   go_wp2
   go_ret2
   exact ⟨F5, _, m5, by rw [HS.out.1]; rfl, h1.trans hE, by rw [HS.out.2]; simpa using hL5⟩
  obtain ⟨b, off, rfl, hb, hc⟩ := ((hT.ext h1).ext hE) (by omega)
  have c0 : wo.cell? ⟨b, off + i * 2, none⟩ = some (.string (ofL l i).g) := by simpa using hc i 0 _ hlt rfl
  have c1 : wo.cell? ⟨b, off + i * 2 + 1, none⟩ = some (.int .i64 (ofL l i).n) := hc i 1 _ hlt rfl
  clear hc
  have ht := Lib.hid (take_scl l k hlt)
  obtain ⟨xz, xu, xd⟩ := bf.out i hlt
  have hbd := Lib.hid (fun h => scl_bd (k := k) (x := ofL l i) xz h)
  have hbad := Lib.hid (fun h => scE_big hq.out.symm k0 hlt h)
  obtain ⟨X, hX0⟩ := zgE (ofL l i)
  rw [← hX0] at c0 c1 ht xz xu xd hbd hbad
  have hX := Lib.hid hX0
  clear hX0
  obtain ⟨s, xn⟩ := X
  simp only at c0 c1 xz xu xd
  have v0 : IntKind.i64.wrap (-xn) = -xn := wrap64 (by omega) (by omega)
  have a0 := abs_pos xz
  have aU := abs_le xu xd
  have hB0 : scBig k ⟨s, xn⟩ = decide (1099511627776 / absV xn < absV k) := rfl
  have hbk := Lib.hid hB0
  clear hB0 xz xu xd
  have vm : max xn (-xn) = absV xn := rfl
  obtain ⟨a, ha⟩ := zgE (absV xn)
  rw [← ha] at vm a0 aU hbk
  clear ha
  have z1 : (a == 0) = false := beq_eq_false_iff_ne.2 (by omega)
  have z2 : a ≠ 0 := by omega
  have m0 : 0 ≤ 1099511627776 / a := Int.ediv_nonneg (by decide) (by omega)
  have m1 : 1099511627776 / a ≤ 1099511627776 := Int.ediv_le_self _ (by decide)
  have vq : IntKind.i64.wrap ((1099511627776 : Int).tdiv a) = 1099511627776 / a := by
   rw [Int.tdiv_eq_ediv_of_nonneg (by decide)]
   exact wrap64 (by omega) (by omega)
  generalize 1099511627776 / a = M at *
  clear a0 aU
  by_cases f1 : 1099511627776 < k
  ·have y1 : decide (1099511627776 < k) = true := decide_eq_true f1
   have HS := Lib.hid (hbad.out (big_all (by unfold absV; omega)))
   clear hbad hbd hbk hq bf hall ht hX
   go_wp2
   go_ret2
   exact ⟨none, 0, 0, by rw [HS.out.1]; rfl, h1.trans hE, by rw [HS.out.2]; exact lotsAt_nil _⟩
  have y1 : decide (1099511627776 < k) = false := decide_eq_false f1
  by_cases f2 : k < -1099511627776
  ·have y2 : decide (k < -1099511627776) = true := decide_eq_true f2
   have HS := Lib.hid (hbad.out (big_all (by unfold absV; omega)))
   clear hbad hbd hbk hq bf hall ht hX
   go_wp2
   go_ret2
   exact ⟨none, 0, 0, by rw [HS.out.1]; rfl, h1.trans hE, by rw [HS.out.2]; exact lotsAt_nil _⟩
  have y2 : decide (k < -1099511627776) = false := decide_eq_false f2
  go_upto_region 10 with (fail)
  refine wp_region_xw wo mixed (by kernel_rfl) (by repeat (first | exact Ext.refl _ | (refine Ext.alloc ?_ _) | (refine Ext.trans ?_ (by assumption)))) ?_
  intro hne hrx hry
  try simp only []
  try simp only [List.append_eq, List.cons_append, List.nil_append]
  skip
  repeat (first
   | go_big_quiet_skip
   | (go_big_quiet_want; go_big_quiet_op; go_big_quiet_on))
  clear hne hry hrx
  refine wpQuiet_nil ?_
  intro w3 h3
  obtain ⟨hcw3, hfw3, hzw3⟩ := Ext.rules h3
  try simp only [World.size_alloc] at hzw3
  obtain ⟨hcbw3, hfbw3, hzbw3⟩ := Ext.rules (show Ext wo w3 from (by repeat (first | exact Ext.refl _ | (refine Ext.alloc ?_ _) | (refine Ext.trans ?_ (by assumption)))))
  clear hcw3 hfw3
  replace hE := hE.trans h3
  replace hO := owns_ext hO h3
  have e0 := (h3.cell (p := ⟨b, off + i * 2, none⟩) hb).trans c0
  have e1 := (h3.cell (p := ⟨b, off + i * 2 + 1, none⟩) hb).trans c1
  have eb := Nat.lt_of_lt_of_le hb h3.size
  clear h3 c0 c1 hb
  have vk : IntKind.i64.wrap (-k) = -k := wrap64 (by omega) (by omega)
  by_cases g : M < max k (-k)
  ·have g1 : decide (M < max k (-k)) = true := decide_eq_true g
   have HS := Lib.hid (hbad.out (by rw [hbk.out]; exact decide_eq_true (by exact g)))
   clear hbad hbd hbk hq bf hall ht hX
   go_wp2
   go_ret2
   exact ⟨none, 0, 0, by rw [HS.out.1]; rfl, h1.trans hE, by rw [HS.out.2]; exact lotsAt_nil _⟩
  have g1 : decide (M < max k (-k)) = false := decide_eq_false g
  have nb : scBig k ⟨s, xn⟩ = false := by rw [hbk.out]; exact decide_eq_false (by unfold absV; omega)
  obtain ⟨_, p1, p2⟩ := hbd.out nb
  have vp : IntKind.i64.wrap (k * xn) = xn * k := by rw [Int.mul_comm]; exact wrap64 (by simpa using Int.le_trans (by decide) p1) (by simpa using Int.le_trans p2 (by decide))
  have hall2 : Hid (∀ j, j < i + 1 → scBig k (ofL l j) = false) := fun j hj => by
   by_cases e : j = i
   ·subst e; rw [← hX.out]; exact nb
   ·exact hall.out j (by omega)
  clear nb p1 p2 hbad hbd hbk bf hall hX
  obtain ⟨F5, m5, rfl⟩ := own_sl hO
  go_upto_region 13 with (fail)
  have c0 := e0
  have c1 := e1
  have hb := eb
  clear e0 e1 eb
  refine wp_region_z 17 [15, 16] (fun x => Ext w3 x) mixed rfl ?_
  intro va hva
  have HC := hva
  replace hE := hE.trans hva
  replace hO := owns_ext hO hva
  refine z_stills (g := 3) [0, 1, 2, 3, 4, 5, 6, 7, 8, 9, 10, 11, 12, 13] [_, _, _, _, _, _, _, _, _, _, _, _, _, _] ⟨rfl, rfl, rfl, rfl, rfl, rfl, rfl, rfl, rfl, rfl, rfl, rfl, rfl, rfl, trivial⟩ (by kernel_rfl) (by kernel_rfl) HC ?_
  simp only [zgA, zgB, zgC]
  apply Exists.intro
  refine ⟨fun u hu => ?_, ?_⟩
  ·have r0 := (hu.cell (p := ⟨b, off + i * 2, none⟩) hb).trans c0
   have r1 := (hu.cell (p := ⟨b, off + i * 2 + 1, none⟩) hb).trans c1
   have rl := Nat.lt_of_lt_of_le hb hu.size
   repeat (first | go_big_quiet_skip | (go_big_quiet_want; go_big_quiet_op; go_big_quiet_on))
   refine wpQuiet_nil ?_
   rfl
  refine z_one 14 rfl (by kernel_rfl) ?_
  simp only [zgA, zgB, zgC]
  go_wp2
  replace HC := HC.alloc (.cells #[.string s, .int .i64 (xn * k)] 68)
  refine onQ_in HC ?_
  refine z_end 15 rfl (by kernel_rfl) ?_
  simp only [zgA, zgB, zgC]
  go_wp2_with (at_builtin; refine wpList_append_own_at _ rfl _ _ 28 rfl w1.heap.size 68 i0 (.agg #[.string ⟨#[]⟩, .int .i64 0]) 2 24 Tryz.underlying28 hi hz0 hz1 hz2 rfl (by decide) _ _ _ rfl (hO.alloc _) ⟨va.heap.size, 0, none⟩ 1 1 [.string s, .int .i64 (xn * k)] rfl rfl (cells_newL _ _ _) (cells_lotQ _ _) (by unfold maxLen; omega) (by omega) (by have := hE.size; simp; omega) ?_; intro o' w5 hown hgrow _ _)
  refine onQ_last ?_
  refine z_end 16 rfl (by kernel_rfl) ?_
  simp only [zgA, zgB, zgC]
  go_wp2
  refine onQ_last ?_
  refine z_done (by kernel_rfl) ?_
  skip
  have E5 : Ext w1 w5 := (hE.alloc _).grown hgrow (fun q hq => (hO.lt q hq).1)
  rw [show (((l.take i).map (scl k)).flatMap lcells ++ [Value.string s, .int .i64 (xn * k)]) = ((l.take (i + 1)).map (scl k)).flatMap lcells by rw [ht.out]; exact lc_snoc _ _ _] at hown
  clear hgrow hO hE ht
  go_wp2
  exact ⟨⟨i + 1, by omega, by go_num, E5, hown, hall2⟩, by simp [intOf]; omega⟩
end Go.Proofs.YtneiofnlmblglaaGreatDoor
namespace Go.Proofs.YtneiofnlmblglaaGreatDoor
open Go Go.RowKit Go.Shelf
attribute [local go_sem] gv_yes
end Go.Proofs.YtneiofnlmblglaaGreatDoor
namespace Go.Proofs.YtneiofnlmblglaaGreatDoor
open Go Go.RowKit Go.Shelf
attribute [local go_sem] gv_yes
def Rt.neg (r : Rt) : Rt := ⟨-r.n, r.d⟩
section
variable {W : World} {b : Nat} {t : TypeId} {v0 v1 v2 : Value}
end
end Go.Proofs.YtneiofnlmblglaaGreatDoor
namespace Go.Proofs.YtneiofnlmblglaaGreatDoor
open Go Go.RowKit Go.Shelf
attribute [local go_sem] gv_yes
end Go.Proofs.YtneiofnlmblglaaGreatDoor
namespace Go.Proofs.YtneiofnlmblglaaGreatDoor
open Go Go.RowKit
attribute [local go_sem] gv_yes
def pre (y : Yr) (k : Nat) : Int := y.lens (y.mos.take k)
end Go.Proofs.YtneiofnlmblglaaGreatDoor
namespace Go.Proofs.YtneiofnlmblglaaGreatDoor
open Go Go.RowKit Go.Shelf
attribute [local go_sem] gv_yes Dt.val
end Go.Proofs.YtneiofnlmblglaaGreatDoor
namespace Go.Proofs.YtneiofnlmblglaaGreatDoor
open Go Go.RowKit
attribute [local go_sem] gv_yes
end Go.Proofs.YtneiofnlmblglaaGreatDoor
namespace Go.Proofs.YtneiofnlmblglaaGreatDoor
open Go Go.RowKit
attribute [local go_sem] gv_yes
end Go.Proofs.YtneiofnlmblglaaGreatDoor
namespace Go.Proofs.YtneiofnlmblglaaGreatDoor
open Go Go.RowKit Go.Shelf
attribute [local go_sem] gv_yes
end Go.Proofs.YtneiofnlmblglaaGreatDoor
namespace Go.Proofs.YtneiofnlmblglaaGreatDoor
open Go Go.RowKit
theorem eqIn_lot (w : World) (x0 y0 : ByteArray) (x1 y1 : Int) : (Op.equalIn 10000 68 (.agg #[.string x0, .int .i64 x1]) (.agg #[.string y0, .int .i64 y1])).run Tryz.prog w = .ok ((x0.toList == y0.toList) && (x1 == y1)) w := by
 go_simp
 by_cases h0 : x0.toList = y0.toList
 rotate_left
 ·simp [h0]
 by_cases h1 : x1 = y1
 rotate_left
 ·simp [h1]
 simp [h0, h1]
theorem neq_lot (w : World) (x0 y0 : ByteArray) (x1 y1 : Int) : (binOp .neq 68 (.agg #[.string x0, .int .i64 x1]) (.agg #[.string y0, .int .i64 y1])).run Tryz.prog w = .ok (.bool (!((x0.toList == y0.toList) && (x1 == y1)))) w := by rw [run_neq_struct, eqIn_lot]; rfl
theorem eqIn_ratio (w : World) (x0 y0 : Int) (x1 y1 : Int) : (Op.equalIn 10000 73 (.agg #[.int .i64 x0, .int .i64 x1]) (.agg #[.int .i64 y0, .int .i64 y1])).run Tryz.prog w = .ok ((x0 == y0) && (x1 == y1)) w := by
 go_simp
 by_cases h0 : x0 = y0
 rotate_left
 ·simp [h0]
 by_cases h1 : x1 = y1
 rotate_left
 ·simp [h1]
 simp [h0, h1]
theorem neq_ratio (w : World) (x0 y0 : Int) (x1 y1 : Int) : (binOp .neq 73 (.agg #[.int .i64 x0, .int .i64 x1]) (.agg #[.int .i64 y0, .int .i64 y1])).run Tryz.prog w = .ok (.bool (!((x0 == y0) && (x1 == y1)))) w := by rw [run_neq_struct, eqIn_ratio]; rfl
theorem eqIn_debt (w : World) (x0 y0 : Int) (x1 y1 : Int) (x2 y2 : Int) (x3 y3 : Int) (x4 y4 : Int) (x5 y5 : Int) : (Op.equalIn 10000 85 (.agg #[.int .i64 x0, .int .i64 x1, .int .i64 x2, .int .i64 x3, .int .i64 x4, .int .i64 x5]) (.agg #[.int .i64 y0, .int .i64 y1, .int .i64 y2, .int .i64 y3, .int .i64 y4, .int .i64 y5])).run Tryz.prog w = .ok ((x0 == y0) && ((x1 == y1) && ((x2 == y2) && ((x3 == y3) && ((x4 == y4) && (x5 == y5)))))) w := by
 go_simp
 by_cases h0 : x0 = y0
 rotate_left
 ·simp [h0]
 by_cases h1 : x1 = y1
 rotate_left
 ·simp [h1]
 by_cases h2 : x2 = y2
 rotate_left
 ·simp [h2]
 by_cases h3 : x3 = y3
 rotate_left
 ·simp [h3]
 by_cases h4 : x4 = y4
 rotate_left
 ·simp [h4]
 by_cases h5 : x5 = y5
 rotate_left
 ·simp [h5]
 simp [h0, h1, h2, h3, h4, h5]
theorem neq_debt (w : World) (x0 y0 : Int) (x1 y1 : Int) (x2 y2 : Int) (x3 y3 : Int) (x4 y4 : Int) (x5 y5 : Int) : (binOp .neq 85 (.agg #[.int .i64 x0, .int .i64 x1, .int .i64 x2, .int .i64 x3, .int .i64 x4, .int .i64 x5]) (.agg #[.int .i64 y0, .int .i64 y1, .int .i64 y2, .int .i64 y3, .int .i64 y4, .int .i64 y5])).run Tryz.prog w = .ok (.bool (!((x0 == y0) && ((x1 == y1) && ((x2 == y2) && ((x3 == y3) && ((x4 == y4) && (x5 == y5)))))))) w := by rw [run_neq_struct, eqIn_debt]; rfl
theorem eqIn_herd (w : World) (x0 y0 : Int) (x1 y1 : Int) (x2 y2 : Int) : (Op.equalIn 10000 99 (.agg #[.int .i64 x0, .int .i64 x1, .int .i64 x2]) (.agg #[.int .i64 y0, .int .i64 y1, .int .i64 y2])).run Tryz.prog w = .ok ((x0 == y0) && ((x1 == y1) && (x2 == y2))) w := by
 go_simp
 by_cases h0 : x0 = y0
 rotate_left
 ·simp [h0]
 by_cases h1 : x1 = y1
 rotate_left
 ·simp [h1]
 by_cases h2 : x2 = y2
 rotate_left
 ·simp [h2]
 simp [h0, h1, h2]
theorem neq_herd (w : World) (x0 y0 : Int) (x1 y1 : Int) (x2 y2 : Int) : (binOp .neq 99 (.agg #[.int .i64 x0, .int .i64 x1, .int .i64 x2]) (.agg #[.int .i64 y0, .int .i64 y1, .int .i64 y2])).run Tryz.prog w = .ok (.bool (!((x0 == y0) && ((x1 == y1) && (x2 == y2))))) w := by rw [run_neq_struct, eqIn_herd]; rfl
end Go.Proofs.YtneiofnlmblglaaGreatDoor
namespace Go.Proofs.YtneiofnlmblglaaGreatDoor
open Go Go.RowKit Go.Shelf
attribute [local go_sem] gv_yes
attribute [local go_sem high] neq_lot
theorem sameLotsR_any (v1 v2 : Value) (l : List Lt) (w : World) (h1 : LotsAt w v1 l) (h2 : LotsAt w v2 l) :
  Calls Tryz.prog 13 #[v1, v2] w fun e w' => e = .returned (.bool true) ∧ Ext w w' := by
 obtain ⟨A, ca, rfl, hA, hca, hca', _⟩ := h1
 obtain ⟨B, cb, rfl, hB, hcb, hcb', _⟩ := h2
 have hn : l.length ≤ 9223372036854775807 := Nat.le_trans hca (Nat.le_trans hca' (by decide))
 clear hca hca' hcb hcb'
 generalize l.length = n at *
 generalize ofL l = f at *
 go_enter Tryz.func13, Tryz.ntmps13
 go_upto_region 4 with (fail)
 go_loopw [5] (fun i wr => ∃ k : Nat, k ≤ n ∧ i = .int .i64 k ∧ Ext w wr) (fun i _ => n - (intOf i).toNat)
 case atStart => exact ⟨0, Nat.zero_le _, rfl, Ext.refl _⟩
 case round =>
  obtain ⟨k, hk, rfl, hE⟩ := hrel
  obtain ⟨wo, rfl⟩ := zgE wr
  by_cases hlt : k < n
  ·obtain ⟨b, off, rfl, hb, hc⟩ := (hA.ext hE) (by omega)
   have c0 : wo.cell? ⟨b, off + k * 2, none⟩ = some (.string (f k).g) := by simpa [lotr] using hc k 0 _ hlt rfl
   have c1 : wo.cell? ⟨b, off + k * 2 + 1, none⟩ = some (.int .i64 (f k).n) := by simpa [lotr] using hc k 1 _ hlt rfl
   clear hc
   obtain ⟨b2, off2, rfl, hb2, hc⟩ := (hB.ext hE) (by omega)
   have d0 : wo.cell? ⟨b2, off2 + k * 2, none⟩ = some (.string (f k).g) := by simpa [lotr] using hc k 0 _ hlt rfl
   have d1 : wo.cell? ⟨b2, off2 + k * 2 + 1, none⟩ = some (.int .i64 (f k).n) := by simpa [lotr] using hc k 1 _ hlt rfl
   clear hc hA hB
   generalize (f k).g = s at *
   generalize (f k).n = z at *
   go_upto_region 6 with (fail)
   refine wp_region_xw wo mixed (by kernel_rfl) (by repeat (first | exact Ext.refl _ | (refine Ext.alloc ?_ _) | (refine Ext.trans ?_ (by assumption)))) ?_
   intro hne hrx hry
   try simp only []
   try simp only [List.append_eq, List.cons_append, List.nil_append]
   skip
   repeat (first
    | go_big_quiet_skip
    | (go_big_quiet_want; go_big_quiet_op; go_big_quiet_on))
   clear hne hry hrx
   refine wpQuiet_nil ?_
   intro w2 h2
   obtain ⟨hcw2, hfw2, hzw2⟩ := Ext.rules h2
   try simp only [World.size_alloc] at hzw2
   obtain ⟨hcbw2, hfbw2, hzbw2⟩ := Ext.rules (show Ext wo w2 from (by repeat (first | exact Ext.refl _ | (refine Ext.alloc ?_ _) | (refine Ext.trans ?_ (by assumption)))))
   clear hcw2 hfw2
   go_wp2
   exact ⟨⟨k + 1, by omega, by go_num, hE.trans h2⟩, by simp [intOf]; omega⟩
  ·obtain rfl : k = n := by omega
   go_wp2
   go_ret
   exact ⟨rfl, hE⟩
theorem copyLotsO_any (v : Value) (l : List Lt) (w : World) (hL : LotsAt w v l) (hsz : l.length * 24 ≤ 140737488351232) :
  Calls Tryz.prog 20 #[v] w fun e w' => ∃ v', e = .returned v' ∧ Ext w w' ∧ w'.ownsRow w.heap.size 68 2 v' l.length (l.flatMap lcells) := by
 have hfl := flat_lots l
 obtain ⟨T, cap, rfl, hT, hcap, hmax, hnil⟩ := hL
 obtain ⟨i0, hi, hz0, hz1, hz2⟩ := info_parts info_lotQ
 have hlen := flatL_len (f := lotr (ofL l)) (sz := 2) (fun _ => rfl) l.length
 have hone : ∀ u ∈ flatL (lotr (ofL l)) l.length, u.oneCell' = true := flat_one (f := lotr (ofL l)) (n := l.length) (fun i u hu => by simp [lotr] at hu; rcases hu with rfl | rfl <;> simp [Value.oneCell'])
 go_enter Tryz.func20, Tryz.ntmps20
 go_upto_region 2 with (fail)
 go_wp2_with (at_builtin; refine wpList_append_copy rfl _ _ 28 rfl w.heap.size 68 i0 (.agg #[.string ⟨#[]⟩, .int .i64 0]) 2 24 Tryz.underlying28 hi hz0 hz1 hz2 rfl (by decide) rfl T l.length cap (flatL (lotr (ofL l)) l.length) rfl hnil hlen (flat_news (f := lotr (ofL l)) (sz := 2) (fun _ => rfl) (by decide) hT) hone (by unfold maxLen; omega) (by omega) (Nat.le_refl _) ?_; intro p w3 hP hgrow)
 have hx : Ext w w3 := (Ext.refl _).grown hgrow (fun q hq => by cases hq)
 clear hgrow
 rw [← hfl] at hP
 go_ret
 exact ⟨_, rfl, hx, hP⟩
theorem chkLR_any (v : Value) (l : List Lt) (w : World) (hL : LotsAt w v l) :
  Calls Tryz.prog 55 #[v] w fun e w' => e = .returned (.int .i64 (lotsEL l)) ∧ Ext w w' := by
 obtain ⟨T, cap, rfl, hT, hcap, hmax, _⟩ := hL
 exact checkLotsR_any T l.length cap (ofL l) w hT hcap (Nat.le_trans hcap (Nat.le_trans hmax (by decide)))
end Go.Proofs.YtneiofnlmblglaaGreatDoor
namespace Go.Proofs.YtneiofnlmblglaaGreatDoor
open Go Go.RowKit Go.Shelf
attribute [local go_sem] gv_yes
def clsr (x : Cls) (v : Value) : List Value := [.int .i64 x.k, v]
/-- A slice value that reads as a list of classes. -/
def ClsAt (w : World) (v : Value) (l : List Cls) : Prop := ∃ D cap, ∃ vs : Nat → Value, v = .slice D l.length cap ∧ RowsAt w D l.length 2 (fun i => clsr (l.getD i zCls) (vs i)) ∧ l.length ≤ cap ∧ cap ≤ maxLen ∧ (D = none → l.length = 0 ∧ cap = 0) ∧ ∀ i, i < l.length → LotsAt w (vs i) (l.getD i zCls).l
theorem ClsAt.ext {w w' : World} {v : Value} {l : List Cls} (h : ClsAt w v l) (e : Ext w w') : ClsAt w' v l := by
 obtain ⟨D, cap, vs, h1, h2, h3, h4, h5, h6⟩ := h
 exact ⟨D, cap, vs, h1, h2.ext e, h3, h4, h5, fun i hi => (h6 i hi).ext e⟩
theorem lots_lenX {w : World} {F : Option Addr} {n c : Nat} {l : List Lt} (h : LotsAt w (.slice F n c) l) : n = l.length := by
 obtain ⟨_, _, h, _⟩ := h
 injection h
theorem chkL_anyX (v : Value) (l : List Lt) (w : World) (hL : LotsAt w v l) :
  Calls Tryz.prog 52 #[v] w fun e w' => e = .returned (.int .i64 (lotsEL l)) ∧ Ext w w' := by
 obtain ⟨T, cap, rfl, hT, hcap, hmax, _⟩ := hL
 exact checkLots_any T l.length cap (ofL l) w hT hcap (Nat.le_trans hcap (Nat.le_trans hmax (by decide)))
theorem rations_any (v : Value) (L : List Cls) (m : Int) (w : World) (hC : ClsAt w v L) :
  Calls Tryz.prog 21 #[v, .int .i64 m] w fun e w' => ∃ v', e = .returned (.tuple #[v', .int .i64 (ratnV L m).2]) ∧ Ext w w' ∧ LotsAt w' v' (ratnV L m).1 := by
 obtain ⟨D, cap, vs, rfl, hD, hcap, hmax, _, hat⟩ := hC
 have hn : L.length ≤ 9223372036854775807 := Nat.le_trans hcap (Nat.le_trans hmax (by decide))
 clear hmax
 obtain ⟨R, hR⟩ := zgE (ratnV L m)
 rw [← hR]
 have hmany : Hid (64 < L.length → R = ([], 3)) := fun h => by rw [hR]; exact ratn_many h
 have herr : Hid (¬ 64 < L.length → ∀ q, clsE L = q → q ≠ 0 → R = ([], q)) := fun h q h1 h2 => by rw [hR]; exact ratn_err h h1 h2
 have hmon : Hid (¬ 64 < L.length → clsE L = 0 → (m < 0 ∨ 1200 < m) → R = ([], 8)) := fun h h1 h2 => by rw [hR]; exact ratn_mon h h1 h2
 have hgo : Hid (¬ 64 < L.length → clsE L = 0 → ¬ (m < 0 ∨ 1200 < m) → R = ratnS m [] L) := fun h h1 h2 => by rw [hR]; exact ratn_go h h1 h2
 clear hR
 obtain ⟨g, hg⟩ := zgE (fun i => L.getD i zCls)
 have hg' : ∀ i, L.getD i zCls = g i := fun i => by rw [hg]
 have hstep : Hid (∀ i, i < L.length → ∀ q, cl1E (g i) = q → clsE (L.drop i) = if q ≠ 0 then q else clsE (L.drop (i + 1))) := fun i hi q hq => clsE_step hi (by rw [hg']; exact hq)
 have hrun : Hid (∀ s i, i < L.length → ratnS m s (L.drop i) = if scE (g i).l ((g i).k * m) ≠ 0 then ([], scE (g i).l ((g i).k * m)) else if combEL 1 s (scL (g i).l ((g i).k * m)) ≠ 0 then ([], combEL 1 s (scL (g i).l ((g i).k * m))) else ratnS m (combLL 1 s (scL (g i).l ((g i).k * m))) (L.drop (i + 1))) := fun s i hi => by simp only [← hg']; exact ratn_step hi
 have hok : Hid (clsE L = 0 → ∀ i, i < L.length → cl1E (g i) = 0) := fun h i hi => by rw [← hg']; exact cls_ok h i hi
 have hend : Hid (L.drop L.length = []) := List.drop_length
 simp only [hg'] at hD hat
 clear hg hg'
 generalize L.length = n at *
 replace hat := Lib.hid hat
 go_enter Tryz.func21, Tryz.ntmps21
 by_cases h64 : 64 < n
 ·have g1 : decide ((64 : Int) < (n : Int)) = true := decide_eq_true (by omega)
  have hr := Lib.hid (hmany.out h64)
  clear hmany herr hmon hgo hstep hrun hok hend
  go_wp2
  go_ret2
  exact ⟨_, by rw [hr.out]; rfl, Ext.refl _, by rw [hr.out]; exact lotsAt_nil _⟩
 have g1 : decide ((64 : Int) < (n : Int)) = false := decide_eq_false (by omega)
 replace herr := Lib.hid (herr.out h64)
 replace hmon := Lib.hid (hmon.out h64)
 replace hgo := Lib.hid (hgo.out h64)
 clear hmany
 go_upto_region 4 with (fail)
 go_loopw [21] (fun iv wr => ∃ i : Nat, i ≤ n ∧ iv = .int .i64 i ∧ Ext w wr ∧ Hid (clsE L = clsE (L.drop i))) (fun iv _ => n - (intOf iv).toNat)
 case atStart => exact ⟨0, Nat.zero_le _, rfl, Ext.refl _, rfl⟩
 case round =>
  obtain ⟨i, hi, rfl, hE, hq⟩ := hrel
  obtain ⟨wo, rfl⟩ := zgE wr
  by_cases hlt : i < n
  ·obtain ⟨b, off, rfl, hb, hc⟩ := (hD.ext hE) (by omega)
   have c0 : wo.cell? ⟨b, off + i * 2, none⟩ = some (.int .i64 (g i).k) := by simpa [clsr] using hc i 0 _ hlt rfl
   have c1 : wo.cell? ⟨b, off + i * 2 + 1, none⟩ = some (vs i) := by simpa [clsr] using hc i 1 _ hlt rfl
   have hL := (hat.out i hlt).ext hE
   obtain ⟨VL, hvl⟩ := zgE (vs i)
   rw [← hvl] at c1 hL
   clear hc hvl
   obtain ⟨TL, cl, hVL, hTR, hcl, hclm, _⟩ := id hL
   subst hVL
   have hst := Lib.hid (hstep.out i hlt)
   generalize g i = X at *
   obtain ⟨k, l⟩ := X
   simp only at c0 c1 hL hTR hcl
   have hl63 : l.length ≤ 9223372036854775807 := Nat.le_trans hcl (Nat.le_trans hclm (by decide))
   have NK := fun w h => chkL_anyX (.slice TL l.length cl) l w h
   obtain ⟨q, hql0⟩ := zgE (lotsEL l)
   simp only [← hql0] at NK
   have hql := Lib.hid hql0.symm
   clear hql0 hD
   go_upto_region 6 with (fail)
   obtain ⟨v3, hv⟩ := zgE (wo.alloc (.cells #[.int .i64 k, .slice TL l.length cl] 49))
   rw [← hv]
   have h3 : Ext wo v3 := by rw [hv]; exact (Ext.refl _).alloc _
   have H9 : Held v3 wo.heap.size 49 #[.int .i64 k, .slice TL l.length cl] := by rw [hv]; exact Held.new _ _ _
   clear hv
   generalize wo.heap.size = b9 at *
   replace hE := hE.trans h3
   have LX := hL.ext h3
   replace hTR := hTR.ext h3
   clear h3 c0 c1 hb hL
   obtain ⟨x0, x1⟩ := H9.c2
   have xl := H9.lt
   by_cases a1 : k < 0
   ·have g2 : decide (k < 0) = true := decide_eq_true a1
    have hr := Lib.hid (herr.out 8 (by rw [hq.out, hst.out 8 (cl_cnt (.inl a1)), if_pos (by first | exact e0 | decide)]) (by first | exact e0 | decide))
    clear hst hq hgo hrun hok hend hmon herr hstep hat
    go_wp2
    go_ret2
    exact ⟨_, by rw [hr.out]; rfl, hE, by rw [hr.out]; exact lotsAt_nil _⟩
   have g2 : decide (k < 0) = false := decide_eq_false a1
   by_cases a2 : 1099511627776 < k
   ·have g3 : decide (1099511627776 < k) = true := decide_eq_true a2
    have hr := Lib.hid (herr.out 8 (by rw [hq.out, hst.out 8 (cl_cnt (.inr a2)), if_pos (by first | exact e0 | decide)]) (by first | exact e0 | decide))
    clear hst hq hgo hrun hok hend hmon herr hstep hat
    go_wp2
    go_ret2
    exact ⟨_, by rw [hr.out]; rfl, hE, by rw [hr.out]; exact lotsAt_nil _⟩
   have g3 : decide (1099511627776 < k) = false := decide_eq_false a2
   have nk : ¬ (k < 0 ∨ 1099511627776 < k) := by omega
   by_cases e0 : q = 0
   rotate_left
   ·have g4 : (q == 0) = false := beq_eq_false_iff_ne.2 e0
    have g4n : (q != 0) = true := by rw [bne, g4]; rfl
    have hr := Lib.hid (herr.out q (by rw [hq.out, hst.out q (cl_lots nk hql.out e0), if_pos (by first | exact e0 | decide)]) (by first | exact e0 | decide))
    clear e0 hql
    clear hst hq hgo hrun hok hend hmon herr hstep hat
    go_wp2_with (go_at_call 52; (with_reducible refine Calls.mono (NK _ LX) ?_); rintro e w4 ⟨rfl, h4⟩; clear x0 x1 xl; have H9 := H9.ext h4; obtain ⟨x0, x1⟩ := H9.c2; have xl := H9.lt)
    go_ret2
    exact ⟨_, by rw [hr.out]; rfl, hE.trans h4, by rw [hr.out]; exact lotsAt_nil _⟩
   subst e0
   have hcn := Lib.hid (fun j hj hn => hst.out 8 (cl_neg (x := ⟨k, l⟩) (j := j) nk hql.out hj hn))
   have hcf := Lib.hid (fun hj => hst.out 0 (cl_fine (x := ⟨k, l⟩) nk hql.out hj))
   clear hst nk hql a1 a2
   go_upto_region 12 with (go_at_call 52; (with_reducible refine Calls.mono (NK _ LX) ?_); rintro e w4 ⟨rfl, h4⟩; clear x0 x1 xl; have H9 := H9.ext h4; obtain ⟨x0, x1⟩ := H9.c2; have xl := H9.lt)
   replace hE := hE.trans h4
   replace hTR := hTR.ext h4
   clear x0 x1 xl H9 h4 LX NK g2 g3
   go_loopw [42] (fun jv wr => ∃ j : Nat, j ≤ l.length ∧ jv = .int .i64 j ∧ Ext w4 wr ∧ Hid (∀ y, y < j → 0 ≤ (ofL l y).n)) (fun jv _ => l.length - (intOf jv).toNat)
   case atStart => exact ⟨0, Nat.zero_le _, rfl, Ext.refl _, (fun y h => absurd h (by omega))⟩
   case round =>
    obtain ⟨j, hj, rfl, hEj, hnn⟩ := hrel
    obtain ⟨wi, rfl⟩ := zgE wr
    by_cases hlj : j < l.length
    ·obtain ⟨b2, off2, rfl, hb2, hc2⟩ := (hTR.ext hEj) (by omega)
     have y0 : wi.cell? ⟨b2, off2 + j * 2, none⟩ = some (.string (ofL l j).g) := by simpa [lotr] using hc2 j 0 _ hlj rfl
     have y1 : wi.cell? ⟨b2, off2 + j * 2 + 1, none⟩ = some (.int .i64 (ofL l j).n) := by simpa [lotr] using hc2 j 1 _ hlj rfl
     clear hc2
     go_upto_region 14 with (fail)
     obtain ⟨v5, hv⟩ := zgE (wi.alloc (.cells #[.string (ofL l j).g, .int .i64 (ofL l j).n] 68))
     rw [← hv]
     have h5 : Ext wi v5 := by rw [hv]; exact (Ext.refl _).alloc _
     have H7 : Held v5 wi.heap.size 68 #[.string (ofL l j).g, .int .i64 (ofL l j).n] := by rw [hv]; exact Held.new _ _ _
     clear hv
     generalize wi.heap.size = b7 at *
     replace hEj := hEj.trans h5
     clear h5 y0 y1 hb2
     obtain ⟨y0, y1⟩ := H7.c2
     have yl := H7.lt
     by_cases hneg : (ofL l j).n < 0
     ·have g7 : decide ((ofL l j).n < 0) = true := decide_eq_true hneg
      have hr := Lib.hid (herr.out 8 (by rw [hq.out, hcn.out j hlj hneg, if_pos (by decide)]) (by decide))
      clear hneg hnn hcn hcf
      clear hq hgo hrun hok hend hmon herr hstep hat
      go_wp2
      go_ret2
      exact ⟨_, by rw [hr.out]; rfl, hE.trans hEj, by rw [hr.out]; exact lotsAt_nil _⟩
     ·have g7 : decide ((ofL l j).n < 0) = false := decide_eq_false hneg
      have hnn2 : Hid (∀ y, y < j + 1 → 0 ≤ (ofL l y).n) := fun y hy => by
       by_cases e : y = j
       ·subst e; omega
       ·exact hnn.out y (by omega)
      clear hneg hnn hcn hcf hq hgo hrun hok hend hmon herr hstep hat
      go_wp2
      exact ⟨⟨j + 1, by omega, by go_num, hEj, hnn2⟩, by simp [intOf]; omega⟩
    ·obtain rfl : j = l.length := by omega
     have hq2 : Hid (clsE L = clsE (L.drop (i + 1))) := by unfold Hid; rw [hq.out, hcf.out hnn.out, if_neg (by decide)]
     clear hnn hcn hcf hq hgo hrun hok hend hmon herr hstep hat
     go_wp2
     exact ⟨⟨i + 1, by omega, by go_num, hE.trans hEj, hq2⟩, by simp [intOf]; omega⟩
  ·obtain rfl : n = i := by omega
   have hc0 : clsE L = 0 := by rw [hq.out, hend.out]; rfl
   replace hmon := Lib.hid (hmon.out hc0)
   replace hgo := Lib.hid (hgo.out hc0)
   replace hok := Lib.hid (hok.out hc0)
   clear hc0 hq herr hstep
   by_cases m1 : m < 0
   ·have g2 : decide (m < 0) = true := decide_eq_true m1
    have hr := Lib.hid (hmon.out (.inl m1))
    clear hmon hgo hok hrun hend hat
    go_wp2
    go_ret2
    exact ⟨_, by rw [hr.out]; rfl, hE, by rw [hr.out]; exact lotsAt_nil _⟩
   have g2 : decide (m < 0) = false := decide_eq_false m1
   by_cases m2 : 1200 < m
   ·have g3 : decide (1200 < m) = true := decide_eq_true m2
    have hr := Lib.hid (hmon.out (.inr m2))
    clear hmon hgo hok hrun hend hat
    go_wp2
    go_ret2
    exact ⟨_, by rw [hr.out]; rfl, hE, by rw [hr.out]; exact lotsAt_nil _⟩
   have g3 : decide (1200 < m) = false := decide_eq_false m2
   have hR0 : Hid (R = ratnS m [] (L.drop 0)) := hgo.out (by omega)
   clear hmon hgo
   have hE0 := hE
   clear hE
   go_upto_region 22 with (fail)
   go_loopw [11, 59] (fun sv iv wr => ∃ (i : Nat) (s : List Lt), i ≤ n ∧ iv = .int .i64 i ∧ LotsAt wr sv s ∧ Hid (R = ratnS m s (L.drop i)) ∧ Ext w wr) (fun _ iv _ => n - (intOf iv).toNat)
   case atStart => exact ⟨0, [], Nat.zero_le _, rfl, lotsAt_nil _, hR0, hE0⟩
   case round =>
    clear hR0 hE0
    obtain ⟨i, s, hi, rfl, hS, hrr, hE⟩ := hrel
    obtain ⟨wo, rfl⟩ := zgE wr
    obtain ⟨AS, cs, hsv, _⟩ := id hS
    subst hsv
    by_cases hlt : i < n
    rotate_left
    ·obtain rfl : n = i := by omega
     have hr : Hid (R = (s, 0)) := by unfold Hid; rw [hrr.out, hend.out]; rfl
     clear hrr hend hrun hok hat
     go_wp2
     go_ret2
     exact ⟨_, by rw [hr.out]; rfl, hE, by rw [hr.out]; exact hS⟩
    obtain ⟨b, off, rfl, hb, hc⟩ := (hD.ext hE) (by omega)
    have c0 : wo.cell? ⟨b, off + i * 2, none⟩ = some (.int .i64 (g i).k) := by simpa [clsr] using hc i 0 _ hlt rfl
    have c1 : wo.cell? ⟨b, off + i * 2 + 1, none⟩ = some (vs i) := by simpa [clsr] using hc i 1 _ hlt rfl
    have hL := (hat.out i hlt).ext hE
    obtain ⟨VL, hvl⟩ := zgE (vs i)
    rw [← hvl] at c1 hL
    clear hc hvl
    obtain ⟨TL, cl, hVL, hTR, hcl, hclm, _⟩ := id hL
    subst hVL
    have hst := Lib.hid (hrun.out s i hlt)
    obtain ⟨⟨k0, k1⟩, _⟩ := cl1_ok (hok.out i hlt)
    clear hrun hok hat
    generalize g i = X at *
    obtain ⟨k, l⟩ := X
    simp only at c0 c1 hL hst k0 k1
    obtain ⟨t0, t1⟩ := clsmul_bd k0 k1 (show 0 ≤ m by omega) (show m ≤ 1200 by omega)
    have vt : IntKind.i64.wrap (k * m) = k * m := wrap64 (by omega) (by omega)
    have NS := fun w h => scale_any (.slice TL l.length cl) l (k * m) (by omega) (by omega) w h
    have hst2 : Hid (ratnS m s (L.drop i) = if scE l (k * m) ≠ 0 then ([], scE l (k * m)) else if combEL 1 s (scL l (k * m)) ≠ 0 then ([], combEL 1 s (scL l (k * m))) else ratnS m (combLL 1 s (scL l (k * m))) (L.drop (i + 1))) := hst
    clear hst hTR hcl hclm
    generalize scE l (k * m) = q1 at *
    generalize scL l (k * m) = S1 at *
    have NA := fun w F c h1 h2 => addLL_any (.slice AS s.length cs) (.slice F S1.length c) s S1 w h1 h2
    generalize hq2 : combEL 1 s S1 = q2 at *
    clear hq2
    generalize hL2 : combLL 1 s S1 = L2 at *
    clear hL2
    go_upto_region 24 with (fail)
    obtain ⟨v3, hv⟩ := zgE (wo.alloc (.cells #[.int .i64 k, .slice TL l.length cl] 49))
    rw [← hv]
    have h3 : Ext wo v3 := by rw [hv]; exact (Ext.refl _).alloc _
    have H9 : Held v3 wo.heap.size 49 #[.int .i64 k, .slice TL l.length cl] := by rw [hv]; exact Held.new _ _ _
    clear hv
    generalize wo.heap.size = b9 at *
    replace hE := hE.trans h3
    have LX := hL.ext h3
    replace hS := hS.ext h3
    clear h3 c0 c1 hb hL
    obtain ⟨x0, x1⟩ := H9.c2
    have xl := H9.lt
    go_upto_region 25 with (go_at_call 53; (with_reducible refine Calls.mono (NS _ LX) ?_); rintro e w4 ⟨F, y, c, rfl, h4, L4⟩; obtain rfl := lots_lenX L4)
    replace hE := hE.trans h4
    have S4 := hS.ext h4
    clear h4 hS LX NS x0 x1 xl H9
    by_cases e1 : q1 = 0
    rotate_left
    ·have e1f : (q1 == 0) = false := beq_eq_false_iff_ne.2 e1
     have e1n : (q1 != 0) = true := by rw [bne, e1f]; rfl
     have hr : Hid (R = ([], q1)) := by unfold Hid; rw [hrr.out, hst2.out, if_pos e1]
     clear hrr hst2 e1 hend
     go_wp2
     go_ret2
     exact ⟨_, by rw [hr.out]; rfl, hE, by rw [hr.out]; exact lotsAt_nil _⟩
    subst e1
    by_cases e2 : q2 = 0
    rotate_left
    ·have e2f : (q2 == 0) = false := beq_eq_false_iff_ne.2 e2
     have e2n : (q2 != 0) = true := by rw [bne, e2f]; rfl
     have hr : Hid (R = ([], q2)) := by unfold Hid; rw [hrr.out, hst2.out, if_neg (by decide), if_pos e2]
     clear hrr hst2 e2 hend
     go_wp2_with (go_at_call 54; (with_reducible refine Calls.mono (NA _ F c S4 L4) ?_); rintro e w5 ⟨F2, y2, c2, rfl, h5, L5⟩; obtain rfl := lots_lenX L5)
     go_ret2
     exact ⟨_, by rw [hr.out]; rfl, hE.trans h5, by rw [hr.out]; exact lotsAt_nil _⟩
    subst e2
    have hr : Hid (R = ratnS m L2 (L.drop (i + 1))) := by unfold Hid; rw [hrr.out, hst2.out, if_neg (by decide), if_neg (by decide)]
    clear hrr hst2 hend
    go_wp2_with (go_at_call 54; (with_reducible refine Calls.mono (NA _ F c S4 L4) ?_); rintro e w5 ⟨F2, y2, c2, rfl, h5, L5⟩; obtain rfl := lots_lenX L5)
    exact ⟨⟨i + 1, L2, by omega, by go_num, L5, hr, hE.trans h5⟩, by simp [intOf]; omega⟩
theorem rationsR_any (v : Value) (L : List Cls) (m : Int) (w : World) (hC : ClsAt w v L) :
  Calls Tryz.prog 22 #[v, .int .i64 m] w fun e w' => ∃ v', e = .returned (.tuple #[v', .int .i64 (ratnV L m).2]) ∧ Ext w w' ∧ LotsAt w' v' (ratnV L m).1 := by
 obtain ⟨D, cap, vs, rfl, hD, hcap, hmax, _, hat⟩ := hC
 have hn : L.length ≤ 9223372036854775807 := Nat.le_trans hcap (Nat.le_trans hmax (by decide))
 clear hmax
 obtain ⟨R, hR⟩ := zgE (ratnV L m)
 rw [← hR]
 have hmany : Hid (64 < L.length → R = ([], 3)) := fun h => by rw [hR]; exact ratn_many h
 have herr : Hid (¬ 64 < L.length → ∀ q, clsE L = q → q ≠ 0 → R = ([], q)) := fun h q h1 h2 => by rw [hR]; exact ratn_err h h1 h2
 have hmon : Hid (¬ 64 < L.length → clsE L = 0 → (m < 0 ∨ 1200 < m) → R = ([], 8)) := fun h h1 h2 => by rw [hR]; exact ratn_mon h h1 h2
 have hgo : Hid (¬ 64 < L.length → clsE L = 0 → ¬ (m < 0 ∨ 1200 < m) → R = ratnS m [] L) := fun h h1 h2 => by rw [hR]; exact ratn_go h h1 h2
 clear hR
 obtain ⟨g, hg⟩ := zgE (fun i => L.getD i zCls)
 have hg' : ∀ i, L.getD i zCls = g i := fun i => by rw [hg]
 have hstep : Hid (∀ i, i < L.length → ∀ q, cl1E (g i) = q → clsE (L.drop i) = if q ≠ 0 then q else clsE (L.drop (i + 1))) := fun i hi q hq => clsE_step hi (by rw [hg']; exact hq)
 have hrun : Hid (∀ s i, i < L.length → ratnS m s (L.drop i) = if scE (g i).l ((g i).k * m) ≠ 0 then ([], scE (g i).l ((g i).k * m)) else if combEL 1 s (scL (g i).l ((g i).k * m)) ≠ 0 then ([], combEL 1 s (scL (g i).l ((g i).k * m))) else ratnS m (combLL 1 s (scL (g i).l ((g i).k * m))) (L.drop (i + 1))) := fun s i hi => by simp only [← hg']; exact ratn_step hi
 have hok : Hid (clsE L = 0 → ∀ i, i < L.length → cl1E (g i) = 0) := fun h i hi => by rw [← hg']; exact cls_ok h i hi
 have hend : Hid (L.drop L.length = []) := List.drop_length
 simp only [hg'] at hD hat
 clear hg hg'
 generalize L.length = n at *
 replace hat := Lib.hid hat
 go_enter Tryz.func22, Tryz.ntmps22
 by_cases h64 : 64 < n
 ·have g1 : decide ((64 : Int) < (n : Int)) = true := decide_eq_true (by omega)
  have hr := Lib.hid (hmany.out h64)
  clear hmany herr hmon hgo hstep hrun hok hend
  go_wp2
  go_ret2
  exact ⟨_, by rw [hr.out]; rfl, Ext.refl _, by rw [hr.out]; exact lotsAt_nil _⟩
 have g1 : decide ((64 : Int) < (n : Int)) = false := decide_eq_false (by omega)
 replace herr := Lib.hid (herr.out h64)
 replace hmon := Lib.hid (hmon.out h64)
 replace hgo := Lib.hid (hgo.out h64)
 clear hmany
 go_upto_region 4 with (fail)
 go_loopw [6] (fun iv wr => ∃ i : Nat, i ≤ n ∧ iv = .int .i64 i ∧ Ext w wr ∧ Hid (clsE L = clsE (L.drop i))) (fun iv _ => n - (intOf iv).toNat)
 case atStart => exact ⟨0, Nat.zero_le _, rfl, Ext.refl _, rfl⟩
 case round =>
  obtain ⟨i, hi, rfl, hE, hq⟩ := hrel
  obtain ⟨wo, rfl⟩ := zgE wr
  by_cases hlt : i < n
  ·obtain ⟨b, off, rfl, hb, hc⟩ := (hD.ext hE) (by omega)
   have c0 : wo.cell? ⟨b, off + i * 2, none⟩ = some (.int .i64 (g i).k) := by simpa [clsr] using hc i 0 _ hlt rfl
   have c1 : wo.cell? ⟨b, off + i * 2 + 1, none⟩ = some (vs i) := by simpa [clsr] using hc i 1 _ hlt rfl
   have hL := (hat.out i hlt).ext hE
   obtain ⟨VL, hvl⟩ := zgE (vs i)
   rw [← hvl] at c1 hL
   clear hc hvl
   obtain ⟨TL, cl, hVL, hTR, hcl, hclm, _⟩ := id hL
   subst hVL
   have hst := Lib.hid (hstep.out i hlt)
   generalize g i = X at *
   obtain ⟨k, l⟩ := X
   simp only at c0 c1 hL hTR hcl
   have hl63 : l.length ≤ 9223372036854775807 := Nat.le_trans hcl (Nat.le_trans hclm (by decide))
   have NK := fun w h => chkLR_any (.slice TL l.length cl) l w h
   obtain ⟨q, hql0⟩ := zgE (lotsEL l)
   simp only [← hql0] at NK
   have hql := Lib.hid hql0.symm
   clear hql0 hD
   have LX := hL
   by_cases a1 : k < 0
   ·have g2 : decide (k < 0) = true := decide_eq_true a1
    have hr := Lib.hid (herr.out 8 (by rw [hq.out, hst.out 8 (cl_cnt (.inl a1)), if_pos (by first | exact e0 | decide)]) (by first | exact e0 | decide))
    clear hst hq hgo hrun hok hend hmon herr hstep hat
    go_wp2
    go_ret2
    exact ⟨_, by rw [hr.out]; rfl, hE, by rw [hr.out]; exact lotsAt_nil _⟩
   have g2 : decide (k < 0) = false := decide_eq_false a1
   by_cases a2 : 1099511627776 < k
   ·have g3 : decide (1099511627776 < k) = true := decide_eq_true a2
    have hr := Lib.hid (herr.out 8 (by rw [hq.out, hst.out 8 (cl_cnt (.inr a2)), if_pos (by first | exact e0 | decide)]) (by first | exact e0 | decide))
    clear hst hq hgo hrun hok hend hmon herr hstep hat
    go_wp2
    go_ret2
    exact ⟨_, by rw [hr.out]; rfl, hE, by rw [hr.out]; exact lotsAt_nil _⟩
   have g3 : decide (1099511627776 < k) = false := decide_eq_false a2
   have nk : ¬ (k < 0 ∨ 1099511627776 < k) := by omega
   by_cases e0 : q = 0
   rotate_left
   ·have g4 : (q == 0) = false := beq_eq_false_iff_ne.2 e0
    have g4n : (q != 0) = true := by rw [bne, g4]; rfl
    have hr := Lib.hid (herr.out q (by rw [hq.out, hst.out q (cl_lots nk hql.out e0), if_pos (by first | exact e0 | decide)]) (by first | exact e0 | decide))
    clear e0 hql
    clear hst hq hgo hrun hok hend hmon herr hstep hat
    go_wp2_with (go_at_call 55; (with_reducible refine Calls.mono (NK _ LX) ?_); rintro e w4 ⟨rfl, h4⟩)
    go_ret2
    exact ⟨_, by rw [hr.out]; rfl, hE.trans h4, by rw [hr.out]; exact lotsAt_nil _⟩
   subst e0
   have hcn := Lib.hid (fun j hj hn => hst.out 8 (cl_neg (x := ⟨k, l⟩) (j := j) nk hql.out hj hn))
   have hcf := Lib.hid (fun hj => hst.out 0 (cl_fine (x := ⟨k, l⟩) nk hql.out hj))
   clear hst nk hql a1 a2
   go_upto_region 12 with (go_at_call 55; (with_reducible refine Calls.mono (NK _ LX) ?_); rintro e w4 ⟨rfl, h4⟩)
   replace hE := hE.trans h4
   replace hTR := hTR.ext h4
   have d0 := (h4.cell (p := ⟨b, off + i * 2, none⟩) hb).trans c0
   have d1 := (h4.cell (p := ⟨b, off + i * 2 + 1, none⟩) hb).trans c1
   have hb4 := Nat.lt_of_lt_of_le hb h4.size
   clear c0 c1 hb h4 LX NK g2 g3 hL
   go_loopw [8] (fun jv wr => ∃ j : Nat, j ≤ l.length ∧ jv = .int .i64 j ∧ Ext w4 wr ∧ Hid (∀ y, y < j → 0 ≤ (ofL l y).n)) (fun jv _ => l.length - (intOf jv).toNat)
   case atStart => exact ⟨0, Nat.zero_le _, rfl, Ext.refl _, (fun y h => absurd h (by omega))⟩
   case round =>
    obtain ⟨j, hj, rfl, hEj, hnn⟩ := hrel
    obtain ⟨wi, rfl⟩ := zgE wr
    have c0 := (hEj.cell (p := ⟨b, off + i * 2, none⟩) hb4).trans d0
    have c1 := (hEj.cell (p := ⟨b, off + i * 2 + 1, none⟩) hb4).trans d1
    have hb := Nat.lt_of_lt_of_le hb4 hEj.size
    clear d0 d1 hb4
    by_cases hlj : j < l.length
    ·obtain ⟨b2, off2, rfl, hb2, hc2⟩ := (hTR.ext hEj) (by omega)
     have y0 : wi.cell? ⟨b2, off2 + j * 2, none⟩ = some (.string (ofL l j).g) := by simpa [lotr] using hc2 j 0 _ hlj rfl
     have y1 : wi.cell? ⟨b2, off2 + j * 2 + 1, none⟩ = some (.int .i64 (ofL l j).n) := by simpa [lotr] using hc2 j 1 _ hlj rfl
     clear hc2
     by_cases hneg : (ofL l j).n < 0
     ·have g7 : decide ((ofL l j).n < 0) = true := decide_eq_true hneg
      have hr := Lib.hid (herr.out 8 (by rw [hq.out, hcn.out j hlj hneg, if_pos (by decide)]) (by decide))
      clear hneg hnn hcn hcf
      clear hq hgo hrun hok hend hmon herr hstep hat
      go_wp2
      go_ret2
      exact ⟨_, by rw [hr.out]; rfl, hE.trans hEj, by rw [hr.out]; exact lotsAt_nil _⟩
     ·have g7 : decide ((ofL l j).n < 0) = false := decide_eq_false hneg
      have hnn2 : Hid (∀ y, y < j + 1 → 0 ≤ (ofL l y).n) := fun y hy => by
       by_cases e : y = j
       ·subst e; omega
       ·exact hnn.out y (by omega)
      clear hneg hnn hcn hcf hq hgo hrun hok hend hmon herr hstep hat
      go_wp2
      exact ⟨⟨j + 1, by omega, by go_num, hEj, hnn2⟩, by simp [intOf]; omega⟩
    ·obtain rfl : j = l.length := by omega
     have hq2 : Hid (clsE L = clsE (L.drop (i + 1))) := by unfold Hid; rw [hq.out, hcf.out hnn.out, if_neg (by decide)]
     clear hnn hcn hcf hq hgo hrun hok hend hmon herr hstep hat
     go_wp2
     exact ⟨⟨i + 1, by omega, by go_num, hE.trans hEj, hq2⟩, by simp [intOf]; omega⟩
  ·obtain rfl : n = i := by omega
   have hc0 : clsE L = 0 := by rw [hq.out, hend.out]; rfl
   replace hmon := Lib.hid (hmon.out hc0)
   replace hgo := Lib.hid (hgo.out hc0)
   replace hok := Lib.hid (hok.out hc0)
   clear hc0 hq herr hstep
   by_cases m1 : m < 0
   ·have g2 : decide (m < 0) = true := decide_eq_true m1
    have hr := Lib.hid (hmon.out (.inl m1))
    clear hmon hgo hok hrun hend hat
    go_wp2
    go_ret2
    exact ⟨_, by rw [hr.out]; rfl, hE, by rw [hr.out]; exact lotsAt_nil _⟩
   have g2 : decide (m < 0) = false := decide_eq_false m1
   by_cases m2 : 1200 < m
   ·have g3 : decide (1200 < m) = true := decide_eq_true m2
    have hr := Lib.hid (hmon.out (.inr m2))
    clear hmon hgo hok hrun hend hat
    go_wp2
    go_ret2
    exact ⟨_, by rw [hr.out]; rfl, hE, by rw [hr.out]; exact lotsAt_nil _⟩
   have g3 : decide (1200 < m) = false := decide_eq_false m2
   have hR0 : Hid (R = ratnS m [] (L.drop 0)) := hgo.out (by omega)
   clear hmon hgo
   have hE0 := hE
   clear hE
   go_upto_region 20 with (fail)
   go_loopw [9, 10] (fun sv iv wr => ∃ (i : Nat) (s : List Lt), i ≤ n ∧ iv = .int .i64 i ∧ LotsAt wr sv s ∧ Hid (R = ratnS m s (L.drop i)) ∧ Ext w wr) (fun _ iv _ => n - (intOf iv).toNat)
   case atStart => exact ⟨0, [], Nat.zero_le _, rfl, lotsAt_nil _, hR0, hE0⟩
   case round =>
    clear hR0 hE0
    obtain ⟨i, s, hi, rfl, hS, hrr, hE⟩ := hrel
    obtain ⟨wo, rfl⟩ := zgE wr
    obtain ⟨AS, cs, hsv, _⟩ := id hS
    subst hsv
    by_cases hlt : i < n
    rotate_left
    ·obtain rfl : n = i := by omega
     have hr : Hid (R = (s, 0)) := by unfold Hid; rw [hrr.out, hend.out]; rfl
     clear hrr hend hrun hok hat
     go_wp2
     go_ret2
     exact ⟨_, by rw [hr.out]; rfl, hE, by rw [hr.out]; exact hS⟩
    obtain ⟨b, off, rfl, hb, hc⟩ := (hD.ext hE) (by omega)
    have c0 : wo.cell? ⟨b, off + i * 2, none⟩ = some (.int .i64 (g i).k) := by simpa [clsr] using hc i 0 _ hlt rfl
    have c1 : wo.cell? ⟨b, off + i * 2 + 1, none⟩ = some (vs i) := by simpa [clsr] using hc i 1 _ hlt rfl
    have hL := (hat.out i hlt).ext hE
    obtain ⟨VL, hvl⟩ := zgE (vs i)
    rw [← hvl] at c1 hL
    clear hc hvl
    obtain ⟨TL, cl, hVL, hTR, hcl, hclm, _⟩ := id hL
    subst hVL
    have hst := Lib.hid (hrun.out s i hlt)
    obtain ⟨⟨k0, k1⟩, _⟩ := cl1_ok (hok.out i hlt)
    clear hrun hok hat
    generalize g i = X at *
    obtain ⟨k, l⟩ := X
    simp only at c0 c1 hL hst k0 k1
    obtain ⟨t0, t1⟩ := clsmul_bd k0 k1 (show 0 ≤ m by omega) (show m ≤ 1200 by omega)
    have vt : IntKind.i64.wrap (k * m) = k * m := wrap64 (by omega) (by omega)
    have NS := fun w h => scaleR_any (.slice TL l.length cl) l (k * m) (by omega) (by omega) w h
    have hst2 : Hid (ratnS m s (L.drop i) = if scE l (k * m) ≠ 0 then ([], scE l (k * m)) else if combEL 1 s (scL l (k * m)) ≠ 0 then ([], combEL 1 s (scL l (k * m))) else ratnS m (combLL 1 s (scL l (k * m))) (L.drop (i + 1))) := hst
    clear hst hTR hcl hclm
    generalize scE l (k * m) = q1 at *
    generalize scL l (k * m) = S1 at *
    have NA := fun w F c h1 h2 => addLLR_any (.slice AS s.length cs) (.slice F S1.length c) s S1 w h1 h2
    generalize hq2 : combEL 1 s S1 = q2 at *
    clear hq2
    generalize hL2 : combLL 1 s S1 = L2 at *
    clear hL2
    go_upto_region 22 with (fail)
    refine wp_region_z 18 [12, 13, 14, 15, 16, 17] (fun x => Ext wo x) mixed rfl ?_
    intro va hva
    have HC := hva
    refine z_stills (g := 6) [0, 1, 2, 3, 4, 5, 6, 7, 8, 9, 10, 11] [_, _, _, _, _, _, _, _, _, _, _, _] ⟨rfl, rfl, rfl, rfl, rfl, rfl, rfl, rfl, rfl, rfl, rfl, rfl, trivial⟩ (by kernel_rfl) (by kernel_rfl) HC ?_
    simp only [zgA, zgB, zgC]
    apply Exists.intro
    refine ⟨fun u hu => ?_, ?_⟩
    ·have r0 := (hu.cell (p := ⟨b, off + i * 2, none⟩) hb).trans c0
     have r1 := (hu.cell (p := ⟨b, off + i * 2 + 1, none⟩) hb).trans c1
     have rl := Nat.lt_of_lt_of_le hb hu.size
     repeat (first | go_big_quiet_skip | (go_big_quiet_want; go_big_quiet_op; go_big_quiet_on))
     refine wpQuiet_nil ?_
     rfl
    refine z_end 12 rfl (by kernel_rfl) ?_
    simp only [zgA, zgB, zgC]
    go_wp2_with (go_at_call 56; (with_reducible refine Calls.mono (NS _ (hL.ext HC)) ?_); rintro e w4 ⟨F, y, c, rfl, h4, L4⟩; obtain rfl := lots_lenX L4)
    refine onQ_last ?_
    refine z_pures (g := 2) [13, 14, 15] [_, _, _] ⟨rfl, rfl, rfl, trivial⟩ (by kernel_rfl) (by kernel_rfl) ?_
    simp only [zgA, zgB, zgC]
    apply Exists.intro
    refine ⟨fun u hu => ?_, ?_⟩
    ·repeat (first | go_big_quiet_skip | (go_big_quiet_want; go_big_quiet_op; go_big_quiet_on))
     refine wpQuiet_nil ?_
     rfl
    refine z_end 16 rfl (by kernel_rfl) ?_
    simp only [zgA, zgB, zgC]
    go_wp2
    refine onQ_last ?_
    refine z_end 17 rfl (by kernel_rfl) ?_
    simp only [zgA, zgB, zgC]
    go_wp2
    refine onQ_last ?_
    refine z_done (by kernel_rfl) ?_
    skip
    replace h4 := HC.trans h4
    replace hE := hE.trans h4
    have S4 := hS.ext h4
    clear h4 hS NS c0 c1 hb hL
    by_cases e1 : q1 = 0
    rotate_left
    ·have e1f : (q1 == 0) = false := beq_eq_false_iff_ne.2 e1
     have e1n : (q1 != 0) = true := by rw [bne, e1f]; rfl
     have hr : Hid (R = ([], q1)) := by unfold Hid; rw [hrr.out, hst2.out, if_pos e1]
     clear hrr hst2 e1 hend
     go_wp2
     go_ret2
     exact ⟨_, by rw [hr.out]; rfl, hE, by rw [hr.out]; exact lotsAt_nil _⟩
    subst e1
    by_cases e2 : q2 = 0
    rotate_left
    ·have e2f : (q2 == 0) = false := beq_eq_false_iff_ne.2 e2
     have e2n : (q2 != 0) = true := by rw [bne, e2f]; rfl
     have hr : Hid (R = ([], q2)) := by unfold Hid; rw [hrr.out, hst2.out, if_neg (by decide), if_pos e2]
     clear hrr hst2 e2 hend
     go_wp2_with (go_at_call 57; (with_reducible refine Calls.mono (NA _ F c S4 L4) ?_); rintro e w5 ⟨F2, y2, c2, rfl, h5, L5⟩; obtain rfl := lots_lenX L5)
     go_ret2
     exact ⟨_, by rw [hr.out]; rfl, hE.trans h5, by rw [hr.out]; exact lotsAt_nil _⟩
    subst e2
    have hr : Hid (R = ratnS m L2 (L.drop (i + 1))) := by unfold Hid; rw [hrr.out, hst2.out, if_neg (by decide), if_neg (by decide)]
    clear hrr hst2 hend
    go_wp2_with (go_at_call 57; (with_reducible refine Calls.mono (NA _ F c S4 L4) ?_); rintro e w5 ⟨F2, y2, c2, rfl, h5, L5⟩; obtain rfl := lots_lenX L5)
    exact ⟨⟨i + 1, L2, by omega, by go_num, L5, hr, hE.trans h5⟩, by simp [intOf]; omega⟩
end Go.Proofs.YtneiofnlmblglaaGreatDoor
namespace Go.Proofs.YtneiofnlmblglaaGreatDoor
open Go Go.RowKit Go.Shelf
attribute [local go_sem] gv_yes
end Go.Proofs.YtneiofnlmblglaaGreatDoor
namespace Go.Proofs.YtneiofnlmblglaaGreatDoor
open Go Go.RowKit Go.Shelf
attribute [local go_sem] gv_yes
theorem flatL_congr {f f' : Nat → List Value} : ∀ k, (∀ i, i < k → f i = f' i) → flatL f k = flatL f' k
 | 0, _ => rfl
 | k + 1, h => by rw [flatL_succ, flatL_succ, flatL_congr k (fun i hi => h i (by omega)), h k (by omega)]
theorem own_apart {W : World} {b b' s1 s2 k1 k2 : Nat} {e1 e2 : TypeId} {v1 v2 : Value} {x1 x2 : List Value} (h1 : W.ownsRow b e1 s1 v1 k1 x1) (h2 : W.ownsRow b' e2 s2 v2 k2 x2) (hne : e1 ≠ e2) : v1.ownBlock = none ∨ v1.ownBlock ≠ v2.ownBlock := by
 cases hb : v1.ownBlock with
 | none => exact .inl rfl
 | some r =>
  refine .inr fun e => ?_
  obtain ⟨_, c1, g1⟩ := row_type h1 r hb
  obtain ⟨_, c2, g2⟩ := row_type h2 r e.symm
  rw [g1] at g2
  simp at g2
  exact hne g2.2
def LotsOwn (W : World) (b : Nat) (v : Value) (l : List Lt) : Prop := W.ownsRow b 68 2 v l.length (l.flatMap lcells)
/-- Deals in an own row, each with lots in an own row. -/
def DealsOwn (W : World) (b : Nat) (v : Value) (n : Nat) (g : Nat → Dl) : Prop := ∃ vs : Nat → Value, W.ownsRow b 70 7 v n (flatL (fun i => dealr (g i) (vs i)) n) ∧ ∀ i, i < n → LotsOwn W b (vs i) (g i).l
theorem DealsOwn.ext {W W' : World} {b n : Nat} {v : Value} {g : Nat → Dl} (h : DealsOwn W b v n g) (x : Ext W W') : DealsOwn W' b v n g := by
 obtain ⟨vs, h1, h2⟩ := h
 exact ⟨vs, owns_ext h1 x, fun i hi => owns_ext (h2 i hi) x⟩
theorem DealsOwn.le {W : World} {b b' n : Nat} {v : Value} {g : Nat → Dl} (h : DealsOwn W b v n g) (hb : b' ≤ b) : DealsOwn W b' v n g := by
 obtain ⟨vs, h1, h2⟩ := h
 exact ⟨vs, h1.mono hb, fun i hi => World.ownsRow.mono (h2 i hi) hb⟩
structure PerOwn (W : World) (b : Nat) (p : Pd) (vo vd vc : Value) : Prop where
 o : LotsOwn W b vo p.o
 d : DealsOwn W b vd p.d.length (fun i => p.d.getD i zDl)
 c : LotsOwn W b vc p.c
theorem PerOwn.ext {W W' : World} {b : Nat} {p : Pd} {vo vd vc : Value} (h : PerOwn W b p vo vd vc) (x : Ext W W') : PerOwn W' b p vo vd vc := ⟨owns_ext h.o x, h.d.ext x, owns_ext h.c x⟩
theorem PerOwn.le {W : World} {b b' : Nat} {p : Pd} {vo vd vc : Value} (h : PerOwn W b p vo vd vc) (hb : b' ≤ b) : PerOwn W b' p vo vd vc := ⟨own_le h.o hb, h.d.le hb, own_le h.c hb⟩
theorem DealsOwn.set {W : World} {bb : Nat} {t : TypeId} {cs : Array Value} (hB : Held W bb t cs) (h1 : t ≠ 68) (h2 : t ≠ 70) {b n : Nat} {v : Value} {g : Nat → Dl} (h : DealsOwn W b v n g) (j : Nat) (u : Value) : DealsOwn (W.setCell ⟨bb, j, none⟩ u) b v n g := by
 obtain ⟨vs, g1, g2⟩ := h
 exact ⟨vs, own_setT hB h2 g1 j u, fun i hi => own_setT hB h1 (g2 i hi) j u⟩
end Go.Proofs.YtneiofnlmblglaaGreatDoor
namespace Go.Proofs.YtneiofnlmblglaaGreatDoor
end Go.Proofs.YtneiofnlmblglaaGreatDoor
namespace Go.Proofs.YtneiofnlmblglaaGreatDoor
def sA : ByteArray := ⟨#[97]⟩
def sB : ByteArray := ⟨#[98]⟩
def sC : ByteArray := ⟨#[99]⟩
def sU8 : ByteArray := ⟨#[117, 114]⟩
def sBar : ByteArray := ⟨#[98, 97, 114, 108, 101, 121]⟩
def yr8 : Nat → Yr
 | 0 => ⟨0, sA, 4095, 0⟩
 | 1 => ⟨0, sB, 4095, 0⟩
 | _ => ⟨0, sC, 4095, 0⟩
def cal8 : Cal := ⟨1, fun _ => sU8, 3, yr8⟩
def l8 : Ln := ⟨⟨60, 1⟩, ⟨1, 5⟩, ⟨0, 1, false, 1⟩⟩
def p8 : Nat → Pay := fun _ => ⟨⟨0, 7, false, 1⟩, ⟨10, 1⟩⟩
def d8 : Dt := ⟨1, 7, false, 1⟩
def t8 : Nat → Tk
 | 0 => ⟨⟨10, 1⟩, ⟨1, 3⟩⟩
 | _ => ⟨⟨5, 1⟩, ⟨1, 1⟩⟩
def f8 : Dt := ⟨0, 1, false, 1⟩
def u8' : Dt := ⟨0, 1, false, 30⟩
def w8 : Nat → Cw := fun _ => ⟨2, ⟨1, 2⟩, f8, u8'⟩
def h8 : Hrd := ⟨10, 2, 5⟩
def pd8 : Pd := ⟨sA, f8, u8', [⟨sBar, 10⟩], [⟨⟨0, 1, false, 2⟩, true, sB, [⟨sBar, 5⟩]⟩, ⟨⟨0, 1, false, 2⟩, false, sB, [⟨sBar, 20⟩]⟩], []⟩
theorem e8_int : intV ⟨60, 1⟩ ⟨1, 5⟩ 180 = (⟨6, 1⟩, 0) := by kernel_rfl
theorem e8_dbl : dblV ⟨1, 3⟩ = (1080, 0) := by kernel_rfl
theorem e8_owed : cal8.owedV l8 p8 1 d8 = (⟨⟨56, 1⟩, ⟨56, 5⟩, ⟨0, 1⟩⟩, 0) := by kernel_rfl
theorem e8_settle : cal8.settleV l8 p8 1 d8 = (⟨336, 5⟩, 0) := by kernel_rfl
theorem e8_bal : cal8.balV t8 2 w8 1 = (⟨-5, 1⟩, 0) := by kernel_rfl
theorem e8_few : cal8.fewV t8 2 ⟨1, 2⟩ f8 u8' = (3, 0) := by kernel_rfl
theorem e8_grow : growV h8 ⟨4, 5⟩ ⟨1, 10⟩ 1 = (⟨12, 4, 7⟩, 0) := by kernel_rfl
theorem e8_close : cal8.closeV pd8 = ([⟨sBar, -5⟩], 0) := by kernel_rfl
end Go.Proofs.YtneiofnlmblglaaGreatDoor
namespace Go.Proofs.YtneiofnlmblglaaGreatDoor
open Go Go.RowKit Go.Shelf
attribute [local go_sem] gv_yes
attribute [local go_sem high] neq_lot
theorem rows_heldV {w : World} {b : Nat} {t : TypeId} {cs : Array Value} {n sz : Nat} {f : Nat → List Value} (h : Held w b t cs) (hf : ∀ i j v, i < n → (f i)[j]? = some v → cs[i * sz + j]? = some v) : RowsAt w (some ⟨b, 0, none⟩) n sz f :=
 fun _ => ⟨b, 0, rfl, h.lt, fun i j v hi hv => by rw [Nat.zero_add, h.cell]; exact hf i j v hi hv⟩
theorem q_any (n d : Int) (w : World) :
  Calls Tryz.prog 35 #[.int .i64 n, .int .i64 d] w fun e w' => e = .returned (.agg #[.int .i64 n, .int .i64 d]) ∧ Ext w w' := by
 go_enter Tryz.func35, Tryz.ntmps35
 go_wp2
 refine bodyPost_ret (v := .agg #[.int .i64 n, .int .i64 d]) (by simp [results, Tryz.results35, go_sem]) rfl ⟨rfl, (by repeat (first | exact Ext.refl _ | (refine Ext.alloc ?_ _) | (refine Ext.trans ?_ (by assumption))))⟩
theorem on_any (y m d : Int) (w : World) :
  Calls Tryz.prog 39 #[.int .i64 y, .int .i64 m, .int .i64 d] w fun e w' => e = .returned (.agg #[.int .i64 y, .int .i64 m, .bool false, .int .i64 d]) ∧ Ext w w' := by
 go_enter Tryz.func39, Tryz.ntmps39
 go_wp2
 refine bodyPost_ret (v := .agg #[.int .i64 y, .int .i64 m, .bool false, .int .i64 d]) (by simp [results, Tryz.results39, go_sem]) rfl ⟨rfl, (by repeat (first | exact Ext.refl _ | (refine Ext.alloc ?_ _) | (refine Ext.trans ?_ (by assumption))))⟩
theorem lot_any (s : ByteArray) (n : Int) (w : World) :
  Calls Tryz.prog 44 #[.string s, .int .i64 n] w fun e w' => ∃ b, e = .returned (.slice (some ⟨b, 0, none⟩) 1 1) ∧ Ext w w' ∧ LotsAt w' (.slice (some ⟨b, 0, none⟩) 1 1) [⟨s, n⟩] := by
 go_enter Tryz.func44, Tryz.ntmps44
 go_wp2
 go_ret
 refine ⟨w.heap.size, rfl, (by repeat (first | exact Ext.refl _ | (refine Ext.alloc ?_ _) | (refine Ext.trans ?_ (by assumption)))), some ⟨w.heap.size, 0, none⟩, 1, rfl, ?_, Nat.le_refl _, by decide, fun h => (by cases h)⟩
 refine rows_heldV (t := 68) (cs := #[.string s, .int .i64 n]) (by repeat (first | (refine Held.at _ _ _ _ ?_; (simp; done)) | refine Held.alloc ?_ _)) ?_
 intro i j v hi hv
 obtain rfl : i = 0 := by simp at hi; omega
 have hj : j < 2 := (List.getElem?_eq_some_iff.1 hv).1
 rw [← hv]
 have : j = 0 ∨ j = 1 := by omega
 rcases this with rfl | rfl <;> rfl
theorem calendar8_any (w : World) :
  Calls Tryz.prog 33 #[] w fun e w' => ∃ A A' ca cb, e = .returned (.agg #[.slice A 1 ca, .slice A' 3 cb]) ∧ Ext w w' ∧ CalAt w' A ca A' cb cal8 := by
 go_enter Tryz.func33, Tryz.ntmps33
 go_wp2
 refine bodyPost_ret (v := .agg #[.slice (some ⟨w.heap.size + 1, 0, none⟩) 1 1, .slice (some ⟨w.heap.size + 1 + 1, 0, none⟩) 3 3]) (by simp [results, Tryz.results33, go_sem]) rfl ⟨_, _, _, _, rfl, (by repeat (first | exact Ext.refl _ | (refine Ext.alloc ?_ _) | (refine Ext.trans ?_ (by assumption)))), ⟨?_, ?_, by decide, by decide, by decide, by decide⟩⟩
 ·refine rows_heldV (t := 9) (cs := #[.string sU8]) (by repeat (first | (refine Held.at _ _ _ _ ?_; (simp; done)) | refine Held.alloc ?_ _)) ?_
  intro i j v hi hv
  have hi : i < 1 := hi
  have hj : j < 1 := (List.getElem?_eq_some_iff.1 hv).1
  rw [← hv]
  obtain rfl : i = 0 := by omega
  obtain rfl : j = 0 := by omega
  rfl
 ·refine rows_heldV (t := 119) (cs := #[.int .i64 0, .string sA, .int .i64 4095, .int .i64 0, .int .i64 0, .string sB, .int .i64 4095, .int .i64 0, .int .i64 0, .string sC, .int .i64 4095, .int .i64 0]) (by repeat (first | (refine Held.at _ _ _ _ ?_; (simp; done)) | refine Held.alloc ?_ _)) ?_
  intro i j v hi hv
  have hi : i < 3 := hi
  have hj : j < 4 := (List.getElem?_eq_some_iff.1 hv).1
  rw [← hv]
  have h1 : i = 0 ∨ i = 1 ∨ i = 2 := by omega
  have h2 : j = 0 ∨ j = 1 ∨ j = 2 ∨ j = 3 := by omega
  rcases h1 with rfl | rfl | rfl <;> rcases h2 with rfl | rfl | rfl | rfl <;> rfl
theorem held8_all {W : World} {b : Nat} {t : TypeId} {v0 v1 v2 v3 v4 v5 v6 v7 : Value} (h : Held W b t #[v0, v1, v2, v3, v4, v5, v6, v7]) (u0 u1 u2 u3 u4 u5 u6 u7 : Value) : Held ((((((((W.setCell ⟨b, 0, none⟩ u0).setCell ⟨b, 1, none⟩ u1).setCell ⟨b, 2, none⟩ u2).setCell ⟨b, 3, none⟩ u3).setCell ⟨b, 4, none⟩ u4).setCell ⟨b, 5, none⟩ u5).setCell ⟨b, 6, none⟩ u6).setCell ⟨b, 7, none⟩ u7) b t #[u0, u1, u2, u3, u4, u5, u6, u7] := by unfold Held at h ⊢; simp [World.setCell, Array.getElem?_modify, h]
theorem ext8 {W0 W : World} {b : Nat} (h : Ext W0 W) (hb : W0.heap.size ≤ b) (u0 u1 u2 u3 u4 u5 u6 u7 : Value) : Ext W0 ((((((((W.setCell ⟨b, 0, none⟩ u0).setCell ⟨b, 1, none⟩ u1).setCell ⟨b, 2, none⟩ u2).setCell ⟨b, 3, none⟩ u3).setCell ⟨b, 4, none⟩ u4).setCell ⟨b, 5, none⟩ u5).setCell ⟨b, 6, none⟩ u6).setCell ⟨b, 7, none⟩ u7) :=
 (((((((h.setCell (p := ⟨b, 0, none⟩) hb u0).setCell (p := ⟨b, 1, none⟩) hb u1).setCell (p := ⟨b, 2, none⟩) hb u2).setCell (p := ⟨b, 3, none⟩) hb u3).setCell (p := ⟨b, 4, none⟩) hb u4).setCell (p := ⟨b, 5, none⟩) hb u5).setCell (p := ⟨b, 6, none⟩) hb u6).setCell (p := ⟨b, 7, none⟩) hb u7
theorem held8_oth {W : World} {b b' : Nat} {t : TypeId} {cs : Array Value} (h : Held W b t cs) (hne : b ≠ b') (u0 u1 u2 u3 u4 u5 u6 u7 : Value) : Held ((((((((W.setCell ⟨b', 0, none⟩ u0).setCell ⟨b', 1, none⟩ u1).setCell ⟨b', 2, none⟩ u2).setCell ⟨b', 3, none⟩ u3).setCell ⟨b', 4, none⟩ u4).setCell ⟨b', 5, none⟩ u5).setCell ⟨b', 6, none⟩ u6).setCell ⟨b', 7, none⟩ u7) b t cs :=
 held_oth (held_oth (held_oth (held_oth (held_oth (held_oth (held_oth (held_oth h hne 0 u0) hne 1 u1) hne 2 u2) hne 3 u3) hne 4 u4) hne 5 u5) hne 6 u6) hne 7 u7
theorem loan8_any (w : World) :
  Calls Tryz.prog 37 #[] w fun e w' => ∃ b, e = .returned (.tuple #[.agg #[.int .i64 60, .int .i64 1, .int .i64 1, .int .i64 5, .int .i64 0, .int .i64 1, .bool false, .int .i64 1], .slice (some ⟨b, 0, none⟩) 1 1]) ∧ Ext w w' ∧ RowsAt w' (some ⟨b, 0, none⟩) 1 6 (payr p8) := by
 go_enter Tryz.func37, Tryz.ntmps37
 go_upto_region 1 with (fail)
 obtain ⟨v, hv⟩ := zgE (w.alloc (.cells #[.int .i64 0, .int .i64 0, .int .i64 0, .int .i64 0, .int .i64 0, .int .i64 0, .bool false, .int .i64 0] 80))
 rw [← hv]
 have E : Ext w v := by rw [hv]; exact (Ext.refl _).alloc _
 have B1 : Held v w.heap.size 80 #[.int .i64 0, .int .i64 0, .int .i64 0, .int .i64 0, .int .i64 0, .int .i64 0, .bool false, .int .i64 0] := by rw [hv]; exact Held.new _ _ _
 clear hv
 obtain ⟨b1, hb1⟩ := zgE (w.heap.size)
 rw [← hb1] at B1 ⊢
 have hbr : w.heap.size ≤ b1 := by omega
 clear hb1
 go_wp2_with (first | (go_at_call 35; (with_reducible refine Calls.mono (q_any 10 1 _) ?_); rintro e wa ⟨rfl, hx⟩; replace E := E.trans hx; replace B1 := B1.ext hx; clear hx; have BA := B1.alloc (.cells #[.int .i64 0, .int .i64 7, .bool false, .int .i64 1, .int .i64 10, .int .i64 1] 127); have z0 := BA.frozen 0; have z1 := BA.frozen 1; have z2 := BA.frozen 2; have z3 := BA.frozen 3; have z4 := BA.frozen 4; have z5 := BA.frozen 5; have z6 := BA.frozen 6; have z7 := BA.frozen 7; obtain ⟨x0, x1, x2, x3, x4, x5, x6, x7⟩ := BA.c8; have lx := BA.lt) | (go_at_call 35; (with_reducible refine Calls.mono (q_any _ _ _) ?_); rintro e wa ⟨rfl, hx⟩; replace E := E.trans hx; replace B1 := B1.ext hx; clear hx) | (go_at_call 39; (with_reducible refine Calls.mono (on_any _ _ _ _) ?_); rintro e wa ⟨rfl, hx⟩; replace E := E.trans hx; replace B1 := B1.ext hx; clear hx))
 have H8 := held8_all (B1.alloc (.cells #[.int .i64 0, .int .i64 7, .bool false, .int .i64 1, .int .i64 10, .int .i64 1] 127)) (.int .i64 60) (.int .i64 1) (.int .i64 1) (.int .i64 5) (.int .i64 0) (.int .i64 1) (.bool false) (.int .i64 1)
 have E8 := ext8 (E.alloc (.cells #[.int .i64 0, .int .i64 7, .bool false, .int .i64 1, .int .i64 10, .int .i64 1] 127)) hbr (.int .i64 60) (.int .i64 1) (.int .i64 1) (.int .i64 5) (.int .i64 0) (.int .i64 1) (.bool false) (.int .i64 1)
 have P8 := held8_oth (Held.new wa 127 #[.int .i64 0, .int .i64 7, .bool false, .int .i64 1, .int .i64 10, .int .i64 1]) (show wa.heap.size ≠ b1 by have := B1.lt; omega) (.int .i64 60) (.int .i64 1) (.int .i64 1) (.int .i64 5) (.int .i64 0) (.int .i64 1) (.bool false) (.int .i64 1)
 obtain ⟨y0, y1, y2, y3, y4, y5, y6, y7⟩ := H8.c8
 refine bodyPost_ret (v := .tuple #[.agg #[.int .i64 60, .int .i64 1, .int .i64 1, .int .i64 5, .int .i64 0, .int .i64 1, .bool false, .int .i64 1], .slice (some ⟨wa.heap.size, 0, none⟩) 1 1]) (by simp [results, Tryz.results37, go_sem, y0, y1, y2, y3, y4, y5, y6, y7]) rfl ⟨_, rfl, E8, ?_⟩
 refine rows_heldV P8 ?_
 intro i j v hi hv
 obtain rfl : i = 0 := by omega
 have hj : j < 6 := (List.getElem?_eq_some_iff.1 hv).1
 rw [← hv]
 have : j = 0 ∨ j = 1 ∨ j = 2 ∨ j = 3 ∨ j = 4 ∨ j = 5 := by omega
 rcases this with rfl | rfl | rfl | rfl | rfl | rfl <;> rfl
theorem sameL_any (v1 v2 : Value) (a b : List Lt) (w : World) (h1 : LotsAt w v1 a) (h2 : LotsAt w v2 b) :
  Calls Tryz.prog 45 #[v1, v2] w fun e w' => e = .returned (.bool (decide (a = b))) ∧ Ext w w' := by
 obtain ⟨A, ca, rfl, hA, hca, hca', _⟩ := h1
 obtain ⟨B, cb, rfl, hB, hcb, hcb', _⟩ := h2
 obtain ⟨R, hR0⟩ := zgE (decide (a = b))
 rw [← hR0]
 have HR := Lib.hid hR0
 clear hR0
 by_cases hn : a.length = b.length
 ·have HL := Lib.hid hn
  obtain ⟨n, hnl⟩ := zgE (a.length)
  rw [← hn] at hcb hB ⊢
  rw [← hnl] at hca hcb hA hB ⊢
  have h63 : n ≤ 9223372036854775807 := Nat.le_trans hca (Nat.le_trans hca' (by decide))
  replace hnl := Lib.hid hnl
  have hno : Hid (∀ k, k < n → ofL a k ≠ ofL b k → R = false) := fun k hk h => by
   rw [HR.out]; exact decide_eq_false fun e => h (by rw [e])
  have hyes : Hid ((∀ k, k < n → ofL a k = ofL b k) → R = true) := fun h => by
   rw [HR.out]
   refine decide_eq_true (List.ext_getElem HL.out fun i h1 h2 => ?_)
   have := h i (by rw [hnl.out]; exact h1)
   rwa [ofL_get h1, ofL_get h2] at this
  clear HR HL hn hnl hca' hcb' hca hcb
  generalize ofL a = f at *
  generalize ofL b = g at *
  go_enter Tryz.func45, Tryz.ntmps45
  go_wp2
  go_loopw [5] (fun i wr => ∃ k : Nat, k ≤ n ∧ i = .int .i64 k ∧ Hid (∀ j, j < k → f j = g j) ∧ Ext w wr) (fun i _ => n - (intOf i).toNat)
  case atStart => exact ⟨0, Nat.zero_le _, rfl, (fun i hi => absurd hi (by omega)), Ext.refl _⟩
  case round =>
   obtain ⟨k, hk, rfl, hp, hE⟩ := hrel
   obtain ⟨wo, rfl⟩ := zgE wr
   by_cases hlt : k < n
   ·obtain ⟨b1, o1, rfl, hb, hc⟩ := (hA.ext hE) (by omega)
    obtain ⟨b2, o2, rfl, hb', hd⟩ := (hB.ext hE) (by omega)
    have c0 : wo.cell? ⟨b1, o1 + k * 2, none⟩ = some (.string (f k).g) := by simpa [lotr] using hc k 0 _ hlt rfl
    have c1 : wo.cell? ⟨b1, o1 + k * 2 + 1, none⟩ = some (.int .i64 (f k).n) := by simpa [lotr] using hc k 1 _ hlt rfl
    have d0 : wo.cell? ⟨b2, o2 + k * 2, none⟩ = some (.string (g k).g) := by simpa [lotr] using hd k 0 _ hlt rfl
    have d1 : wo.cell? ⟨b2, o2 + k * 2 + 1, none⟩ = some (.int .i64 (g k).n) := by simpa [lotr] using hd k 1 _ hlt rfl
    have hq : Hid ((((f k).g.toList == (g k).g.toList) && ((f k).n == (g k).n)) = decide (f k = g k)) := by
     unfold Hid
     rw [← same_eq, Bool.eq_iff_iff]
     simp only [Bool.and_eq_true, decide_eq_true_eq, beq_iff_eq]
     constructor
     ·rintro ⟨e1, e2⟩
      cases hf : f k; cases hg : g k
      rw [hf, hg] at e1 e2
      simp_all
     ·intro e; rw [e]; exact ⟨rfl, rfl⟩
    have hs : Hid (f k = g k → ∀ j, j < k + 1 → f j = g j) := fun e j hj => by
     by_cases h : j = k
     ·subst h; exact e
     ·exact hp.out j (by omega)
    have hnk := Lib.hid (hno.out k hlt)
    clear hc hd hA hB hp
    generalize f k = x at *
    generalize g k = y at *
    go_upto_region 6 with (fail)
    clear hno hyes
    generalize hg1 : (x.g.toList == y.g.toList) = e1 at *
    generalize hg2 : (x.n == y.n) = e2 at *
    by_cases hxy : x = y
    ·obtain ⟨rfl, rfl⟩ : e1 = true ∧ e2 = true := by
      have h := hq.out
      rw [decide_eq_true hxy] at h
      simpa using h
     have hp' := Lib.hid (hs.out hxy)
     clear hs hq hnk hxy
     refine wp_region_xw wo mixed (by kernel_rfl) (by repeat (first | exact Ext.refl _ | (refine Ext.alloc ?_ _) | (refine Ext.trans ?_ (by assumption)))) ?_
     intro hne hrx hry
     try simp only []
     try simp only [List.append_eq, List.cons_append, List.nil_append]
     skip
     repeat (first
      | go_big_quiet_skip
      | (go_big_quiet_want; go_big_quiet_op; go_big_quiet_on))
     clear hne hry hrx
     refine wpQuiet_nil ?_
     intro wn hwn
     obtain ⟨hcwn, hfwn, hzwn⟩ := Ext.rules hwn
     try simp only [World.size_alloc] at hzwn
     obtain ⟨hcbwn, hfbwn, hzbwn⟩ := Ext.rules (show Ext wo wn from (by repeat (first | exact Ext.refl _ | (refine Ext.alloc ?_ _) | (refine Ext.trans ?_ (by assumption)))))
     clear hcwn hfwn
     go_wp2
     exact ⟨⟨k + 1, by omega, by go_num, hp', hE.trans hwn⟩, by simp [intOf]; omega⟩
    ·have hr := hnk.out hxy
     have h : e1 = false ∨ (e1 = true ∧ e2 = false) := by
      have h := hq.out
      rw [decide_eq_false hxy] at h
      cases e1 <;> simp_all
     clear hs hq hnk hxy
     rcases h with rfl | ⟨rfl, rfl⟩
     ·skip
      refine wp_region_xw wo mixed (by kernel_rfl) (by repeat (first | exact Ext.refl _ | (refine Ext.alloc ?_ _) | (refine Ext.trans ?_ (by assumption)))) ?_
      intro hne hrx hry
      try simp only []
      try simp only [List.append_eq, List.cons_append, List.nil_append]
      skip
      repeat (first
       | go_big_quiet_skip
       | (go_big_quiet_want; go_big_quiet_op; go_big_quiet_on))
      clear hne hry hrx
      refine wpQuiet_nil ?_
      intro wn hwn
      obtain ⟨hcwn, hfwn, hzwn⟩ := Ext.rules hwn
      try simp only [World.size_alloc] at hzwn
      obtain ⟨hcbwn, hfbwn, hzbwn⟩ := Ext.rules (show Ext wo wn from (by repeat (first | exact Ext.refl _ | (refine Ext.alloc ?_ _) | (refine Ext.trans ?_ (by assumption)))))
      clear hcwn hfwn
      go_wp2
      go_ret
      exact ⟨by rw [hr]; rfl, hE.trans hwn⟩
     ·skip
      refine wp_region_xw wo mixed (by kernel_rfl) (by repeat (first | exact Ext.refl _ | (refine Ext.alloc ?_ _) | (refine Ext.trans ?_ (by assumption)))) ?_
      intro hne hrx hry
      try simp only []
      try simp only [List.append_eq, List.cons_append, List.nil_append]
      skip
      repeat (first
       | go_big_quiet_skip
       | (go_big_quiet_want; go_big_quiet_op; go_big_quiet_on))
      clear hne hry hrx
      refine wpQuiet_nil ?_
      intro wn hwn
      obtain ⟨hcwn, hfwn, hzwn⟩ := Ext.rules hwn
      try simp only [World.size_alloc] at hzwn
      obtain ⟨hcbwn, hfbwn, hzbwn⟩ := Ext.rules (show Ext wo wn from (by repeat (first | exact Ext.refl _ | (refine Ext.alloc ?_ _) | (refine Ext.trans ?_ (by assumption)))))
      clear hcwn hfwn
      go_wp2
      go_ret
      exact ⟨by rw [hr]; rfl, hE.trans hwn⟩
   ·obtain rfl : k = n := by omega
    have hr := hyes.out hp.out
    clear hyes hno
    go_wp2
    go_ret
    exact ⟨by rw [hr]; rfl, hE⟩
 ·have hne : ((a.length : Int) == (b.length : Int)) = false := beq_eq_false_iff_ne.2 (by omega)
  have hnn : ((a.length : Int) != (b.length : Int)) = true := by rw [bne, hne]; rfl
  have hr : R = false := by rw [HR.out]; exact decide_eq_false fun e => hn (by rw [e])
  clear hn HR
  go_enter Tryz.func45, Tryz.ntmps45
  go_wp2
  go_ret
  exact ⟨by rw [hr]; rfl, Ext.refl _⟩
end Go.Proofs.YtneiofnlmblglaaGreatDoor

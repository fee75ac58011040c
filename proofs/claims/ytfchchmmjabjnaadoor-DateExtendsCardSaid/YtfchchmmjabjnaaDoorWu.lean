/- The walk of Series. -/
import Derived.Test.YtfchchmmjabjnaaDoorWt
import Derived.Deep.OwnRows
import Derived.Laws.MakeOwn
namespace Go.Proofs.YtfchchmmjabjnaaDoor
open Go Go.RowKit Go.Shelf
attribute [local go_sem] gv_yes

/-! ### The earliest and the latest days -/
def firstFrom : List Sp → Int → Int
  | [], _ => 0
  | s :: l, e => if e ≤ s.b then max s.a e else firstFrom l e
def lastTo (e : Int) (l : List Sp) : Int := l.foldl (fun acc s => if s.a ≤ e then min s.b e else acc) 0
def early (sp : Nat → List Sp) : Nat → Int
  | 0 => 1
  | k + 1 => firstFrom (sp k) (early sp k)
def lateD (sp : Nat → List Sp) (n : Nat) : Nat → Int
  | 0 => 156000
  | j + 1 => lastTo (lateD sp n j) (sp (n - 1 - j))
def late (sp : Nat → List Sp) (n i : Nat) : Int := lateD sp n (n - i)
def serFail (sp : Nat → List Sp) (n : Nat) : Bool := (List.range n).any fun k => decide (early sp (k + 1) = 0)
def serOk (f : Nat → Tr) (n : Nat) : Bool := (List.range n).all fun k => (f k).ok
def Cal.serE (c : Cal) (f : Nat → Tr) (n : Nat) : Int :=
  if c.valid then (if 64 < n then 3 else if serOk f n then (if serFail (fun i => c.spans (f i)) n then 73 else 0) else 72) else 70
def serL (sp : Nat → List Sp) (n : Nat) : List Sp := (List.range n).map fun i => ⟨early sp (i + 1), late sp n i⟩
def Cal.serV (c : Cal) (f : Nat → Tr) (n : Nat) : List Sp := if c.serE f n = 0 then serL (fun i => c.spans (f i)) n else []

theorem run_make_cells {P : Program} (t e : TypeId) (i : TypeInfo) (z : Value) (ht : P.underlying t = some (.slice e)) (hi : P.info? e = some i) (hz : i.zero = some z)
    (kl kc : IntKind) (n : Nat) (hbytes : i.bytes * n ≤ 281474976710656) (h63 : n ≤ 9223372036854775807) (w : World) :
    (Instr.makeSlice t (.int kl (n : Int)) (.int kc (n : Int))).run P w = .ok (.slice (some ⟨w.heap.size, 0, none⟩) n n) (w.alloc (.cells (madeCells z.cells (n * i.size)) e)) := by
  have h : ((i.bytes * n : Nat) : Int) ≤ 281474976710656 := by omega
  rw [Int.natCast_mul] at h
  have hr := run_make (P := P) w t e i z ht hi hz kl kc n n (by omega) (Int.le_refl _) h (by omega)
  simpa only [Int.toNat_natCast] using hr
theorem info_spans : (Tryd.prog.info? 28).map (fun i => (i.zero, i.size, i.bytes)) = some (some (.slice none 0 0), 1, 24) := by kernel_rfl
theorem Tr.row {w : World} {B : Option Addr} {n : Nat} {f : Nat → Tr} (h : RowsAt w B n 7 (fun i => (f i).cells)) {k : Nat} (hk : k < n) :
    ∃ b off, B = some ⟨b, off, none⟩ ∧ b < w.heap.size ∧ w.cell? ⟨b, off + k * 7, none⟩ = some (.int .i64 (f k).d) ∧ w.cell? ⟨b, off + k * 7 + 1, none⟩ = some (.bool (f k).more) ∧ w.cell? ⟨b, off + k * 7 + 2, none⟩ = some (.int .i64 (f k).m) ∧ w.cell? ⟨b, off + k * 7 + 3, none⟩ = some (.bool (f k).s) ∧
      w.cell? ⟨b, off + k * 7 + 4, none⟩ = some (.string (f k).nm) ∧ w.cell? ⟨b, off + k * 7 + 5, none⟩ = some (.int .i64 (f k).af) ∧ w.cell? ⟨b, off + k * 7 + 6, none⟩ = some (.string (f k).kg) := by
  obtain ⟨b, off, hB, hb, hc⟩ := h (by omega)
  exact ⟨b, off, hB, hb, by simpa using hc k 0 _ hk rfl, hc k 1 _ hk rfl, hc k 2 _ hk rfl, hc k 3 _ hk rfl, hc k 4 _ hk rfl, hc k 5 _ hk rfl, hc k 6 _ hk rfl⟩
def OksTo (f : Nat → Tr) (k : Nat) : Prop := ∀ i, i < k → (f i).ok = true
theorem serOk_no {f : Nat → Tr} {n k : Nat} (hk : k < n) (h : (f k).ok = false) : serOk f n = false := by
  rw [serOk, List.all_eq_false]; exact ⟨k, by simpa using hk, by simp [h]⟩
theorem serOk_yes {f : Nat → Tr} {n : Nat} (h : OksTo f n) : serOk f n = true := by
  rw [serOk, List.all_eq_true]; intro i hi; exact h i (by simpa using hi)
theorem ownsRow_ext {w w' : World} {base size n : Nat} {e : TypeId} {v : Value} {xs : List Value} (h : w.ownsRow base e size v n xs) (x : Ext w w') : w'.ownsRow base e size v n xs := h.kept (grown_of_ext x) (by
  rcases h.2 with ⟨rfl, _⟩ | ⟨g, cap, cur, rfl, _⟩
  · exact .inl rfl
  · exact .inr (by simp [Value.ownBlock]))
/-- The cells of n spans. -/
def outF (F L : Nat → Int) (j : Nat) : Value := if j % 2 = 0 then .int .i64 (F (j / 2)) else .int .i64 (L (j / 2))
theorem rowIs_madeSpan (w : World) (n : Nat) : (w.alloc (.cells (madeCells #[.int .i64 0, .int .i64 0] (n * 2)) 52)).rowIs w.heap.size 52 (n * 2) (outF (fun _ => 0) (fun _ => 0)) := by
  have h := World.rowIs_alloc w (madeCells #[.int .i64 0, .int .i64 0] (n * 2)) 52 (outF (fun _ => 0) (fun _ => 0)) (fun i hi => by
    rw [size_madeCells] at hi
    have h2 : i % 2 = 0 ∨ i % 2 = 1 := by omega
    rcases h2 with h2 | h2 <;> simp [madeCells, hi, outF, h2])
  rwa [size_madeCells] at h
theorem outF_first (F L : Nat → Int) (i : Nat) : outF F L (i * 2) = .int .i64 (F i) := by
  unfold outF; rw [if_pos (by omega), show i * 2 / 2 = i by omega]
theorem outF_last (F L : Nat → Int) (i : Nat) : outF F L (i * 2 + 1) = .int .i64 (L i) := by
  unfold outF; rw [if_neg (by omega), show (i * 2 + 1) / 2 = i by omega]
theorem rowIs_first {w : World} {b : Nat} {t : TypeId} {n : Nat} {F L : Nat → Int} (h : w.rowIs b t (n * 2) (outF F L)) (i : Nat) (v : Int) : (w.setCell ⟨b, i * 2, none⟩ (.int .i64 v)).rowIs b t (n * 2) (outF (fun j => if j = i then v else F j) L) :=
  (h.set (i * 2) (.int .i64 v)).congr fun j _ => by
    unfold outF
    by_cases e : j = i * 2
    · subst e; rw [if_pos rfl, if_pos (by omega)]; dsimp only; rw [if_pos (by omega)]
    · rw [if_neg e]
      by_cases h2 : j % 2 = 0
      · rw [if_pos h2, if_pos h2]; dsimp only; rw [if_neg (by omega)]
      · rw [if_neg h2, if_neg h2]
theorem rowIs_last {w : World} {b : Nat} {t : TypeId} {n : Nat} {F L : Nat → Int} (h : w.rowIs b t (n * 2) (outF F L)) (i : Nat) (v : Int) : (w.setCell ⟨b, i * 2 + 1, none⟩ (.int .i64 v)).rowIs b t (n * 2) (outF F (fun j => if j = i then v else L j)) :=
  (h.set (i * 2 + 1) (.int .i64 v)).congr fun j _ => by
    unfold outF
    by_cases e : j = i * 2 + 1
    · subst e; rw [if_pos rfl, if_neg (by omega)]; dsimp only; rw [if_pos (by omega)]
    · rw [if_neg e]
      by_cases h2 : j % 2 = 0
      · rw [if_pos h2, if_pos h2]
      · rw [if_neg h2, if_neg h2]; dsimp only; rw [if_neg (by omega)]
def NoFail (sp : Nat → List Sp) (k : Nat) : Prop := ∀ j, j < k → early sp (j + 1) ≠ 0
def Before (l : List Sp) (e : Int) (m : Nat) : Prop := ∀ j, j < m → (l.getD j ⟨0, 0⟩).b < e
theorem before_snoc {l : List Sp} {e : Int} {m : Nat} (h : Before l e m) (hm : (l.getD m ⟨0, 0⟩).b < e) : Before l e (m + 1) := fun j hj => by
  rcases Nat.lt_or_ge j m with h' | h'
  · exact h j h'
  · rw [show j = m from by omega]; exact hm
theorem firstFrom_none {e : Int} : ∀ {l : List Sp}, Before l e l.length → firstFrom l e = 0
  | [], _ => rfl
  | s :: l, h => by
    have h0 := h 0 (by simp)
    simp only [List.getD_cons_zero] at h0
    rw [firstFrom, if_neg (by omega)]
    exact firstFrom_none (fun j hj => by have := h (j + 1) (by simp; omega); simpa using this)
theorem firstFrom_here {e : Int} : ∀ {l : List Sp} {m : Nat}, m < l.length → Before l e m → e ≤ (l.getD m ⟨0, 0⟩).b → firstFrom l e = max (l.getD m ⟨0, 0⟩).a e
  | s :: l, 0, _, _, he => by
    simp only [List.getD_cons_zero] at he ⊢
    rw [firstFrom, if_pos he]
  | s :: l, m + 1, hm, hB, he => by
    have h0 := hB 0 (by omega)
    simp only [List.getD_cons_zero] at h0
    rw [firstFrom, if_neg (by omega)]
    simp only [List.getD_cons_succ] at he ⊢
    exact firstFrom_here (by simpa using hm) (fun j hj => by have := hB (j + 1) (by omega); simpa using this) he
theorem spans_cell {w : World} {A : Option Addr} {cap m : Nat} {l : List Sp} (h : SpansAt w (.slice A l.length cap) l) (hm : m < l.length) :
    ∃ b off, A = some ⟨b, off, none⟩ ∧ b < w.heap.size ∧ w.cell? ⟨b, off + m * 2, none⟩ = some (.int .i64 (l.getD m ⟨0, 0⟩).a) ∧ w.cell? ⟨b, off + m * 2 + 1, none⟩ = some (.int .i64 (l.getD m ⟨0, 0⟩).b) := by
  obtain ⟨A', cap', e, hr, _, _⟩ := h
  injection e with e1 e2 e3
  subst e1
  obtain ⟨b, off, hA, hb, hc⟩ := hr (by omega)
  exact ⟨b, off, hA, hb, by simpa using hc m 0 _ hm rfl, hc m 1 _ hm rfl⟩
theorem noFail_snoc {sp : Nat → List Sp} {k : Nat} (h : NoFail sp k) (hk : early sp (k + 1) ≠ 0) : NoFail sp (k + 1) := fun j hj => by
  rcases Nat.lt_or_ge j k with h' | h'
  · exact h j h'
  · rw [show j = k from by omega]; exact hk
theorem serFail_yes {sp : Nat → List Sp} {n k : Nat} (hk : k < n) (h : early sp (k + 1) = 0) : serFail sp n = true := by
  rw [serFail, List.any_eq_true]; exact ⟨k, by simpa using hk, by simp [h]⟩
theorem serFail_no {sp : Nat → List Sp} {n : Nat} (h : NoFail sp n) : serFail sp n = false := by
  rw [serFail, List.any_eq_false]; intro k hk; simpa using h k (by simpa using hk)
theorem late_top (sp : Nat → List Sp) (n : Nat) : late sp n n = 156000 := by unfold late; rw [Nat.sub_self]; rfl
theorem late_step {sp : Nat → List Sp} {n j : Nat} (hj : j < n) : late sp n j = lastTo (late sp n (j + 1)) (sp j) := by
  unfold late
  rw [show n - j = (n - (j + 1)) + 1 by omega, lateD, show n - 1 - (n - (j + 1)) = j by omega]
/-- The latest days from j on. -/
def lateF (sp : Nat → List Sp) (n j i : Nat) : Int := if j ≤ i ∧ i < n then late sp n i else 0
theorem lateF_top (sp : Nat → List Sp) (n : Nat) : lateF sp n n = fun _ => 0 := by funext i; unfold lateF; rw [if_neg (by omega)]
theorem lastTo_step (e : Int) (l : List Sp) (m : Nat) (hm : m < l.length) : lastTo e (l.take (m + 1)) = if (l.getD m ⟨0, 0⟩).a ≤ e then min (l.getD m ⟨0, 0⟩).b e else lastTo e (l.take m) := by
  have h : l.getD m ⟨0, 0⟩ = l[m] := by rw [List.getD_eq_getElem?_getD, List.getElem?_eq_getElem hm]; rfl
  rw [h, List.take_succ_eq_append_getElem hm, lastTo, List.foldl_append]; rfl
def inL (sp : Nat → List Sp) (n j m i : Nat) : Int := if i = j then lastTo (late sp n (j + 1)) ((sp j).take m) else lateF sp n (j + 1) i
theorem inL_zero (sp : Nat → List Sp) (n j : Nat) : inL sp n j 0 = lateF sp n (j + 1) := by
  funext i
  unfold inL
  by_cases e : i = j
  · subst e; rw [if_pos rfl]; unfold lateF; rw [if_neg (by omega)]; rfl
  · rw [if_neg e]
theorem inL_full {sp : Nat → List Sp} {n j : Nat} (hj : j < n) : inL sp n j (sp j).length = lateF sp n j := by
  funext i
  unfold inL
  rw [List.take_length, ← late_step hj]
  unfold lateF
  by_cases e : i = j
  · subst e; rw [if_pos rfl, if_pos ⟨by omega, hj⟩]
  · rw [if_neg e]
    by_cases h : j + 1 ≤ i ∧ i < n
    · rw [if_pos h, if_pos (by omega)]
    · rw [if_neg h, if_neg (by omega)]
theorem inL_set {sp : Nat → List Sp} {n j m : Nat} {v : Int} (h : lastTo (late sp n (j + 1)) ((sp j).take (m + 1)) = v) : (fun i => if i = j then v else inL sp n j m i) = inL sp n j (m + 1) := by
  funext i
  unfold inL
  by_cases e : i = j
  · rw [if_pos e, if_pos e, h]
  · rw [if_neg e, if_neg e, if_neg e]
theorem inL_same {sp : Nat → List Sp} {n j m : Nat} (h : lastTo (late sp n (j + 1)) ((sp j).take (m + 1)) = lastTo (late sp n (j + 1)) ((sp j).take m)) : inL sp n j m = inL sp n j (m + 1) := by
  funext i
  unfold inL
  rw [h]
theorem lateF_at {sp : Nat → List Sp} {n j : Nat} (h : j < n) : lateF sp n j j = late sp n j := by unfold lateF; rw [if_pos ⟨Nat.le_refl _, h⟩]
theorem serL_at {w : World} {O n : Nat} {sp : Nat → List Sp} (h : w.rowIs O 52 (n * 2) (outF (fun j => if j < n then early sp (j + 1) else 0) (lateF sp n 0))) (hn : n ≤ maxLen) : SpansAt w (.slice (some ⟨O, 0, none⟩) n n) (serL sp n) := by
  have hl : (serL sp n).length = n := by simp [serL]
  refine ⟨_, n, by rw [hl], fun _ => ⟨O, 0, rfl, h.lt, fun i j v hi hv => ?_⟩, by rw [hl]; exact Nat.le_refl _, hn⟩
  rw [hl] at hi
  have hg : (serL sp n).getD i ⟨0, 0⟩ = ⟨early sp (i + 1), late sp n i⟩ := by simp [serL, List.getD_eq_getElem?_getD, List.getElem?_map, List.getElem?_range hi]
  simp only [hg] at hv
  have hj : j < 2 := (List.getElem?_eq_some_iff.1 hv).1
  rw [show 0 + i * 2 + j = i * 2 + j by omega, h.cell (by omega)]
  match j, hj, hv with
  | 0, _, hv => rw [Nat.add_zero, outF_first, if_pos hi]; exact hv
  | 1, _, hv => rw [outF_last]; unfold lateF; rw [if_pos ⟨by omega, hi⟩]; exact hv
structure SerR (wo wr : World) (O n k : Nat) (sp : Nat → List Sp) (F L : Nat → Int) (vs : Nat → Value) : Prop where
  e : Ext wo wr
  z : O + 1 + 1 ≤ wr.heap.size
  o : wr.rowIs O 52 (n * 2) (outF F L)
  d : wr.rowIs (O + 1) 28 n (fun j => if j < k then vs j else .slice none 0 0)
  r : ∀ j, j < k → wr.ownsRow (O + 1 + 1) 52 2 (vs j) (sp j).length (spc (sp j))
namespace SerR
variable {wo wr w' : World} {O n k : Nat} {sp : Nat → List Sp} {F L : Nat → Int} {vs : Nat → Value}
theorem ext (h : SerR wo wr O n k sp F L vs) (e : Ext wr w') : SerR wo w' O n k sp F L vs :=
  ⟨h.e.trans e, Nat.le_trans h.z e.size, h.o.of_block (e.block h.o.lt), h.d.of_block (e.block h.d.lt), fun j hj => ownsRow_ext (h.r j hj) e⟩
theorem first (h : SerR wo wr O n k sp F L vs) (hO : wo.heap.size ≤ O) (i : Nat) (v : Int) : SerR wo (wr.setCell ⟨O, i * 2, none⟩ (.int .i64 v)) O n k sp (fun j => if j = i then v else F j) L vs :=
  ⟨h.e.setCell (p := ⟨O, i * 2, none⟩) hO _, by simpa [World.setCell] using h.z, rowIs_first h.o i v, h.d.setOther (a := ⟨O, i * 2, none⟩) (by show O + 1 ≠ O; omega) _, fun j hj => ownsRow_setCell_below (h.r j hj) (a := ⟨O, i * 2, none⟩) (by show O < O + 1 + 1; omega) _⟩
theorem last (h : SerR wo wr O n k sp F L vs) (hO : wo.heap.size ≤ O) (i : Nat) (v : Int) : SerR wo (wr.setCell ⟨O, i * 2 + 1, none⟩ (.int .i64 v)) O n k sp F (fun j => if j = i then v else L j) vs :=
  ⟨h.e.setCell (p := ⟨O, i * 2 + 1, none⟩) hO _, by simpa [World.setCell] using h.z, rowIs_last h.o i v, h.d.setOther (a := ⟨O, i * 2 + 1, none⟩) (by show O + 1 ≠ O; omega) _, fun j hj => ownsRow_setCell_below (h.r j hj) (a := ⟨O, i * 2 + 1, none⟩) (by show O < O + 1 + 1; omega) _⟩
theorem days (h : SerR wo wr O n k sp F L vs) (hO : wo.heap.size ≤ O) {v : Value} (hr : wr.ownsRow (O + 1 + 1) 52 2 v (sp k).length (spc (sp k))) :
    SerR wo (wr.setCell ⟨O + 1, k, none⟩ v) O n (k + 1) sp F L (fun j => if j = k then v else vs j) := by
  refine ⟨h.e.setCell (p := ⟨O + 1, k, none⟩) (show wo.heap.size ≤ O + 1 by omega) _, by simpa [World.setCell] using h.z, h.o.setOther (a := ⟨O + 1, k, none⟩) (by show O ≠ O + 1; omega) _, (h.d.set k v).congr fun j _ => ?_, fun j hj => ?_⟩
  · by_cases e : j = k
    · subst e; rw [if_pos rfl, if_pos (by omega), if_pos rfl]
    · rw [if_neg e]
      by_cases h2 : j < k
      · rw [if_pos h2, if_pos (by omega), if_neg e]
      · rw [if_neg h2, if_neg (by omega)]
  · by_cases e : j = k
    · subst e; rw [if_pos rfl]; exact ownsRow_setCell_below hr (a := ⟨O + 1, j, none⟩) (by show O + 1 < O + 1 + 1; omega) _
    · rw [if_neg e]; exact ownsRow_setCell_below (h.r j (by omega)) (a := ⟨O + 1, k, none⟩) (by show O + 1 < O + 1 + 1; omega) _
theorem upF {F' : Nat → Int} (h : SerR wo wr O n k sp F L vs) (e : F = F') : SerR wo wr O n k sp F' L vs := e ▸ h
theorem upL {L' : Nat → Int} (h : SerR wo wr O n k sp F L vs) (e : L = L') : SerR wo wr O n k sp F L' vs := e ▸ h
end SerR
theorem serF_step {sp : Nat → List Sp} {k : Nat} {v : Int} (h : early sp (k + 1) = v) : (fun j => if j = k then v else if j < k then early sp (j + 1) else 0) = fun j => if j < k + 1 then early sp (j + 1) else 0 := by
  funext j
  by_cases e : j = k
  · subst e; rw [if_pos rfl, if_pos (by omega), h]
  · rw [if_neg e]
    by_cases h2 : j < k
    · rw [if_pos h2, if_pos (by omega)]
    · rw [if_neg h2, if_neg (by omega)]
set_option maxRecDepth 100000 in
set_option maxHeartbeats 8000000 in
theorem seriesX_any (A A' : Option Addr) (ca cb : Nat) (c : Cal) (B : Option Addr) (n cap : Nat) (f : Nat → Tr) (w : World) (hC : CalAt w A ca A' cb c) (hT : RowsAt w B n 7 (fun i => (f i).cells)) (hn : n ≤ 9223372036854775807) :
    Calls Tryd.prog 24 #[.agg #[.slice A c.nk ca, .slice A' c.ny cb], .slice B n cap] w fun e w' => ∃ v, e = .returned (.tuple #[v, .int .i64 (c.serE f n)]) ∧ Ext w w' ∧ SpansAt w' v (c.serV f n) := by
  cases hv : c.valid
  · have HE := Lib.hid (chk_no hv)
    have HR : Hid (c.serE f n = 70) := by unfold Hid Cal.serE; rw [hv]; rfl
    have HV : Hid (c.serV f n = []) := by unfold Hid Cal.serV; rw [HR.out]; rfl
    clear hv
    go_enter Tryd.func24, Tryd.ntmps24
    go_wp2_with (go_at_call 75; refine (checks_any _ _ _ _ c none 0 0 (fun _ => ⟨0, 0, false, 0⟩) _ (hC.ext (by repeat (first | exact Ext.refl _ | (refine Ext.alloc ?_ _) | (refine Ext.trans ?_ (by assumption))))) (rows_none _ _ _) (by omega)).mono ?_; rw [checks_none, HE.out]; rintro e wq ⟨rfl, hq⟩)
    go_ret2
    exact ⟨_, by rw [HR.out]; rfl, (by repeat (first | exact Ext.refl _ | (refine Ext.alloc ?_ _) | (refine Ext.trans ?_ (by assumption)))), by rw [HV.out]; exact spansAt_nil _⟩
  · have HE := Lib.hid (chk_yes hv)
    by_cases h64 : 64 < n
    · have HR : Hid (c.serE f n = 3) := by unfold Hid Cal.serE; rw [hv, if_pos h64]; rfl
      have HV : Hid (c.serV f n = []) := by unfold Hid Cal.serV; rw [HR.out]; rfl
      clear hv
      have hb : decide (64 < (n : Int)) = true := decide_eq_true (by omega)
      go_enter Tryd.func24, Tryd.ntmps24
      go_wp2_with (go_at_call 75; refine (checks_any _ _ _ _ c none 0 0 (fun _ => ⟨0, 0, false, 0⟩) _ (hC.ext (by repeat (first | exact Ext.refl _ | (refine Ext.alloc ?_ _) | (refine Ext.trans ?_ (by assumption))))) (rows_none _ _ _) (by omega)).mono ?_; rw [checks_none, HE.out]; rintro e wq ⟨rfl, hq⟩)
      go_ret2
      exact ⟨_, by rw [HR.out]; rfl, (by repeat (first | exact Ext.refl _ | (refine Ext.alloc ?_ _) | (refine Ext.trans ?_ (by assumption)))), by rw [HV.out]; exact spansAt_nil _⟩
    · have h64' : n ≤ 64 := by omega
      have hb : decide (64 < (n : Int)) = false := decide_eq_false (by omega)
      have HL := Lib.hid (valid_lg hv)
      have HY := Lib.hid (valid_ny hv)
      have HK := Lib.hid (valid_kg hv)
      have HR : Hid (c.serE f n = if serOk f n then (if serFail (fun i => c.spans (f i)) n then 73 else 0) else 72) := by unfold Hid Cal.serE; rw [hv, if_neg h64]; rfl
      clear hv h64
      obtain ⟨i0, hi, hz0, hz1, hz2⟩ := info_parts info_span
      obtain ⟨j0, hj, hy0, hy1, hy2⟩ := info_parts info_spans
      have hmk1 := fun W => run_make_cells (P := Tryd.prog) 28 52 i0 _ Tryd.underlying28 hi hz0 .i64 .i64 n (by rw [hz2]; omega) (by omega) W
      have hmk2 := fun W => run_make_cells (P := Tryd.prog) 103 28 j0 _ Tryd.underlying103 hj hy0 .i64 .i64 n (by rw [hy2]; omega) (by omega) W
      rw [hz1] at hmk1
      rw [hy1] at hmk2
      clear hi hz0 hz1 hz2 hj hy0 hy1 hy2
      go_enter Tryd.func24, Tryd.ntmps24
      go_wp2_with (go_at_call 75; refine (checks_any _ _ _ _ c none 0 0 (fun _ => ⟨0, 0, false, 0⟩) _ (hC.ext (by repeat (first | exact Ext.refl _ | (refine Ext.alloc ?_ _) | (refine Ext.trans ?_ (by assumption))))) (rows_none _ _ _) (by omega)).mono ?_; rw [checks_none, HE.out]; rintro e wq ⟨rfl, hq⟩; have hcb := (Held.ext (b := w.heap.size) (t := 25) (cs := #[.slice A c.nk ca, .slice A' c.ny cb]) (by repeat (first | (refine Held.at _ _ _ _ ?_; (simp; done)) | refine Held.alloc ?_ _)) hq))
      have hEq : Ext w wq := (by repeat (first | exact Ext.refl _ | (refine Ext.alloc ?_ _) | (refine Ext.trans ?_ (by assumption))))
      generalize hs : w.heap.size = s at *
      go_loopw [31] (fun i wr => ∃ k : Nat, k ≤ n ∧ i = .int .i64 k ∧ OksTo f k ∧ Ext wq wr) (fun i _ => n - (intOf i).toNat)
      case atStart => exact ⟨0, Nat.zero_le _, rfl, (fun i h => absurd h (by omega)), Ext.refl _⟩
      case round =>
        obtain ⟨k, hk, rfl, hO, hB⟩ := hrel
        obtain ⟨wo, rfl⟩ : ∃ wo : World, wo = wr := ⟨_, rfl⟩
        by_cases hlt : k < n
        · obtain ⟨b, off, rfl, hbl, c0, c1, c2, c3, c4, c5, c6⟩ := Tr.row (hT.ext (hEq.trans hB)) hlt
          cases hok : (f k).ok
          · have HO := Lib.hid hok
            go_wp2_with (go_at_call 76; refine (validTrace_any (f k) _).mono ?_; rw [HO.out]; rintro e wn ⟨rfl, hn'⟩)
            go_ret2
            have HR2 : c.serE f n = 72 := by rw [HR.out, serOk_no hlt HO.out]; rfl
            exact ⟨_, by rw [HR2]; rfl, (by repeat (first | exact Ext.refl _ | (refine Ext.alloc ?_ _) | (refine Ext.trans ?_ (by assumption)))), by unfold Cal.serV; rw [HR2]; exact spansAt_nil _⟩
          · have HO := Lib.hid hok
            go_wp2_with (go_at_call 76; refine (validTrace_any (f k) _).mono ?_; rw [HO.out]; rintro e wn ⟨rfl, hn'⟩)
            exact ⟨⟨k + 1, by omega, by go_num, to_snoc hO HO.out, (by repeat (first | exact Ext.refl _ | (refine Ext.alloc ?_ _) | (refine Ext.trans ?_ (by assumption))))⟩, by simp [intOf]; omega⟩
        · have hOn : Hid (OksTo f n) := fun i hi => hO i (by omega)
          have hE1 : Ext w wo := hEq.trans hB
          have hge : n ≤ k := by omega
          clear hO hEq hlt
          have hcb := hcb.ext hB
          clear hB
          go_wp2
          rw [show decide (k < n) = false from decide_eq_false (by omega)]
          clear hge hk hmk1 hmk2
          generalize hW2 : World.alloc _ _ = W2
          have hs2 : W2.heap.size = wo.heap.size + 1 + 1 := by rw [← hW2]; simp
          have hE2 : Ext wo W2 := by rw [← hW2]; exact (by repeat (first | exact Ext.refl _ | (refine Ext.alloc ?_ _) | (refine Ext.trans ?_ (by assumption))))
          have hO0 : W2.rowIs wo.heap.size 52 (n * 2) (outF (fun _ => 0) (fun _ => 0)) := by
            rw [← hW2]; exact (rowIs_madeSpan wo n).alloc _
          have hD0 : W2.rowIs (wo.heap.size + 1) 28 n (fun _ => .slice none 0 0) := by
            rw [← hW2]
            have := World.rowIs_made (wo.alloc (.cells (madeCells #[.int .i64 0, .int .i64 0] (n * 2)) 52)) (.slice none 0 0) n 28
            rwa [World.size_alloc] at this
          clear hW2
          have hz2 := Nat.le_of_eq hs2.symm
          clear hs2
          generalize hOb : wo.heap.size = O at *
          have hO1 := Nat.le_of_eq hOb
          have hO2 := Nat.le_of_eq hOb.symm
          have hsO : s < O := by have := hcb.lt; omega
          have hCo : CalAt wo A ca A' cb c := hC.ext hE1
          have hTo := hT.ext hE1
          clear hC hT hOb
          generalize hsp : (fun i => c.spans (f i)) = sp at *
          have HSP : Hid (∀ i, c.spans (f i) = sp i) := fun i => congrFun hsp i
          clear hsp
          have hS0 : SerR wo W2 O n 0 sp (fun _ => 0) (fun _ => 0) (fun _ => .slice none 0 0) := ⟨hE2, by omega, hO0, hD0.congr (fun _ _ => rfl), fun j h => absurd h (by omega)⟩
          clear hO0 hD0 hE2
          go_loopw [11, 47] (fun e i wr => ∃ k : Nat, k ≤ n ∧ i = .int .i64 k ∧ e = .int .i64 (early sp k) ∧ 1 ≤ early sp k ∧ NoFail sp k ∧ ∃ vs, SerR wo wr O n k sp (fun j => if j < k then early sp (j + 1) else 0) (fun _ => 0) vs) (fun _ i _ => n - (intOf i).toNat)
          case atStart => exact ⟨0, Nat.zero_le _, rfl, rfl, Int.le_refl _, (fun j h => absurd h (by omega)), _, hS0⟩
          case round =>
            clear hS0
            obtain ⟨k, hk, rfl, rfl, he1, hNF, vs, hS⟩ := hrel
            obtain ⟨w1, rfl⟩ : ∃ w1 : World, w1 = wr := ⟨_, rfl⟩
            by_cases hlt : k < n
            · obtain ⟨b, off, rfl, hbl, c0, c1, c2, c3, c4, c5, c6⟩ := Tr.row (hTo.ext hS.e) hlt
              obtain ⟨k0, k1⟩ := (hcb.ext hS.e).c2
              have hka := ok_af (hOn.out k hlt)
              have hsw := (hcb.ext hS.e).lt
              go_wp2_with (fail)
              refine (spans_own _ _ _ _ c (f k) _ (hCo.ext (hS.e.alloc _)) HL.out HY.out HK.out hka.1 hka.2).mono ?_
              rintro e w4 ⟨v, rfl, h4, hr4⟩
              rw [HSP.out] at hr4
              have hS4 := (hS.ext ((Ext.refl w1).alloc _)).ext h4
              have hr5 := World.ownsRow.mono (base' := O + 1 + 1) hr4 (by have := hS.z; simp; omega)
              have hd4 := hS4.d.cell hlt
              rw [if_neg (by omega)] at hd4
              have hf4 := hS4.d.frozen k
              have hS5 := hS4.days hO1 hr5
              clear hS hr4 h4 c0 c1 c2 c3 c4 c5 c6 k0 k1
              obtain ⟨A2, cap2, rfl, -, -, -⟩ := spansAt_own hr5
              clear hr5 hS4
              go_upto_region 19 with (fail)
              generalize World.setCell w4 _ _ = w5 at *
              clear hd4 hf4
              have hd5 := hS5.d.cell hlt
              rw [if_pos (by omega), if_pos rfl] at hd5
              generalize hvs : (fun j => if j = k then Value.slice A2 (sp k).length cap2 else vs j) = vs' at *
              have hvk : vs' k = .slice A2 (sp k).length cap2 := by rw [← hvs]; exact if_pos rfl
              have HVK := Lib.hid hvk
              clear hvs hvk
              have hlk : (sp k).length ≤ 9223372036854775807 := by
                obtain ⟨A4, cap4, e4, -, h5, h6⟩ := spansAt_own (hS5.r k (by omega))
                unfold maxLen at h6; omega
              go_wp2
              go_loopw [14, 63] (fun d i wr => ∃ m : Nat, m ≤ (sp k).length ∧ i = .int .i64 m ∧ d = .int .i64 0 ∧ Before (sp k) (early sp k) m ∧ SerR wo wr O n (k + 1) sp (fun j => if j < k then early sp (j + 1) else 0) (fun _ => 0) vs') (fun _ i _ => (sp k).length - (intOf i).toNat)
              case atStart => exact ⟨0, Nat.zero_le _, rfl, rfl, (fun j h => absurd h (by omega)), hS5⟩
              case round =>
                clear hS5 hd5
                obtain ⟨m, hm, rfl, rfl, hBf, hS⟩ := hrel
                obtain ⟨w6, rfl⟩ : ∃ w6 : World, w6 = wr := ⟨_, rfl⟩
                by_cases hml : m < (sp k).length
                · have hsa := spansAt_own (hS.r k (by omega))
                  rw [HVK.out] at hsa
                  obtain ⟨b3, off3, rfl, hb3, a0, a1⟩ := spans_cell hsa hml
                  clear hsa
                  generalize hx : (sp k).getD m ⟨0, 0⟩ = x at *
                  by_cases hxe : early sp k ≤ x.b
                  · have hxd : decide (early sp k ≤ x.b) = true := decide_eq_true hxe
                    have hfx : Hid (early sp (k + 1) = max x.a (early sp k)) := firstFrom_here hml hBf (by rw [hx]; exact hxe) |>.trans (by rw [hx])
                    have hSa := hS.ext (w' := w6.alloc (.cells #[.int .i64 x.a, .int .i64 x.b] 52)) (by repeat (first | exact Ext.refl _ | (refine Ext.alloc ?_ _) | (refine Ext.trans ?_ (by assumption))))
                    have ho := hSa.o.cell (i := k * 2) (by omega)
                    rw [outF_first] at ho
                    have hfo := hSa.o.frozen (k * 2)
                    have hOl := hS.o.lt
                    by_cases hab : x.a < early sp k
                    · have hmx : Hid (early sp (k + 1) = early sp k) := hfx.out.trans (by omega)
                      have hbz : (early sp k == 0) = false := beq_eq_false_iff_ne.2 (by omega)
                      have hS7 := ((hS.first hO1 k (early sp k)).upF (serF_step hmx.out)).ext ((Ext.refl _).alloc (.cells #[.int .i64 x.a, .int .i64 x.b] 52))
                      clear hfx hx
                      go_wp2
                      exact ⟨⟨k + 1, by omega, by go_num, by rw [hmx.out], by rw [hmx.out]; exact he1, noFail_snoc hNF (by rw [hmx.out]; omega), _, hS7⟩, by simp [intOf]; omega⟩
                    · have hab' : early sp k ≤ x.a := by omega
                      have hmx : Hid (early sp (k + 1) = x.a) := hfx.out.trans (by omega)
                      have hbz : (x.a == 0) = false := beq_eq_false_iff_ne.2 (by omega)
                      have hS7 := ((hS.first hO1 k x.a).upF (serF_step hmx.out)).ext ((Ext.refl _).alloc (.cells #[.int .i64 x.a, .int .i64 x.b] 52))
                      clear hfx hx hab
                      go_wp2
                      exact ⟨⟨k + 1, by omega, by go_num, by rw [hmx.out], by rw [hmx.out]; omega, noFail_snoc hNF (by rw [hmx.out]; omega), _, hS7⟩, by simp [intOf]; omega⟩
                  · have hxd : decide (early sp k ≤ x.b) = false := decide_eq_false hxe
                    have HXE := Lib.hid hxe
                    have HX := Lib.hid hx
                    clear hxe hx
                    go_wp2
                    exact ⟨⟨m + 1, by omega, by go_num, rfl, before_snoc hBf (by rw [HX.out]; have := HXE.out; omega), hS.ext (by repeat (first | exact Ext.refl _ | (refine Ext.alloc ?_ _) | (refine Ext.trans ?_ (by assumption))))⟩, by simp [intOf]; omega⟩
                · have hfl : Hid (early sp (k + 1) = 0) := firstFrom_none (e := early sp k) (fun j hj => hBf j (by omega))
                  go_wp2
                  go_ret2
                  have HR2 : c.serE f n = 73 := by rw [HR.out, serOk_yes hOn.out, serFail_yes hlt hfl.out]; rfl
                  exact ⟨_, by rw [HR2]; rfl, hE1.trans hS.e, by unfold Cal.serV; rw [HR2]; exact spansAt_nil _⟩
            · obtain rfl : k = n := by omega
              have HR2 : Hid (c.serE f k = 0) := by unfold Hid; rw [HR.out, serOk_yes hOn.out, serFail_no hNF]; rfl
              have HV2 : Hid (c.serV f k = serL sp k) := by
                unfold Hid Cal.serV
                rw [HR2.out, if_pos rfl]
                congr 1
                exact funext HSP.out
              clear hNF hlt hk
              go_wp2
              go_loopw [17, 18] (fun e i wr => ∃ j : Nat, j ≤ k ∧ i = .int .i64 ((j : Int) - 1) ∧ e = .int .i64 (late sp k j) ∧ SerR wo wr O k k sp (fun j => if j < k then early sp (j + 1) else 0) (lateF sp k j) vs) (fun _ i _ => (intOf i + 1).toNat)
              case atStart => exact ⟨k, Nat.le_refl _, rfl, by rw [late_top], hS.upL (lateF_top sp k).symm⟩
              case round =>
                clear hS
                obtain ⟨j, hj, rfl, rfl, hS⟩ := hrel
                obtain ⟨w1, rfl⟩ : ∃ w1 : World, w1 = wr := ⟨_, rfl⟩
                cases j with
                | zero =>
                  go_wp2
                  go_ret2
                  refine ⟨_, by rw [HR2.out]; rfl, hE1.trans hS.e, ?_⟩
                  rw [HV2.out]
                  exact serL_at hS.o (by unfold maxLen; omega)
                | succ j =>
                  rw [show ((j + 1 : Nat) : Int) - 1 = j by omega]
                  have hd5 := hS.d.cell (i := j) (by omega)
                  rw [if_pos (by omega)] at hd5
                  have hsa := spansAt_own (hS.r j (by omega))
                  obtain ⟨A2, cap2, hvj, -, hle2, hmx2⟩ := hsa
                  rw [hvj] at hd5
                  have HVJ := Lib.hid hvj
                  have hlk : (sp j).length ≤ 9223372036854775807 := by unfold maxLen at hmx2; omega
                  clear hvj hmx2 hle2
                  go_wp2
                  go_loopw [97] (fun i wr => ∃ m : Nat, m ≤ (sp j).length ∧ i = .int .i64 m ∧ SerR wo wr O k k sp (fun j => if j < k then early sp (j + 1) else 0) (inL sp k j m) vs) (fun i _ => (sp j).length - (intOf i).toNat)
                  case atStart => exact ⟨0, Nat.zero_le _, rfl, hS.upL (inL_zero sp k j).symm⟩
                  case round =>
                    clear hS hd5
                    obtain ⟨m, hm, rfl, hS⟩ := hrel
                    obtain ⟨w6, rfl⟩ : ∃ w6 : World, w6 = wr := ⟨_, rfl⟩
                    by_cases hml : m < (sp j).length
                    · have hsa := spansAt_own (hS.r j (by omega))
                      rw [HVJ.out] at hsa
                      obtain ⟨b3, off3, rfl, hb3, a0, a1⟩ := spans_cell hsa hml
                      clear hsa
                      have hst := lastTo_step (late sp k (j + 1)) (sp j) m hml
                      generalize hx : (sp j).getD m ⟨0, 0⟩ = x at *
                      have HX := Lib.hid hx
                      clear hx
                      have ho := hS.o.cell (i := j * 2 + 1) (by omega)
                      rw [outF_last] at ho
                      have hfo := hS.o.frozen (j * 2 + 1)
                      have hOl := hS.o.lt
                      by_cases hxe : x.a ≤ late sp k (j + 1)
                      · have hxd : decide (x.a ≤ late sp k (j + 1)) = true := decide_eq_true hxe
                        rw [if_pos hxe] at hst
                        by_cases hab : x.b ≤ late sp k (j + 1)
                        · have hmx : Hid (lastTo (late sp k (j + 1)) ((sp j).take (m + 1)) = x.b) := hst.trans (by omega)
                          clear hst
                          have hS7 := ((hS.last hO1 j x.b).upL (inL_set hmx.out)).ext ((Ext.refl _).alloc (.cells #[.int .i64 x.a, .int .i64 x.b] 52))
                          go_wp2
                          exact ⟨⟨m + 1, by omega, by go_num, hS7⟩, by simp [intOf]; omega⟩
                        · have hab' : late sp k (j + 1) < x.b := by omega
                          have hmx : Hid (lastTo (late sp k (j + 1)) ((sp j).take (m + 1)) = late sp k (j + 1)) := hst.trans (by omega)
                          clear hst hab
                          have hS7 := ((hS.last hO1 j (late sp k (j + 1))).upL (inL_set hmx.out)).ext ((Ext.refl _).alloc (.cells #[.int .i64 x.a, .int .i64 x.b] 52))
                          go_wp2
                          exact ⟨⟨m + 1, by omega, by go_num, hS7⟩, by simp [intOf]; omega⟩
                      · have hxd : decide (x.a ≤ late sp k (j + 1)) = false := decide_eq_false hxe
                        rw [if_neg hxe] at hst
                        have HST := Lib.hid hst
                        clear hst hxe
                        have hS7 := (hS.upL (inL_same HST.out)).ext ((Ext.refl _).alloc (.cells #[.int .i64 x.a, .int .i64 x.b] 52))
                        go_wp2
                        exact ⟨⟨m + 1, by omega, by go_num, hS7⟩, by simp [intOf]; omega⟩
                    · obtain rfl : m = (sp j).length := by omega
                      have hS7 := hS.upL (inL_full (show j < k by omega))
                      have ho := hS7.o.cell (i := j * 2 + 1) (by omega)
                      rw [outF_last, lateF_at (show j < k by omega)] at ho
                      clear hS
                      go_wp2
                      exact ⟨⟨j, by omega, by go_num, rfl, hS7⟩, by first | (simp [intOf]; done) | (simp [intOf]; omega)⟩
end Go.Proofs.YtfchchmmjabjnaaDoor

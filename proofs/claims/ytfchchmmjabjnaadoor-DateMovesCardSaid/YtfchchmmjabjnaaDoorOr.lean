/- Arguments opened with what the form's own reach says of their sizes: calendars, slices of traces, of texts; no conditions but those that each lemma states. -/
import Derived.Test.YtfchchmmjabjnaaDoorOq
import Derived.SizedLaws
set_option maxRecDepth 100000
namespace Go.Proofs.YtfchchmmjabjnaaDoor
open Go Go.ChangeShapes Go.WideShapes Go.ChangeAt Go.RowKit Go.Deep
section
variable {H : Type} {enc : TypeId × Value → H} {w : World} {base : Nat} {spare : Nat → Bool} {held : Bool} {r : Reach} {b0 : Nat} {v : Value} {d : DataW H} {p : List MemPlace}
theorem sized_arg {P : Program} {ts : List TypeId} {ds : List (DataW H)} {j : Nat} {t : TypeId} (h : (DataW.weightsEach P ts ds).all (· ≤ reachBytes) = true) (ht : ts[j]? = some t) (hd : ds[j]? = some d) : ∀ n ∈ d.weights P t, n ≤ reachBytes := fun n hn => by
  have := List.all_eq_true.1 h _ (DataW.weights_mem_each ht hd n hn)
  simpa using this
theorem slice_light {P : Program} {t e : TypeId} {A : Option Addr} {n cap m : Nat} {x : DataW H × List MemPlace} (ht : P.underlying t = some (.slice e)) (h : DataW.trod enc P w base spare held m t [.slice A n cap] = some x) (hl : ∀ k ∈ x.1.weights P t, k ≤ reachBytes) :
    (A = none → n = 0 ∧ cap = 0) ∧ n * P.bytesOf e ≤ reachBytes := by
  rcases open_slice ht h with ⟨hcs, _⟩ | ⟨a, len, cap', k, m, D, Pl, hcs, _, _, _, _, hx, _⟩
  · simp at hcs
    obtain ⟨rfl, rfl, rfl⟩ := hcs
    exact ⟨fun _ => ⟨rfl, rfl⟩, by simp⟩
  · simp at hcs
    obtain ⟨rfl, rfl, rfl⟩ := hcs
    refine ⟨fun h => (by cases h), ?_⟩
    rw [hx] at hl
    have := hl ((n + (k - n)) * P.bytesOf e) (by simp [DataW.weights, ht])
    exact Nat.le_trans (Nat.mul_le_mul_right _ (Nat.le_add_right _ _)) this
theorem sub_at {P : Program} {m : Nat} {t : TypeId} {cs : List Value} {o : Nat} {xs : List (DataW H × List MemPlace)} {n i : Nat} (hi : i < xs.length) (h : DataW.trod enc P w base spare held m t ((cs.drop o).take (P.cellsOf t)) = xs[i]?) (hn : P.cellsOf t = n) :
    DataW.trod enc P w base spare held m t ((cs.drop o).take n) = some xs[i] := by
  rw [hn] at h
  rw [h, List.getElem?_eq_getElem hi]
theorem bytes_string : Tryd.prog.bytesOf 9 = 16 := by kernel_rfl
theorem bytes_year : Tryd.prog.bytesOf 99 = 40 := by kernel_rfl
theorem bytes_trace : Tryd.prog.bytesOf 33 = 72 := by kernel_rfl
theorem reach_eq : reachBytes = 140737488351232 := rfl
theorem cal_sized (hv : Value.okWide Tryd.prog w r b0 25 v) (h : DataW.Trod enc Tryd.prog w base spare held 25 v d p) (hl : ∀ n ∈ d.weights Tryd.prog 25, n ≤ reachBytes) :
    ∃ A A' ca cb c, v = .agg #[.slice A c.nk ca, .slice A' c.ny cb] ∧ CalAt w A ca A' cb c ∧ (A = none → c.nk = 0 ∧ ca = 0) ∧ (A' = none → c.ny = 0 ∧ cb = 0) ∧ c.nk * 16 ≤ 140737488351232 ∧ c.ny * 40 ≤ 140737488351232 := by
  obtain ⟨A, A', ca, cb, c, rfl, hC⟩ := cal_open hv h
  refine ⟨A, A', ca, cb, c, rfl, hC, ?_⟩
  obtain ⟨fuel, hf⟩ := h
  obtain ⟨xs, m, _, hx, hlen, hxl, hg⟩ := DataW.trod_struct Tryd.underlying25 hf
  have hxl2 : xs.length = 2 := hxl
  simp only [Prod.mk.injEq] at hx
  obtain ⟨rfl, _⟩ := hx
  have hl' : ∀ n ∈ DataW.weightsEach Tryd.prog [22, 23] (xs.map (·.1)), n ≤ reachBytes := fun n hn => hl n (by
    simp only [DataW.weights, Tryd.underlying25]
    exact hn)
  have e0 := sub_at (by omega) (hg 0 _ rfl) (n := 1) (by kernel_rfl)
  have e1 := sub_at (by omega) (hg 1 _ rfl) (n := 1) (by kernel_rfl)
  have g0 := slice_light Tryd.underlying22 e0 (fun k hk => hl' k (DataW.weights_mem_each (j := 0) rfl (by rw [List.getElem?_map, List.getElem?_eq_getElem (by omega)]; rfl) k hk))
  have g1 := slice_light Tryd.underlying23 e1 (fun k hk => hl' k (DataW.weights_mem_each (j := 1) rfl (by rw [List.getElem?_map, List.getElem?_eq_getElem (by omega)]; rfl) k hk))
  rw [bytes_string, reach_eq] at g0
  rw [bytes_year, reach_eq] at g1
  exact ⟨g0.1, g1.1, g0.2, g1.2⟩
theorem traces_sized (hv : Value.okWide Tryd.prog w r b0 26 v) (h : DataW.Trod enc Tryd.prog w base spare held 26 v d p) (hl : ∀ n ∈ d.weights Tryd.prog 26, n ≤ reachBytes) :
    ∃ (B : Option Addr) (n cap : Nat) (f : Nat → Tr), v = .slice B n cap ∧ RowsAt w B n 7 (fun i => (f i).cells) ∧ n ≤ cap ∧ cap ≤ maxLen ∧ (B = none → n = 0 ∧ cap = 0) ∧ n * 72 ≤ 140737488351232 := by
  obtain ⟨B, n, cap, f, rfl, h1, h2, h3⟩ := traces_open hv h
  obtain ⟨fuel, hf⟩ := h
  have g := slice_light Tryd.underlying26 hf hl
  rw [bytes_trace, reach_eq] at g
  exact ⟨B, n, cap, f, rfl, h1, h2, h3, g.1, g.2⟩
theorem texts_sized (hv : Value.okWide Tryd.prog w r b0 22 v) (h : DataW.Trod enc Tryd.prog w base spare held 22 v d p) (hl : ∀ n ∈ d.weights Tryd.prog 22, n ≤ reachBytes) :
    ∃ (B : Option Addr) (n cap : Nat) (f : Nat → ByteArray), v = .slice B n cap ∧ RowsAt w B n 1 (fun i => [.string (f i)]) ∧ n ≤ cap ∧ cap ≤ maxLen ∧ (B = none → n = 0 ∧ cap = 0) ∧ n * 16 ≤ 140737488351232 := by
  obtain ⟨a, len, cap, rfl⟩ := okWide_slice Tryd.underlying22 hv
  obtain ⟨fuel, hf⟩ := h
  obtain ⟨A, nk, ca, kg, e, r0, c0, m0, _⟩ := slice_rows (f := fun s : ByteArray => [.string s]) (p := fun _ => True) ByteArray.empty Tryd.underlying22 cells_string (by decide) (fun _ => rfl) (fun n cs x hx => by
    obtain ⟨s, h1, _⟩ := DataW.trod_string Tryd.underlying9 hx
    exact ⟨s, h1, trivial⟩) ⟨_, hf⟩
  have g := slice_light Tryd.underlying22 hf hl
  rw [bytes_string, reach_eq] at g
  cases e
  exact ⟨_, _, _, kg, rfl, r0, c0, m0, g.1, g.2⟩
end
end Go.Proofs.YtfchchmmjabjnaaDoor

/- A loan with its payments, opened with what the form's own reach says of their size. -/
import Derived.Test.YthmjpbafbohelaaGreatDoorCLO8
set_option maxRecDepth 100000
set_option maxHeartbeats 4000000
set_option maxRecDepth 100000
namespace Go.Proofs.YthmjpbafbohelaaGreatDoor
open Go Go.ChangeShapes Go.WideShapes Go.ChangeAt Go.RowKit Go.Deep
theorem bytes_pay : Tryz.prog.bytesOf 129 = 48 := by kernel_rfl
section
variable {H : Type} {enc : TypeId × Value → H} {w : World} {base : Nat} {spare : Nat → Bool} {held : Bool} {r : Reach} {b0 : Nat} {v : Value} {d : DataW H} {p : List MemPlace}
theorem credit_sized (hv : Value.okWide Tryz.prog w r b0 57 v) (h : DataW.Trod enc Tryz.prog w base spare held 57 v d p) (hl : ∀ n ∈ d.weights Tryz.prog 57, n ≤ reachBytes) :
  ∃ (l : Ln) (B : Option Addr) (n cap : Nat) (f : Nat → Pay) (on : Dt), v = .agg #[.int .i64 l.p.n, .int .i64 l.p.d, .int .i64 l.r.n, .int .i64 l.r.d, .int .i64 l.f.y, .int .i64 l.f.m, .bool l.f.s, .int .i64 l.f.d, .slice B n cap, .int .i64 on.y, .int .i64 on.m, .bool on.s, .int .i64 on.d] ∧ l.p.In ∧ l.r.In ∧ RowsAt w B n 6 (payr f) ∧ n ≤ cap ∧ cap ≤ maxLen ∧ (∀ i, i < n → (f i).n.In) ∧ (B = none → n = 0 ∧ cap = 0) ∧ n * 48 ≤ 140737488351232 := by
 obtain ⟨l, B, n, cap, f, on, rfl, h1, h2, h3, h4, h5, h6, h7⟩ := credit_open hv h
 refine ⟨l, B, n, cap, f, on, rfl, h1, h2, h3, h4, h5, h6, h7, ?_⟩
 obtain ⟨fuel, hf⟩ := h
 obtain ⟨xs, m, _, hx, hlen, hxl, hg⟩ := DataW.trod_struct Tryz.underlying57 hf
 have hxl2 : xs.length = 3 := hxl
 simp only [Prod.mk.injEq] at hx
 obtain ⟨rfl, _⟩ := hx
 have hl' : ∀ n ∈ DataW.weightsEach Tryz.prog [54, 55, 37] (xs.map (·.1)), n ≤ reachBytes := fun n hn => hl n (by
  simp only [DataW.weights, Tryz.underlying57]
  exact hn)
 have e1 := sub_at (by omega) (hg 1 _ rfl) (n := 1) (by kernel_rfl)
 have g1 := slice_light Tryz.underlying55 e1 (fun k hk => hl' k (DataW.weights_mem_each (j := 1) rfl (by rw [List.getElem?_map, List.getElem?_eq_getElem (by omega)]; rfl) k hk))
 rw [bytes_pay, reach_eq] at g1
 exact g1.2
end
end Go.Proofs.YthmjpbafbohelaaGreatDoor
/- The arguments opened, with what the reach says of their sizes; the last step of a row; the world of the witness; facts on the whole program. -/
import Derived.Test.YtfchchmmjabjnaaDoorRead
import Derived.Test.YtfchchmmjabjnaaDoorRows
import Derived.Deep.Slices
import Derived.Deep.Fields
import Derived.Below
import Derived.ReadAgain
import Derived.ChangeSame
import Derived.ProofKit
import Derived.OpenShut
import Derived.SizedLaws
import Derived.Test.YtfchchmmjabjnaaDoorCards
import Derived.Test.YtfchchmmjabjnaaDoorTie
import Derived.LaidMore
import Derived.Deep.DeepLaidRun
import Derived.Deep.DeepHandedRow
import Derived.Lib.LaidTab
import Derived.JoinedCond
set_option maxRecDepth 100000
namespace Go.Proofs.YtfchchmmjabjnaaDoor
open Go Go.ChangeShapes Go.WideShapes Go.ChangeAt Go.RowKit Go.Deep

theorem own_none : ownKnob Tryd.prog.godebug = none := by kernel_rfl
theorem kids_prog : Kids Tryd.prog (· < Tryd.prog.types.size) := kids_rows (by kernel_rfl) (by kernel_rfl)
theorem full_prog : ∀ t e, t < Tryd.prog.types.size → Tryd.prog.underlying t = some (.slice e) → 0 < Tryd.prog.cellsOf e := slices_full_of Tryd.prog (by kernel_rfl)
theorem cells_int : Tryd.prog.cellsOf 3 = 1 := by kernel_rfl
theorem cells_bool : Tryd.prog.cellsOf 4 = 1 := by kernel_rfl
theorem cells_string : Tryd.prog.cellsOf 9 = 1 := by kernel_rfl
theorem cells_year : Tryd.prog.cellsOf 99 = 4 := by kernel_rfl
theorem cells_date : Tryd.prog.cellsOf 39 = 4 := by kernel_rfl
theorem cells_trace : Tryd.prog.cellsOf 33 = 7 := by kernel_rfl
theorem cells_cal : Tryd.prog.cellsOf 25 = 2 := by kernel_rfl

section
variable {H : Type} {enc : TypeId × Value → H} {w W W' : World} {base : Nat} {spare : Nat → Bool} {held : Bool}
theorem sub_read {P : Program} {m k : Nat} {t : TypeId} {cs : List Value} {o : Nat} {xs : List (DataW H × List MemPlace)} {n i : Nat} (hxl : xs.length = k) (hi : i < k) (h : DataW.trod enc P w base spare held m t ((cs.drop o).take (P.cellsOf t)) = xs[i]?) (hn : P.cellsOf t = n) :
    ∃ y, DataW.trod enc P w base spare held m t ((cs.drop o).take n) = some y := by
  rw [hn] at h
  rw [List.getElem?_eq_getElem (by omega)] at h
  exact ⟨_, h⟩
theorem int_cell {m : Nat} {v : Value} (h : ∃ y, DataW.trod enc Tryd.prog w base spare held m 3 [v] = some y) : ∃ z : Int, v = .int .i64 z ∧ -9223372036854775808 ≤ z ∧ z ≤ 9223372036854775807 := by
  obtain ⟨y, h⟩ := h
  obtain ⟨z, h1, _, h2⟩ := DataW.trod_int Tryd.underlying3 h
  have e1 : IntKind.i64.min = -9223372036854775808 := rfl
  have e2 : IntKind.i64.max = 9223372036854775807 := rfl
  simp only [Lit.wf, Bool.and_eq_true, decide_eq_true_eq] at h2
  exact ⟨z, by simpa using h1, by omega, by omega⟩
theorem bool_cell {m : Nat} {v : Value} (h : ∃ y, DataW.trod enc Tryd.prog w base spare held m 4 [v] = some y) : ∃ z : Bool, v = .bool z := by
  obtain ⟨y, h⟩ := h
  obtain ⟨z, h1, _⟩ := DataW.trod_bool Tryd.underlying4 h
  exact ⟨z, by simpa using h1⟩
theorem string_cell {m : Nat} {v : Value} (h : ∃ y, DataW.trod enc Tryd.prog w base spare held m 9 [v] = some y) : ∃ z : ByteArray, v = .string z ∧ z.size ≤ maxLen := by
  obtain ⟨y, h⟩ := h
  obtain ⟨z, h1, _, h2⟩ := DataW.trod_string Tryd.underlying9 h
  exact ⟨z, by simpa using h1, h2⟩
theorem year_cells {n : Nat} {cs : List Value} {x : DataW H × List MemPlace} (h : DataW.trod enc Tryd.prog w base spare held n 99 cs = some x) : ∃ y : Yr, cs = y.cells ∧ True := by
  obtain ⟨xs, m, _, _, hlen, hxl, hf⟩ := DataW.trod_struct Tryd.underlying99 h
  rw [cells_year] at hlen
  match cs, hlen with
  | [a, b, c, d], _ =>
    obtain ⟨z0, rfl, _⟩ := int_cell (sub_read hxl (by decide) (hf 0 _ rfl) cells_int)
    obtain ⟨z1, rfl, _⟩ := string_cell (sub_read hxl (by decide) (hf 1 _ rfl) cells_string)
    obtain ⟨z2, rfl, _⟩ := int_cell (sub_read hxl (by decide) (hf 2 _ rfl) cells_int)
    obtain ⟨z3, rfl, _⟩ := int_cell (sub_read hxl (by decide) (hf 3 _ rfl) cells_int)
    exact ⟨⟨z0, z1, z2, z3⟩, rfl, trivial⟩
theorem date_cells {n : Nat} {cs : List Value} {x : DataW H × List MemPlace} (h : DataW.trod enc Tryd.prog w base spare held n 39 cs = some x) : ∃ d : Dt, cs = [.int .i64 d.y, .int .i64 d.m, .bool d.s, .int .i64 d.d] := by
  obtain ⟨xs, m, _, _, hlen, hxl, hf⟩ := DataW.trod_struct Tryd.underlying39 h
  rw [cells_date] at hlen
  match cs, hlen with
  | [a, b, c, d], _ =>
    obtain ⟨z0, rfl, _⟩ := int_cell (sub_read hxl (by decide) (hf 0 _ rfl) cells_int)
    obtain ⟨z1, rfl, _⟩ := int_cell (sub_read hxl (by decide) (hf 1 _ rfl) cells_int)
    obtain ⟨z2, rfl⟩ := bool_cell (sub_read hxl (by decide) (hf 2 _ rfl) cells_bool)
    obtain ⟨z3, rfl, _⟩ := int_cell (sub_read hxl (by decide) (hf 3 _ rfl) cells_int)
    exact ⟨⟨z0, z1, z2, z3⟩, rfl⟩
theorem trace_cells {n : Nat} {cs : List Value} {x : DataW H × List MemPlace} (h : DataW.trod enc Tryd.prog w base spare held n 33 cs = some x) : ∃ t : Tr, cs = t.cells ∧ (t.nm.size ≤ maxLen ∧ t.kg.size ≤ maxLen) := by
  obtain ⟨xs, m, _, _, hlen, hxl, hf⟩ := DataW.trod_struct Tryd.underlying33 h
  rw [cells_trace] at hlen
  match cs, hlen with
  | [a, b, c, d, e, f, g], _ =>
    obtain ⟨z0, rfl, _⟩ := int_cell (sub_read hxl (by decide) (hf 0 _ rfl) cells_int)
    obtain ⟨z1, rfl⟩ := bool_cell (sub_read hxl (by decide) (hf 1 _ rfl) cells_bool)
    obtain ⟨z2, rfl, _⟩ := int_cell (sub_read hxl (by decide) (hf 2 _ rfl) cells_int)
    obtain ⟨z3, rfl⟩ := bool_cell (sub_read hxl (by decide) (hf 3 _ rfl) cells_bool)
    obtain ⟨z4, rfl, h4⟩ := string_cell (sub_read hxl (by decide) (hf 4 _ rfl) cells_string)
    obtain ⟨z5, rfl, _⟩ := int_cell (sub_read hxl (by decide) (hf 5 _ rfl) cells_int)
    obtain ⟨z6, rfl, h6⟩ := string_cell (sub_read hxl (by decide) (hf 6 _ rfl) cells_string)
    exact ⟨⟨z0, z1, z2, z3, z4, z5, z6⟩, rfl, h4, h6⟩
/-- A slice whose elements are each read as some α. -/
theorem slice_rows {P : Program} {α : Type} {t e : TypeId} {sz m : Nat} {v : Value} {f : α → List Value} {p : α → Prop} (d0 : α) (ht : P.underlying t = some (.slice e)) (hC : P.cellsOf e = sz) (hsz : 0 < sz) (hl : ∀ y, (f y).length = sz)
    (hone : ∀ n cs x, DataW.trod enc P w base spare held n e cs = some x → ∃ y, cs = f y ∧ p y) (h : ∃ y, DataW.trod enc P w base spare held m t [v] = some y) :
    ∃ (A : Option Addr) (n cap : Nat) (g : Nat → α), v = .slice A n cap ∧ RowsAt w A n sz (fun i => f (g i)) ∧ n ≤ cap ∧ cap ≤ maxLen ∧ ∀ i, i < n → p (g i) := by
  obtain ⟨x, h⟩ := h
  rcases open_slice ht h with ⟨hcs, _⟩ | ⟨a, len, cap, k, n, D, Pl, hcs, hb, hlc, hcm, hk, hx, hi⟩
  · exact ⟨none, 0, 0, fun _ => d0, by simpa using hcs, RowsAt.nil, Nat.le_refl _, Nat.zero_le _, fun i hi => absurd hi (by omega)⟩
  · have hlk : len ≤ k := by rw [hk]; split <;> omega
    have each : ∀ i, ∃ y : α, i < len → (p y ∧ ∀ j u, (f y)[j]? = some u → w.cell? (a.add (i * sz + j)) = some u) := fun i => by
      by_cases hil : i < len
      · obtain ⟨cs', hc, htr⟩ := hi i (by omega)
        rw [hC] at hc
        obtain ⟨y, rfl, hp⟩ := hone _ _ _ htr
        obtain ⟨_, _, hat⟩ := World.cells?_some hc
        refine ⟨y, fun _ => ⟨hp, fun j u hu => ?_⟩⟩
        have hj : j < sz := by have := (List.getElem?_eq_some_iff.1 hu).1; rw [hl] at this; exact this
        rw [← Go.Deep.add_add, hat j hj, hu]
      · exact ⟨d0, fun h => absurd h hil⟩
    obtain ⟨g, hg⟩ := Classical.axiomOfChoice each
    refine ⟨some a, len, cap, g, by simpa using hcs, fun hn => ?_, hlc, hcm, fun i hi => (hg i hi).1⟩
    obtain ⟨b, off, spot⟩ := a
    have h00 : ((f (g 0))[0]?).isSome := by rw [List.getElem?_eq_getElem (by rw [hl]; exact hsz)]; rfl
    obtain ⟨u, hu⟩ := Option.isSome_iff_exists.1 h00
    have hc0 := (hg 0 hn).2 0 u hu
    have hspot : spot = none := by simpa [Addr.add] using World.cell?_spot hc0
    subst hspot
    have hc0' : w.cell? ⟨b, off, none⟩ = some u := by simpa [add_plain] using hc0
    refine ⟨b, off, rfl, ?_, fun i j v hi hv => ?_⟩
    · rcases Nat.lt_or_ge b w.heap.size with h1 | h1
      · exact h1
      · simp [World.cell?, Array.getElem?_eq_none h1] at hc0'
    · have := (hg i hi).2 j v hv
      rw [add_plain, ← Nat.add_assoc] at this
      exact this
theorem cal_open {r : Reach} {b0 : Nat} {v : Value} {d : DataW H} {p : List MemPlace} (hv : Value.okWide Tryd.prog w r b0 25 v) (h : DataW.Trod enc Tryd.prog w base spare held 25 v d p) :
    ∃ A A' ca cb c, v = .agg #[.slice A c.nk ca, .slice A' c.ny cb] ∧ CalAt w A ca A' cb c := by
  obtain ⟨cs, rfl, hsz⟩ := okWide_struct Tryd.underlying25 hv
  obtain ⟨fuel, hf⟩ := h
  obtain ⟨xs, m, _, _, hlen, hxl, hf⟩ := DataW.trod_struct Tryd.underlying25 hf
  obtain ⟨cs⟩ := cs
  rw [cells_cal] at hsz
  match cs, hsz with
  | [a, b], _ =>
    have h0 := sub_read hxl (by decide) (hf 0 _ rfl) (n := 1) (by kernel_rfl)
    have h1 := sub_read hxl (by decide) (hf 1 _ rfl) (n := 1) (by kernel_rfl)
    obtain ⟨A, nk, ca, kg, rfl, r0, c0, m0, _⟩ := slice_rows (f := fun s : ByteArray => [.string s]) (p := fun _ => True) ByteArray.empty Tryd.underlying22 cells_string (by decide) (fun _ => rfl) (fun n cs x hx => by
      obtain ⟨s, h1, _⟩ := DataW.trod_string Tryd.underlying9 hx
      exact ⟨s, h1, trivial⟩) h0
    obtain ⟨A', ny, cb, yr, rfl, r1, c1, m1, _⟩ := slice_rows (f := fun y : Yr => y.cells) (p := fun _ => True) ⟨0, ByteArray.empty, 0, 0⟩ Tryd.underlying23 cells_year (by decide) (fun _ => rfl) (fun n cs x hx => year_cells hx) h1
    have hm : maxLen ≤ 9223372036854775807 := by decide
    exact ⟨A, A', ca, cb, ⟨nk, kg, ny, yr⟩, rfl, r0, r1, by show nk ≤ _; omega, by show ny ≤ _; omega, c0, c1⟩
theorem date_open {r : Reach} {b0 : Nat} {v : Value} {d : DataW H} {p : List MemPlace} (hv : Value.okWide Tryd.prog w r b0 39 v) (h : DataW.Trod enc Tryd.prog w base spare held 39 v d p) :
    ∃ d : Dt, v = .agg #[.int .i64 d.y, .int .i64 d.m, .bool d.s, .int .i64 d.d] := by
  obtain ⟨cs, rfl, _⟩ := okWide_struct Tryd.underlying39 hv
  obtain ⟨fuel, hf⟩ := h
  obtain ⟨d, hd⟩ := date_cells hf
  obtain ⟨cs⟩ := cs
  have hd' : cs = [.int .i64 d.y, .int .i64 d.m, .bool d.s, .int .i64 d.d] := hd
  exact ⟨d, by rw [hd']⟩
theorem trace_open {r : Reach} {b0 : Nat} {v : Value} {d : DataW H} {p : List MemPlace} (hv : Value.okWide Tryd.prog w r b0 33 v) (h : DataW.Trod enc Tryd.prog w base spare held 33 v d p) :
    ∃ t : Tr, v = .agg #[.int .i64 t.d, .bool t.more, .int .i64 t.m, .bool t.s, .string t.nm, .int .i64 t.af, .string t.kg] ∧ t.nm.size ≤ maxLen ∧ t.kg.size ≤ maxLen := by
  obtain ⟨cs, rfl, _⟩ := okWide_struct Tryd.underlying33 hv
  obtain ⟨fuel, hf⟩ := h
  obtain ⟨t, ht, h1, h2⟩ := trace_cells hf
  obtain ⟨cs⟩ := cs
  have ht' : cs = t.cells := ht
  exact ⟨t, by rw [ht']; rfl, h1, h2⟩

theorem wf64 {z : Int} (h : (Lit.int .i64 z).wf = true) : -9223372036854775808 ≤ z ∧ z ≤ 9223372036854775807 := by
  have e1 : IntKind.i64.min = -9223372036854775808 := rfl
  have e2 : IntKind.i64.max = 9223372036854775807 := rfl
  simp only [Lit.wf, Bool.and_eq_true, decide_eq_true_eq] at h
  omega
theorem two_open {r : Reach} {b0 : Nat} {v : Value} {d : DataW H} {p : List MemPlace} (hv : Value.okWide Tryd.prog w r b0 41 v) (h : DataW.Trod enc Tryd.prog w base spare held 41 v d p) :
    ∃ a b : Dt, v = .agg #[.int .i64 a.y, .int .i64 a.m, .bool a.s, .int .i64 a.d, .int .i64 b.y, .int .i64 b.m, .bool b.s, .int .i64 b.d] := by
  obtain ⟨cs, rfl, hsz⟩ := okWide_struct Tryd.underlying41 hv
  obtain ⟨fuel, hf⟩ := h
  obtain ⟨xs, m, _, _, hlen, hxl, hf⟩ := DataW.trod_struct Tryd.underlying41 hf
  obtain ⟨cs⟩ := cs
  have e8 : Tryd.prog.cellsOf 41 = 8 := by kernel_rfl
  rw [e8] at hsz
  match cs, hsz with
  | [c0, c1, c2, c3, c4, c5, c6, c7], _ =>
    obtain ⟨_, h0⟩ := sub_read hxl (by decide) (hf 0 _ rfl) cells_date
    obtain ⟨_, h1⟩ := sub_read hxl (by decide) (hf 1 _ rfl) cells_date
    obtain ⟨a, ha⟩ := date_cells h0
    obtain ⟨b, hb⟩ := date_cells h1
    simp only [Value.cells] at ha hb
    obtain ⟨rfl, rfl, rfl, rfl⟩ := ha
    obtain ⟨rfl, rfl, rfl, rfl⟩ := hb
    exact ⟨a, b, rfl⟩

/-! ### The row's last step -/
theorem trodAll_ext (hx : Ext W W') : ∀ {ts : List TypeId} {vs : List Value} {ds : List (DataW H)} {ps : List MemPlace}, DataW.TrodAll enc Tryd.prog W base spare held ts vs ds ps → (∀ p ∈ ps, p.block < W.heap.size) → DataW.TrodAll enc Tryd.prog W' base spare held ts vs ds ps
  | [], [], [], _, h, _ => h
  | _ :: _, _ :: _, _ :: _, _, ⟨p, q, ⟨n, h1⟩, h2, e⟩, hs => ⟨p, q, ⟨n, DataW.trod_carry _ _ _ _ h1 (fun x hx' => Below.same hx (hs x (by rw [e]; exact List.mem_append_left _ hx')))⟩, trodAll_ext hx h2 (fun x hx' => hs x (by rw [e]; exact List.mem_append_right _ hx')), e⟩
/-- A law has returned true, and the world is the old one and new blocks. -/
theorem law_post {fn : Func} {s : ChangeSpec} {args : Array Value} {ds : List (DataW H)} {p : List MemPlace} (hp : ∀ t ∈ fn.params.toList, t < Tryd.prog.types.size) (hr : fn.resultTypes = #[4]) (hvars : s.vars = [])
    (hfn : (s.fn H ds).results = [.lit (.bool true)]) (hfa : (s.fn H ds).args = ds) (hfv : (s.fn H ds).vars = [])
    (hA : DataW.TrodAll enc Tryd.prog W 0 (fun _ => true) true fn.params.toList args.toList ds p)
    (hW : DataW.Whole enc Tryd.prog fn.params.toList s.vars false W args.toList ds [] p) (hx : Ext W W') : s.post enc Tryd.prog fn false true false false W args (.bool true) W' := by
  have hlt : ∀ x ∈ p, x.block < W.heap.size := fun x hx => hW.lt x hx
  have hold : ∀ x ∈ p, (fun b => decide (b < W.heap.size)) x.block = true := fun x hx => by simpa using hlt x hx
  have e0 : ds ++ ([] : List (DataW H)) = ds := List.append_nil _
  have hargs : ∀ sp : Nat → Bool, (∀ x ∈ p, sp x.block = true) → DataW.TrodAll enc Tryd.prog W' 0 sp true fn.params.toList args.toList (s.fn H (ds ++ [])).args p := fun sp hsp => by
    rw [e0, hfa]
    exact DataW.TrodAll.respare kids_prog full_prog hp (trodAll_ext hx hA hlt) hsp
  have hvs : ∀ sp : Nat → Bool, DataW.TrodVars enc Tryd.prog W' sp s.vars (s.fn H (ds ++ [])).vars [] := fun sp => by
    rw [e0, hfv, hvars]; rfl
  have hres : ∀ (b : Nat) (sp : Nat → Bool) (hd : Bool), DataW.TrodAll enc Tryd.prog W' b sp hd fn.resultTypes.toList ((Value.bool true).resultList fn.resultTypes.size) (s.fn H (ds ++ [])).results [] := fun b sp hd => by
    rw [e0, hfn, hr]
    exact trodAll_cons_mk (shut_bool Tryd.underlying4 _) trodAll_mk0
  refine ⟨ds, [], p, [], p, [], hW, hres _ _ _, hargs _ hold, hvs _, World.keptBut_mono (fun x hx' => ⟨hx', .inr (.inl hx')⟩) ((Ext.below hx).frame (· ∈ p)), fun _ => ?_⟩
  · obtain ⟨_, _, _, _, _, hz, hn⟩ := hW
    refine ⟨ok_one hr rfl (okWide_bool_mk Tryd.underlying4 _), _, _, ([] ++ p) ++ [], ⟨[] ++ p, [], trodAll_append (hargs _ (fun _ _ => rfl)) (hres _ _ _), hvs _, rfl, ?_, ?_⟩, ?_⟩
    · intro b off hp
      have hin : MemPlace.cell b off ∈ p := by simpa using hp
      rw [Below.frozen hx (hlt _ hin)]
      exact hz b off hin
    · intro ha; cases ha
    · intro x hp _
      simpa using hp
end
end Go.Proofs.YtfchchmmjabjnaaDoor

set_option maxRecDepth 100000
namespace Go.Proofs.YtfchchmmjabjnaaDoor
open Go Go.ChangeShapes Go.WideShapes Go.ChangeAt Go.RowKit Go.Deep
section
variable {H : Type} {enc : TypeId × Value → H} {w : World} {base : Nat} {spare : Nat → Bool} {held : Bool} {r : Reach} {b0 : Nat} {v : Value} {d : DataW H} {p : List MemPlace}
theorem int_open (hv : Value.okWide Tryd.prog w r b0 3 v) (h : DataW.Trod enc Tryd.prog w base spare held 3 v d p) : ∃ z : Int, v = .int .i64 z ∧ -9223372036854775808 ≤ z ∧ z ≤ 9223372036854775807 := by
  obtain ⟨z, rfl⟩ := okWide_int Tryd.underlying3 hv
  obtain ⟨n, h⟩ := h
  obtain ⟨z', e, h1⟩ := int_cell (v := .int .i64 z) ⟨_, h⟩
  cases e
  exact ⟨z, rfl, h1⟩
theorem string_open (hv : Value.okWide Tryd.prog w r b0 9 v) (h : DataW.Trod enc Tryd.prog w base spare held 9 v d p) : ∃ s : ByteArray, v = .string s ∧ s.size ≤ maxLen := by
  obtain ⟨s, rfl⟩ := okWide_string Tryd.underlying9 hv
  obtain ⟨n, h⟩ := h
  obtain ⟨s', e, h1⟩ := string_cell (v := .string s) ⟨_, h⟩
  cases e
  exact ⟨s, rfl, h1⟩
theorem traces_open (hv : Value.okWide Tryd.prog w r b0 26 v) (h : DataW.Trod enc Tryd.prog w base spare held 26 v d p) :
    ∃ (B : Option Addr) (n cap : Nat) (f : Nat → Tr), v = .slice B n cap ∧ RowsAt w B n 7 (fun i => (f i).cells) ∧ n ≤ cap ∧ cap ≤ maxLen := by
  obtain ⟨a, len, cap, rfl⟩ := okWide_slice Tryd.underlying26 hv
  obtain ⟨n, h⟩ := h
  obtain ⟨B, n', cap', f, h1, h2, h3, h4, _⟩ := slice_rows (v := .slice a len cap) (f := fun t : Tr => t.cells) (p := fun t => t.nm.size ≤ maxLen ∧ t.kg.size ≤ maxLen) ⟨0, false, 0, false, ByteArray.empty, 0, ByteArray.empty⟩ Tryd.underlying26 cells_trace (by decide) (fun _ => rfl) (fun n cs x hx => trace_cells hx) ⟨_, h⟩
  exact ⟨B, n', cap', f, h1, h2, h3, h4⟩
theorem ints_open (hv : Value.okWide Tryd.prog w r b0 63 v) (h : DataW.Trod enc Tryd.prog w base spare held 63 v d p) :
    ∃ (B : Option Addr) (n cap : Nat) (f : Nat → Int), v = .slice B n cap ∧ RowsAt w B n 1 (fun i => [.int .i64 (f i)]) ∧ n ≤ cap ∧ cap ≤ maxLen ∧ ∀ i, i < n → -9223372036854775808 ≤ f i ∧ f i ≤ 9223372036854775807 := by
  obtain ⟨a, len, cap, rfl⟩ := okWide_slice Tryd.underlying63 hv
  obtain ⟨n, h⟩ := h
  exact slice_rows (v := .slice a len cap) (f := fun z : Int => [.int .i64 z]) (p := fun z => -9223372036854775808 ≤ z ∧ z ≤ 9223372036854775807) 0 Tryd.underlying63 cells_int (by decide) (fun _ => rfl) (fun n cs x hx => by
    obtain ⟨z, e, _, _⟩ := DataW.trod_int Tryd.underlying3 hx
    subst e
    obtain ⟨z', e, h1⟩ := int_cell (v := .int .i64 z) ⟨_, hx⟩
    cases e
    exact ⟨z, rfl, h1⟩) ⟨_, h⟩
theorem arr_open (hv : Value.okWide Tryd.prog w r b0 47 v) (h : DataW.Trod enc Tryd.prog w base spare held 47 v d p) :
    ∃ x y : Int, v = .agg #[.int .i64 x, .int .i64 y] ∧ (-9223372036854775808 ≤ x ∧ x ≤ 9223372036854775807) ∧ -9223372036854775808 ≤ y ∧ y ≤ 9223372036854775807 := by
  have hc : ∃ cs, v = .agg cs ∧ cs.size = 2 := by
    simp only [Value.okWide, Tryd.underlying47] at hv
    obtain ⟨cs, h1, h2, _⟩ := hv
    exact ⟨cs, h1, h2.trans (by kernel_rfl)⟩
  obtain ⟨cs, rfl, hsz⟩ := hc
  obtain ⟨fuel, hf⟩ := h
  obtain ⟨xs, m, _, _, _, hxl, hf⟩ := DataW.trod_array Tryd.underlying47 hf
  obtain ⟨cs⟩ := cs
  match cs, hsz with
  | [a, b], _ =>
    have e0 := hf 0 (by decide)
    have e1 := hf 1 (by decide)
    rw [cells_int] at e0 e1
    rw [List.getElem?_eq_getElem (by omega)] at e0 e1
    obtain ⟨x, rfl, hx⟩ := int_cell ⟨_, e0⟩
    obtain ⟨y, rfl, hy⟩ := int_cell ⟨_, e1⟩
    exact ⟨x, y, rfl, hx, hy⟩
theorem added_open (hv : Value.okWide Tryd.prog w r b0 55 v) (h : DataW.Trod enc Tryd.prog w base spare held 55 v d p) :
    ∃ (t : Tr) (k : Int), v = .agg #[.int .i64 t.d, .bool t.more, .int .i64 t.m, .bool t.s, .string t.nm, .int .i64 t.af, .string t.kg, .int .i64 k] ∧ -9223372036854775808 ≤ k ∧ k ≤ 9223372036854775807 := by
  obtain ⟨cs, rfl, hsz⟩ := okWide_struct Tryd.underlying55 hv
  obtain ⟨fuel, hf⟩ := h
  obtain ⟨xs, m, _, _, hlen, hxl, hf⟩ := DataW.trod_struct Tryd.underlying55 hf
  obtain ⟨cs⟩ := cs
  have e8 : Tryd.prog.cellsOf 55 = 8 := by kernel_rfl
  rw [e8] at hsz
  match cs, hsz with
  | [c0, c1, c2, c3, c4, c5, c6, c7], _ =>
    obtain ⟨_, h0⟩ := sub_read hxl (by decide) (hf 0 _ rfl) cells_trace
    obtain ⟨t, ht, _⟩ := trace_cells h0
    obtain ⟨k, hk, h1⟩ := int_cell (sub_read hxl (by decide) (hf 1 _ rfl) cells_int)
    have ht' : [c0, c1, c2, c3, c4, c5, c6] = t.cells := ht
    simp only [Tr.cells, List.cons.injEq] at ht'
    obtain ⟨rfl, rfl, rfl, rfl, rfl, rfl, rfl, _⟩ := ht'
    subst hk
    exact ⟨t, k, rfl, h1⟩
end
end Go.Proofs.YtfchchmmjabjnaaDoor

set_option maxRecDepth 100000
namespace Go.Proofs.YtfchchmmjabjnaaDoor
open Go Go.ChangeShapes Go.WideShapes Go.ChangeAt Go.RowKit Go.Deep
section
variable {H : Type} {enc : TypeId × Value → H} {w : World} {base : Nat} {spare : Nat → Bool} {held : Bool} {r : Reach} {b0 : Nat} {v : Value} {d : DataW H} {p : List MemPlace}
theorem sized_arg {P : Program} {ts : List TypeId} {ds : List (DataW H)} {j : Nat} {t : TypeId} (h : (DataW.weightsEach P ts ds).all (· ≤ reachBytes) = true) (ht : ts[j]? = some t) (hd : ds[j]? = some d) : ∀ n ∈ d.weights P t, n ≤ reachBytes := fun n hn => by
  have := List.all_eq_true.1 h _ (DataW.weights_mem_each ht hd n hn)
  simpa using this
theorem slice_light {P : Program} {t e : TypeId} {A : Option Addr} {n cap m : Nat} {x : DataW H × List MemPlace} (ht : P.underlying t = some (.slice e)) (h : DataW.trod enc P w base spare held m t [.slice A n cap] = some x) (hl : ∀ k ∈ x.1.weights P t, k ≤ reachBytes) :
    (A = none → n = 0 ∧ cap = 0) ∧ n * P.bytesOf e ≤ reachBytes := by
  rcases open_slice ht h with ⟨hcs, _⟩ | ⟨a, len, cap', k, m, D, Pl, hcs, _, _, _, _, hx, _⟩
  · simp at hcs
    obtain ⟨rfl, rfl, rfl⟩ := hcs
    exact ⟨fun _ => ⟨rfl, rfl⟩, by simp⟩
  · simp at hcs
    obtain ⟨rfl, rfl, rfl⟩ := hcs
    refine ⟨fun h => (by cases h), ?_⟩
    rw [hx] at hl
    have := hl ((n + (k - n)) * P.bytesOf e) (by simp [DataW.weights, ht])
    exact Nat.le_trans (Nat.mul_le_mul_right _ (Nat.le_add_right _ _)) this
theorem sub_at {P : Program} {m : Nat} {t : TypeId} {cs : List Value} {o : Nat} {xs : List (DataW H × List MemPlace)} {n i : Nat} (hi : i < xs.length) (h : DataW.trod enc P w base spare held m t ((cs.drop o).take (P.cellsOf t)) = xs[i]?) (hn : P.cellsOf t = n) :
    DataW.trod enc P w base spare held m t ((cs.drop o).take n) = some xs[i] := by
  rw [hn] at h
  rw [h, List.getElem?_eq_getElem hi]
theorem bytes_string : Tryd.prog.bytesOf 9 = 16 := by kernel_rfl
theorem bytes_year : Tryd.prog.bytesOf 99 = 40 := by kernel_rfl
theorem bytes_trace : Tryd.prog.bytesOf 33 = 72 := by kernel_rfl
theorem reach_eq : reachBytes = 140737488351232 := rfl
theorem cal_sized (hv : Value.okWide Tryd.prog w r b0 25 v) (h : DataW.Trod enc Tryd.prog w base spare held 25 v d p) (hl : ∀ n ∈ d.weights Tryd.prog 25, n ≤ reachBytes) :
    ∃ A A' ca cb c, v = .agg #[.slice A c.nk ca, .slice A' c.ny cb] ∧ CalAt w A ca A' cb c ∧ (A = none → c.nk = 0 ∧ ca = 0) ∧ (A' = none → c.ny = 0 ∧ cb = 0) ∧ c.nk * 16 ≤ 140737488351232 ∧ c.ny * 40 ≤ 140737488351232 := by
  obtain ⟨A, A', ca, cb, c, rfl, hC⟩ := cal_open hv h
  refine ⟨A, A', ca, cb, c, rfl, hC, ?_⟩
  obtain ⟨fuel, hf⟩ := h
  obtain ⟨xs, m, _, hx, hlen, hxl, hg⟩ := DataW.trod_struct Tryd.underlying25 hf
  have hxl2 : xs.length = 2 := hxl
  simp only [Prod.mk.injEq] at hx
  obtain ⟨rfl, _⟩ := hx
  have hl' : ∀ n ∈ DataW.weightsEach Tryd.prog [22, 23] (xs.map (·.1)), n ≤ reachBytes := fun n hn => hl n (by
    simp only [DataW.weights, Tryd.underlying25]
    exact hn)
  have e0 := sub_at (by omega) (hg 0 _ rfl) (n := 1) (by kernel_rfl)
  have e1 := sub_at (by omega) (hg 1 _ rfl) (n := 1) (by kernel_rfl)
  have g0 := slice_light Tryd.underlying22 e0 (fun k hk => hl' k (DataW.weights_mem_each (j := 0) rfl (by rw [List.getElem?_map, List.getElem?_eq_getElem (by omega)]; rfl) k hk))
  have g1 := slice_light Tryd.underlying23 e1 (fun k hk => hl' k (DataW.weights_mem_each (j := 1) rfl (by rw [List.getElem?_map, List.getElem?_eq_getElem (by omega)]; rfl) k hk))
  rw [bytes_string, reach_eq] at g0
  rw [bytes_year, reach_eq] at g1
  exact ⟨g0.1, g1.1, g0.2, g1.2⟩
theorem traces_sized (hv : Value.okWide Tryd.prog w r b0 26 v) (h : DataW.Trod enc Tryd.prog w base spare held 26 v d p) (hl : ∀ n ∈ d.weights Tryd.prog 26, n ≤ reachBytes) :
    ∃ (B : Option Addr) (n cap : Nat) (f : Nat → Tr), v = .slice B n cap ∧ RowsAt w B n 7 (fun i => (f i).cells) ∧ n ≤ cap ∧ cap ≤ maxLen ∧ (B = none → n = 0 ∧ cap = 0) ∧ n * 72 ≤ 140737488351232 := by
  obtain ⟨B, n, cap, f, rfl, h1, h2, h3⟩ := traces_open hv h
  obtain ⟨fuel, hf⟩ := h
  have g := slice_light Tryd.underlying26 hf hl
  rw [bytes_trace, reach_eq] at g
  exact ⟨B, n, cap, f, rfl, h1, h2, h3, g.1, g.2⟩
theorem texts_sized (hv : Value.okWide Tryd.prog w r b0 22 v) (h : DataW.Trod enc Tryd.prog w base spare held 22 v d p) (hl : ∀ n ∈ d.weights Tryd.prog 22, n ≤ reachBytes) :
    ∃ (B : Option Addr) (n cap : Nat) (f : Nat → ByteArray), v = .slice B n cap ∧ RowsAt w B n 1 (fun i => [.string (f i)]) ∧ n ≤ cap ∧ cap ≤ maxLen ∧ (B = none → n = 0 ∧ cap = 0) ∧ n * 16 ≤ 140737488351232 := by
  obtain ⟨a, len, cap, rfl⟩ := okWide_slice Tryd.underlying22 hv
  obtain ⟨fuel, hf⟩ := h
  obtain ⟨A, nk, ca, kg, e, r0, c0, m0, _⟩ := slice_rows (f := fun s : ByteArray => [.string s]) (p := fun _ => True) ByteArray.empty Tryd.underlying22 cells_string (by decide) (fun _ => rfl) (fun n cs x hx => by
    obtain ⟨s, h1, _⟩ := DataW.trod_string Tryd.underlying9 hx
    exact ⟨s, h1, trivial⟩) ⟨_, hf⟩
  have g := slice_light Tryd.underlying22 hf hl
  rw [bytes_string, reach_eq] at g
  cases e
  exact ⟨_, _, _, kg, rfl, r0, c0, m0, g.1, g.2⟩
theorem ask_open (hv : Value.okWide Tryd.prog w r b0 88 v) (h : DataW.Trod enc Tryd.prog w base spare held 88 v d p) :
    ∃ (y m : Int) (s : Bool) (n : Int), v = .agg #[.int .i64 y, .int .i64 m, .bool s, .int .i64 n] ∧ (-9223372036854775808 ≤ y ∧ y ≤ 9223372036854775807) ∧ -9223372036854775808 ≤ n ∧ n ≤ 9223372036854775807 := by
  obtain ⟨cs, rfl, hsz⟩ := okWide_struct Tryd.underlying88 hv
  obtain ⟨fuel, hf⟩ := h
  obtain ⟨xs, m, _, _, hlen, hxl, hf⟩ := DataW.trod_struct Tryd.underlying88 hf
  obtain ⟨cs⟩ := cs
  have e4 : Tryd.prog.cellsOf 88 = 4 := by kernel_rfl
  rw [e4] at hsz
  match cs, hsz with
  | [c0, c1, c2, c3], _ =>
    obtain ⟨y, rfl, hy⟩ := int_cell (sub_read hxl (by decide) (hf 0 _ rfl) cells_int)
    obtain ⟨m, rfl, _⟩ := int_cell (sub_read hxl (by decide) (hf 1 _ rfl) cells_int)
    obtain ⟨s, rfl⟩ := bool_cell (sub_read hxl (by decide) (hf 2 _ rfl) cells_bool)
    obtain ⟨n, rfl, hn⟩ := int_cell (sub_read hxl (by decide) (hf 3 _ rfl) cells_int)
    exact ⟨y, m, s, n, rfl, hy, hn⟩
theorem names_open (hv : Value.okWide Tryd.prog w r b0 81 v) (h : DataW.Trod enc Tryd.prog w base spare held 81 v d p) :
    ∃ x y : ByteArray, v = .agg #[.string x, .string y] ∧ x.size ≤ maxLen ∧ y.size ≤ maxLen := by
  have hc : ∃ cs, v = .agg cs ∧ cs.size = 2 := by
    simp only [Value.okWide, Tryd.underlying81] at hv
    obtain ⟨cs, h1, h2, _⟩ := hv
    exact ⟨cs, h1, h2.trans (by kernel_rfl)⟩
  obtain ⟨cs, rfl, hsz⟩ := hc
  obtain ⟨fuel, hf⟩ := h
  obtain ⟨xs, m, _, _, _, hxl, hf⟩ := DataW.trod_array Tryd.underlying81 hf
  obtain ⟨cs⟩ := cs
  match cs, hsz with
  | [a, b], _ =>
    have e0 := hf 0 (by decide)
    have e1 := hf 1 (by decide)
    rw [cells_string] at e0 e1
    rw [List.getElem?_eq_getElem (by omega)] at e0 e1
    obtain ⟨x, rfl, hx⟩ := string_cell ⟨_, e0⟩
    obtain ⟨y, rfl, hy⟩ := string_cell ⟨_, e1⟩
    exact ⟨x, y, rfl, hx, hy⟩
end
end Go.Proofs.YtfchchmmjabjnaaDoor

set_option maxRecDepth 100000
namespace Go.Proofs.YtfchchmmjabjnaaDoor
open Go Go.ChangeShapes Go.WideShapes Go.ChangeAt Go.RowKit

theorem laid_met (os : Os) (args : Array Value) : laidMet Tryd.prog Rows.dateOrderRow.laid ((World.doorLaid Tryd.prog 29 os).forCall (fun _ _ => 0) ⟨#[], args, []⟩).memory :=
  laidMet_of_run3 8 (by kernel_rfl) (by kernel_rfl) (by kernel_rfl)
end Go.Proofs.YtfchchmmjabjnaaDoor

set_option maxRecDepth 100000
namespace Go.Proofs.YtfchchmmjabjnaaDoor
open Go Go.ChangeShapes Go.WideShapes Go.ChangeAt Go.RowKit
theorem sh_laid : laidOutB Tryd.prog = true := by kernel_rfl
theorem sh_maps : mapsRowed Tryd.prog = true := by kernel_rfl
theorem sh_keys : Tryd.prog.plainKeys = false := by kernel_rfl
theorem sh_heard : Tryd.prog.stopsHeard = true := by kernel_rfl
theorem sh_may : Tryd.prog.mayEnter = true := by kernel_rfl
theorem sh_lift : Tryd.prog.liftsFinal = Rows.dateOrderRow.lifted := by kernel_rfl
theorem sh_make : Tryd.prog.make = some Rows.dateOrderRow.make := by kernel_rfl
end Go.Proofs.YtfchchmmjabjnaaDoor

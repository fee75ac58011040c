/- The arguments opened, and the row's last step: no conditions but those that each lemma states. -/
import Derived.Test.YtfchchmmjabjnaaDoorRead
import Derived.Test.YtfchchmmjabjnaaDoorRows
import Derived.Deep.Slices
import Derived.Deep.Fields
import Derived.Below
import Derived.ReadAgain
import Derived.ChangeSame
import Derived.ProofKit
import Derived.OpenShut
set_option maxRecDepth 100000
namespace Go.Proofs.YtfchchmmjabjnaaDoor
open Go Go.ChangeShapes Go.WideShapes Go.ChangeAt Go.RowKit Go.Deep

theorem own_none : ownKnob Tryd.prog.godebug = none := by kernel_rfl
theorem kids_prog : Kids Tryd.prog (· < Tryd.prog.types.size) := kids_rows (by kernel_rfl) (by kernel_rfl)
theorem full_prog : ∀ t e, t < Tryd.prog.types.size → Tryd.prog.underlying t = some (.slice e) → 0 < Tryd.prog.cellsOf e := slices_full_of Tryd.prog (by kernel_rfl)
theorem cells_int : Tryd.prog.cellsOf 3 = 1 := by kernel_rfl
theorem cells_bool : Tryd.prog.cellsOf 4 = 1 := by kernel_rfl
theorem cells_string : Tryd.prog.cellsOf 9 = 1 := by kernel_rfl
theorem cells_year : Tryd.prog.cellsOf 99 = 4 := by kernel_rfl
theorem cells_date : Tryd.prog.cellsOf 39 = 4 := by kernel_rfl
theorem cells_trace : Tryd.prog.cellsOf 33 = 7 := by kernel_rfl
theorem cells_cal : Tryd.prog.cellsOf 25 = 2 := by kernel_rfl

section
variable {H : Type} {enc : TypeId × Value → H} {w W W' : World} {base : Nat} {spare : Nat → Bool} {held : Bool}
theorem sub_read {P : Program} {m k : Nat} {t : TypeId} {cs : List Value} {o : Nat} {xs : List (DataW H × List MemPlace)} {n i : Nat} (hxl : xs.length = k) (hi : i < k) (h : DataW.trod enc P w base spare held m t ((cs.drop o).take (P.cellsOf t)) = xs[i]?) (hn : P.cellsOf t = n) :
    ∃ y, DataW.trod enc P w base spare held m t ((cs.drop o).take n) = some y := by
  rw [hn] at h
  rw [List.getElem?_eq_getElem (by omega)] at h
  exact ⟨_, h⟩
theorem int_cell {m : Nat} {v : Value} (h : ∃ y, DataW.trod enc Tryd.prog w base spare held m 3 [v] = some y) : ∃ z : Int, v = .int .i64 z ∧ -9223372036854775808 ≤ z ∧ z ≤ 9223372036854775807 := by
  obtain ⟨y, h⟩ := h
  obtain ⟨z, h1, _, h2⟩ := DataW.trod_int Tryd.underlying3 h
  have e1 : IntKind.i64.min = -9223372036854775808 := rfl
  have e2 : IntKind.i64.max = 9223372036854775807 := rfl
  simp only [Lit.wf, Bool.and_eq_true, decide_eq_true_eq] at h2
  exact ⟨z, by simpa using h1, by omega, by omega⟩
theorem bool_cell {m : Nat} {v : Value} (h : ∃ y, DataW.trod enc Tryd.prog w base spare held m 4 [v] = some y) : ∃ z : Bool, v = .bool z := by
  obtain ⟨y, h⟩ := h
  obtain ⟨z, h1, _⟩ := DataW.trod_bool Tryd.underlying4 h
  exact ⟨z, by simpa using h1⟩
theorem string_cell {m : Nat} {v : Value} (h : ∃ y, DataW.trod enc Tryd.prog w base spare held m 9 [v] = some y) : ∃ z : ByteArray, v = .string z ∧ z.size ≤ maxLen := by
  obtain ⟨y, h⟩ := h
  obtain ⟨z, h1, _, h2⟩ := DataW.trod_string Tryd.underlying9 h
  exact ⟨z, by simpa using h1, h2⟩
theorem year_cells {n : Nat} {cs : List Value} {x : DataW H × List MemPlace} (h : DataW.trod enc Tryd.prog w base spare held n 99 cs = some x) : ∃ y : Yr, cs = y.cells ∧ True := by
  obtain ⟨xs, m, _, _, hlen, hxl, hf⟩ := DataW.trod_struct Tryd.underlying99 h
  rw [cells_year] at hlen
  match cs, hlen with
  | [a, b, c, d], _ =>
    obtain ⟨z0, rfl, _⟩ := int_cell (sub_read hxl (by decide) (hf 0 _ rfl) cells_int)
    obtain ⟨z1, rfl, _⟩ := string_cell (sub_read hxl (by decide) (hf 1 _ rfl) cells_string)
    obtain ⟨z2, rfl, _⟩ := int_cell (sub_read hxl (by decide) (hf 2 _ rfl) cells_int)
    obtain ⟨z3, rfl, _⟩ := int_cell (sub_read hxl (by decide) (hf 3 _ rfl) cells_int)
    exact ⟨⟨z0, z1, z2, z3⟩, rfl, trivial⟩
theorem date_cells {n : Nat} {cs : List Value} {x : DataW H × List MemPlace} (h : DataW.trod enc Tryd.prog w base spare held n 39 cs = some x) : ∃ d : Dt, cs = [.int .i64 d.y, .int .i64 d.m, .bool d.s, .int .i64 d.d] := by
  obtain ⟨xs, m, _, _, hlen, hxl, hf⟩ := DataW.trod_struct Tryd.underlying39 h
  rw [cells_date] at hlen
  match cs, hlen with
  | [a, b, c, d], _ =>
    obtain ⟨z0, rfl, _⟩ := int_cell (sub_read hxl (by decide) (hf 0 _ rfl) cells_int)
    obtain ⟨z1, rfl, _⟩ := int_cell (sub_read hxl (by decide) (hf 1 _ rfl) cells_int)
    obtain ⟨z2, rfl⟩ := bool_cell (sub_read hxl (by decide) (hf 2 _ rfl) cells_bool)
    obtain ⟨z3, rfl, _⟩ := int_cell (sub_read hxl (by decide) (hf 3 _ rfl) cells_int)
    exact ⟨⟨z0, z1, z2, z3⟩, rfl⟩
theorem trace_cells {n : Nat} {cs : List Value} {x : DataW H × List MemPlace} (h : DataW.trod enc Tryd.prog w base spare held n 33 cs = some x) : ∃ t : Tr, cs = t.cells ∧ (t.nm.size ≤ maxLen ∧ t.kg.size ≤ maxLen) := by
  obtain ⟨xs, m, _, _, hlen, hxl, hf⟩ := DataW.trod_struct Tryd.underlying33 h
  rw [cells_trace] at hlen
  match cs, hlen with
  | [a, b, c, d, e, f, g], _ =>
    obtain ⟨z0, rfl, _⟩ := int_cell (sub_read hxl (by decide) (hf 0 _ rfl) cells_int)
    obtain ⟨z1, rfl⟩ := bool_cell (sub_read hxl (by decide) (hf 1 _ rfl) cells_bool)
    obtain ⟨z2, rfl, _⟩ := int_cell (sub_read hxl (by decide) (hf 2 _ rfl) cells_int)
    obtain ⟨z3, rfl⟩ := bool_cell (sub_read hxl (by decide) (hf 3 _ rfl) cells_bool)
    obtain ⟨z4, rfl, h4⟩ := string_cell (sub_read hxl (by decide) (hf 4 _ rfl) cells_string)
    obtain ⟨z5, rfl, _⟩ := int_cell (sub_read hxl (by decide) (hf 5 _ rfl) cells_int)
    obtain ⟨z6, rfl, h6⟩ := string_cell (sub_read hxl (by decide) (hf 6 _ rfl) cells_string)
    exact ⟨⟨z0, z1, z2, z3, z4, z5, z6⟩, rfl, h4, h6⟩
/-- A slice whose elements are each read as some α. -/
theorem slice_rows {P : Program} {α : Type} {t e : TypeId} {sz m : Nat} {v : Value} {f : α → List Value} {p : α → Prop} (d0 : α) (ht : P.underlying t = some (.slice e)) (hC : P.cellsOf e = sz) (hsz : 0 < sz) (hl : ∀ y, (f y).length = sz)
    (hone : ∀ n cs x, DataW.trod enc P w base spare held n e cs = some x → ∃ y, cs = f y ∧ p y) (h : ∃ y, DataW.trod enc P w base spare held m t [v] = some y) :
    ∃ (A : Option Addr) (n cap : Nat) (g : Nat → α), v = .slice A n cap ∧ RowsAt w A n sz (fun i => f (g i)) ∧ n ≤ cap ∧ cap ≤ maxLen ∧ ∀ i, i < n → p (g i) := by
  obtain ⟨x, h⟩ := h
  rcases open_slice ht h with ⟨hcs, _⟩ | ⟨a, len, cap, k, n, D, Pl, hcs, hb, hlc, hcm, hk, hx, hi⟩
  · exact ⟨none, 0, 0, fun _ => d0, by simpa using hcs, RowsAt.nil, Nat.le_refl _, Nat.zero_le _, fun i hi => absurd hi (by omega)⟩
  · have hlk : len ≤ k := by rw [hk]; split <;> omega
    have each : ∀ i, ∃ y : α, i < len → (p y ∧ ∀ j u, (f y)[j]? = some u → w.cell? (a.add (i * sz + j)) = some u) := fun i => by
      by_cases hil : i < len
      · obtain ⟨cs', hc, htr⟩ := hi i (by omega)
        rw [hC] at hc
        obtain ⟨y, rfl, hp⟩ := hone _ _ _ htr
        obtain ⟨_, _, hat⟩ := World.cells?_some hc
        refine ⟨y, fun _ => ⟨hp, fun j u hu => ?_⟩⟩
        have hj : j < sz := by have := (List.getElem?_eq_some_iff.1 hu).1; rw [hl] at this; exact this
        rw [← Go.Deep.add_add, hat j hj, hu]
      · exact ⟨d0, fun h => absurd h hil⟩
    obtain ⟨g, hg⟩ := Classical.axiomOfChoice each
    refine ⟨some a, len, cap, g, by simpa using hcs, fun hn => ?_, hlc, hcm, fun i hi => (hg i hi).1⟩
    obtain ⟨b, off, spot⟩ := a
    have h00 : ((f (g 0))[0]?).isSome := by rw [List.getElem?_eq_getElem (by rw [hl]; exact hsz)]; rfl
    obtain ⟨u, hu⟩ := Option.isSome_iff_exists.1 h00
    have hc0 := (hg 0 hn).2 0 u hu
    have hspot : spot = none := by simpa [Addr.add] using World.cell?_spot hc0
    subst hspot
    have hc0' : w.cell? ⟨b, off, none⟩ = some u := by simpa [add_plain] using hc0
    refine ⟨b, off, rfl, ?_, fun i j v hi hv => ?_⟩
    · rcases Nat.lt_or_ge b w.heap.size with h1 | h1
      · exact h1
      · simp [World.cell?, Array.getElem?_eq_none h1] at hc0'
    · have := (hg i hi).2 j v hv
      rw [add_plain, ← Nat.add_assoc] at this
      exact this
theorem cal_open {r : Reach} {b0 : Nat} {v : Value} {d : DataW H} {p : List MemPlace} (hv : Value.okWide Tryd.prog w r b0 25 v) (h : DataW.Trod enc Tryd.prog w base spare held 25 v d p) :
    ∃ A A' ca cb c, v = .agg #[.slice A c.nk ca, .slice A' c.ny cb] ∧ CalAt w A ca A' cb c := by
  obtain ⟨cs, rfl, hsz⟩ := okWide_struct Tryd.underlying25 hv
  obtain ⟨fuel, hf⟩ := h
  obtain ⟨xs, m, _, _, hlen, hxl, hf⟩ := DataW.trod_struct Tryd.underlying25 hf
  obtain ⟨cs⟩ := cs
  rw [cells_cal] at hsz
  match cs, hsz with
  | [a, b], _ =>
    have h0 := sub_read hxl (by decide) (hf 0 _ rfl) (n := 1) (by kernel_rfl)
    have h1 := sub_read hxl (by decide) (hf 1 _ rfl) (n := 1) (by kernel_rfl)
    obtain ⟨A, nk, ca, kg, rfl, r0, c0, m0, _⟩ := slice_rows (f := fun s : ByteArray => [.string s]) (p := fun _ => True) ByteArray.empty Tryd.underlying22 cells_string (by decide) (fun _ => rfl) (fun n cs x hx => by
      obtain ⟨s, h1, _⟩ := DataW.trod_string Tryd.underlying9 hx
      exact ⟨s, h1, trivial⟩) h0
    obtain ⟨A', ny, cb, yr, rfl, r1, c1, m1, _⟩ := slice_rows (f := fun y : Yr => y.cells) (p := fun _ => True) ⟨0, ByteArray.empty, 0, 0⟩ Tryd.underlying23 cells_year (by decide) (fun _ => rfl) (fun n cs x hx => year_cells hx) h1
    have hm : maxLen ≤ 9223372036854775807 := by decide
    exact ⟨A, A', ca, cb, ⟨nk, kg, ny, yr⟩, rfl, r0, r1, by show nk ≤ _; omega, by show ny ≤ _; omega, c0, c1⟩
theorem date_open {r : Reach} {b0 : Nat} {v : Value} {d : DataW H} {p : List MemPlace} (hv : Value.okWide Tryd.prog w r b0 39 v) (h : DataW.Trod enc Tryd.prog w base spare held 39 v d p) :
    ∃ d : Dt, v = .agg #[.int .i64 d.y, .int .i64 d.m, .bool d.s, .int .i64 d.d] := by
  obtain ⟨cs, rfl, _⟩ := okWide_struct Tryd.underlying39 hv
  obtain ⟨fuel, hf⟩ := h
  obtain ⟨d, hd⟩ := date_cells hf
  obtain ⟨cs⟩ := cs
  have hd' : cs = [.int .i64 d.y, .int .i64 d.m, .bool d.s, .int .i64 d.d] := hd
  exact ⟨d, by rw [hd']⟩
theorem trace_open {r : Reach} {b0 : Nat} {v : Value} {d : DataW H} {p : List MemPlace} (hv : Value.okWide Tryd.prog w r b0 33 v) (h : DataW.Trod enc Tryd.prog w base spare held 33 v d p) :
    ∃ t : Tr, v = .agg #[.int .i64 t.d, .bool t.more, .int .i64 t.m, .bool t.s, .string t.nm, .int .i64 t.af, .string t.kg] ∧ t.nm.size ≤ maxLen ∧ t.kg.size ≤ maxLen := by
  obtain ⟨cs, rfl, _⟩ := okWide_struct Tryd.underlying33 hv
  obtain ⟨fuel, hf⟩ := h
  obtain ⟨t, ht, h1, h2⟩ := trace_cells hf
  obtain ⟨cs⟩ := cs
  have ht' : cs = t.cells := ht
  exact ⟨t, by rw [ht']; rfl, h1, h2⟩

theorem wf64 {z : Int} (h : (Lit.int .i64 z).wf = true) : -9223372036854775808 ≤ z ∧ z ≤ 9223372036854775807 := by
  have e1 : IntKind.i64.min = -9223372036854775808 := rfl
  have e2 : IntKind.i64.max = 9223372036854775807 := rfl
  simp only [Lit.wf, Bool.and_eq_true, decide_eq_true_eq] at h
  omega
theorem two_open {r : Reach} {b0 : Nat} {v : Value} {d : DataW H} {p : List MemPlace} (hv : Value.okWide Tryd.prog w r b0 41 v) (h : DataW.Trod enc Tryd.prog w base spare held 41 v d p) :
    ∃ a b : Dt, v = .agg #[.int .i64 a.y, .int .i64 a.m, .bool a.s, .int .i64 a.d, .int .i64 b.y, .int .i64 b.m, .bool b.s, .int .i64 b.d] := by
  obtain ⟨cs, rfl, hsz⟩ := okWide_struct Tryd.underlying41 hv
  obtain ⟨fuel, hf⟩ := h
  obtain ⟨xs, m, _, _, hlen, hxl, hf⟩ := DataW.trod_struct Tryd.underlying41 hf
  obtain ⟨cs⟩ := cs
  have e8 : Tryd.prog.cellsOf 41 = 8 := by kernel_rfl
  rw [e8] at hsz
  match cs, hsz with
  | [c0, c1, c2, c3, c4, c5, c6, c7], _ =>
    obtain ⟨_, h0⟩ := sub_read hxl (by decide) (hf 0 _ rfl) cells_date
    obtain ⟨_, h1⟩ := sub_read hxl (by decide) (hf 1 _ rfl) cells_date
    obtain ⟨a, ha⟩ := date_cells h0
    obtain ⟨b, hb⟩ := date_cells h1
    simp only [Value.cells] at ha hb
    obtain ⟨rfl, rfl, rfl, rfl⟩ := ha
    obtain ⟨rfl, rfl, rfl, rfl⟩ := hb
    exact ⟨a, b, rfl⟩

/-! ### The row's last step -/
theorem trodAll_ext (hx : Ext W W') : ∀ {ts : List TypeId} {vs : List Value} {ds : List (DataW H)} {ps : List MemPlace}, DataW.TrodAll enc Tryd.prog W base spare held ts vs ds ps → (∀ p ∈ ps, p.block < W.heap.size) → DataW.TrodAll enc Tryd.prog W' base spare held ts vs ds ps
  | [], [], [], _, h, _ => h
  | _ :: _, _ :: _, _ :: _, _, ⟨p, q, ⟨n, h1⟩, h2, e⟩, hs => ⟨p, q, ⟨n, DataW.trod_carry _ _ _ _ h1 (fun x hx' => Below.same hx (hs x (by rw [e]; exact List.mem_append_left _ hx')))⟩, trodAll_ext hx h2 (fun x hx' => hs x (by rw [e]; exact List.mem_append_right _ hx')), e⟩
/-- A law has returned true, and the world is the old one and new blocks. -/
theorem law_post {fn : Func} {s : ChangeSpec} {args : Array Value} {ds : List (DataW H)} {p : List MemPlace} (hp : ∀ t ∈ fn.params.toList, t < Tryd.prog.types.size) (hr : fn.resultTypes = #[4]) (hvars : s.vars = [])
    (hfn : (s.fn H ds).results = [.lit (.bool true)]) (hfa : (s.fn H ds).args = ds) (hfv : (s.fn H ds).vars = [])
    (hA : DataW.TrodAll enc Tryd.prog W 0 (fun _ => true) true fn.params.toList args.toList ds p)
    (hW : DataW.Whole enc Tryd.prog fn.params.toList s.vars false W args.toList ds [] p) (hx : Ext W W') : s.post enc Tryd.prog fn false true false false W args (.bool true) W' := by
  have hlt : ∀ x ∈ p, x.block < W.heap.size := fun x hx => hW.lt x hx
  have hold : ∀ x ∈ p, (fun b => decide (b < W.heap.size)) x.block = true := fun x hx => by simpa using hlt x hx
  have e0 : ds ++ ([] : List (DataW H)) = ds := List.append_nil _
  have hargs : ∀ sp : Nat → Bool, (∀ x ∈ p, sp x.block = true) → DataW.TrodAll enc Tryd.prog W' 0 sp true fn.params.toList args.toList (s.fn H (ds ++ [])).args p := fun sp hsp => by
    rw [e0, hfa]
    exact DataW.TrodAll.respare kids_prog full_prog hp (trodAll_ext hx hA hlt) hsp
  have hvs : ∀ sp : Nat → Bool, DataW.TrodVars enc Tryd.prog W' sp s.vars (s.fn H (ds ++ [])).vars [] := fun sp => by
    rw [e0, hfv, hvars]; rfl
  have hres : ∀ (b : Nat) (sp : Nat → Bool) (hd : Bool), DataW.TrodAll enc Tryd.prog W' b sp hd fn.resultTypes.toList ((Value.bool true).resultList fn.resultTypes.size) (s.fn H (ds ++ [])).results [] := fun b sp hd => by
    rw [e0, hfn, hr]
    exact trodAll_cons_mk (shut_bool Tryd.underlying4 _) trodAll_mk0
  refine ⟨ds, [], p, [], p, [], hW, hres _ _ _, hargs _ hold, hvs _, World.keptBut_mono (fun x hx' => ⟨hx', .inr (.inl hx')⟩) ((Ext.below hx).frame (· ∈ p)), fun _ => ?_⟩
  · obtain ⟨_, _, _, _, _, hz, hn⟩ := hW
    refine ⟨ok_one hr rfl (okWide_bool_mk Tryd.underlying4 _), _, _, ([] ++ p) ++ [], ⟨[] ++ p, [], trodAll_append (hargs _ (fun _ _ => rfl)) (hres _ _ _), hvs _, rfl, ?_, ?_⟩, ?_⟩
    · intro b off hp
      have hin : MemPlace.cell b off ∈ p := by simpa using hp
      rw [Below.frozen hx (hlt _ hin)]
      exact hz b off hin
    · intro ha; cases ha
    · intro x hp _
      simpa using hp
end
end Go.Proofs.YtfchchmmjabjnaaDoor

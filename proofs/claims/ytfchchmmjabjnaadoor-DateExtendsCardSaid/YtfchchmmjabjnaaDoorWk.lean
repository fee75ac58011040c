/- The walks of example, read, sameSpans and works: the examples with which each law ends. -/
import Derived.Test.YtfchchmmjabjnaaDoorWu
import Derived.Test.YtfchchmmjabjnaaDoorWz
import Derived.Test.YtfchchmmjabjnaaDoorRf
namespace Go.Proofs.YtfchchmmjabjnaaDoor
open Go Go.RowKit

def sWall : ByteArray := ⟨#[119, 97, 108, 108]⟩
def sCanal : ByteArray := ⟨#[99, 97, 110, 97, 108]⟩
def sUr : ByteArray := ⟨#[117, 114]⟩
def sSi : ByteArray := ⟨#[115, 105]⟩
def exYr : Nat → Yr
  | 0 => ⟨0, sWall, 4095, 0⟩
  | 1 => ⟨0, sCanal, 0, 6⟩
  | _ => ⟨1, sWall, 4095, 0⟩
def exKg : Nat → ByteArray
  | 0 => sUr
  | _ => sSi
def exCal : Cal := ⟨2, exKg, 3, exYr⟩
theorem ex_chk : exCal.chk = 0 := by kernel_rfl
theorem ex_num : exCal.numV ⟨1, 6, true, 1⟩ = 535 := by kernel_rfl
theorem ex_numE : exCal.inE ⟨1, 6, true, 1⟩ = 0 := by kernel_rfl
theorem ex_at : exCal.atV 1097 = ⟨2, 12, false, 30⟩ := by kernel_rfl
theorem ex_atE : exCal.atE 1097 = 0 := by kernel_rfl
theorem ex_atE2 : exCal.atE 1098 = 8 := by kernel_rfl
theorem ex_sch : exCal.schV ⟨0, 12, false, 30⟩ ⟨1, 2, false, 1⟩ = 31 := by kernel_rfl
theorem ex_bet : exCal.betV ⟨0, 12, false, 30⟩ ⟨1, 2, false, 1⟩ = 30 := by kernel_rfl
theorem ex_in2 : exCal.in2E ⟨0, 12, false, 30⟩ ⟨1, 2, false, 1⟩ = 0 := by kernel_rfl
def t1 : ByteArray := ⟨#[49, 50, 43, 47, 45, 47, 43, 119, 97, 108, 108, 64, 117, 114]⟩
def t2 : ByteArray := ⟨#[48, 49, 47, 49, 47, 45]⟩
def t3 : ByteArray := ⟨#[50, 57, 43, 47, 49, 47, 45]⟩
def t4 : ByteArray := ⟨#[45, 47, 49, 50, 47, 119, 97, 108, 108]⟩
def t5 : ByteArray := ⟨#[45, 47, 45, 47, 99, 97, 110, 97, 108]⟩
def t6 : ByteArray := ⟨#[49, 47, 49, 47, 45]⟩
def t7 : ByteArray := ⟨#[45, 47, 45, 47, 119, 97, 108, 108, 64, 117, 114]⟩
def noS : ByteArray := ⟨#[]⟩
theorem ex_p1 : parseS t1 = some ⟨12, true, 0, false, sWall, 1, sUr⟩ := by kernel_rfl
theorem ex_p2 : parseS t2 = none := by kernel_rfl
theorem ex_p3 : parseS t3 = some ⟨29, true, 1, false, noS, 0, noS⟩ := by kernel_rfl
theorem ex_p4 : parseS t4 = some ⟨0, false, 12, false, sWall, 0, noS⟩ := by kernel_rfl
theorem ex_p5 : parseS t5 = some ⟨0, false, 0, false, sCanal, 0, noS⟩ := by kernel_rfl
theorem ex_p6 : parseS t6 = some ⟨1, false, 1, false, noS, 0, noS⟩ := by kernel_rfl
theorem ex_p7 : parseS t7 = some ⟨0, false, 0, false, sWall, 0, sUr⟩ := by kernel_rfl
theorem ex_sp : exCal.spV ⟨29, true, 1, false, noS, 0, noS⟩ = [⟨29, 30⟩, ⟨389, 389⟩, ⟨766, 767⟩] := by kernel_rfl
theorem ex_spE : exCal.spE ⟨29, true, 1, false, noS, 0, noS⟩ = 0 := by kernel_rfl
def serA : Nat → Tr
  | 0 => ⟨0, false, 12, false, sWall, 0, noS⟩
  | 1 => ⟨0, false, 0, false, sCanal, 0, noS⟩
  | _ => ⟨1, false, 1, false, noS, 0, noS⟩
def serB : Nat → Tr
  | 0 => ⟨0, false, 0, false, sCanal, 0, noS⟩
  | _ => ⟨0, false, 0, false, sWall, 0, sUr⟩
theorem ex_ser : exCal.serV serA 3 = [⟨331, 360⟩, ⟨361, 737⟩, ⟨361, 738⟩] := by kernel_rfl
theorem ex_serE : exCal.serE serA 3 = 0 := by kernel_rfl
theorem ex_serB : exCal.serE serB 2 = 73 := by kernel_rfl
end Go.Proofs.YtfchchmmjabjnaaDoor

namespace Go.Proofs.YtfchchmmjabjnaaDoor
open Go Go.RowKit
attribute [local go_sem] gv_yes

theorem parseE_cases (s : ByteArray) : parseE s = 0 ∨ (parseE s = 5 ∧ parseV s = zTr) := by
  unfold parseE parseV
  cases parseS s <;> simp
set_option maxHeartbeats 1000000 in
theorem lread_any (s : ByteArray) (T : Tr) (w : World) (h63 : s.size ≤ 9223372036854775807) (hT : parseV s = T) :
    Calls Tryd.prog 82 #[.string s] w fun e w' => e = .returned (.agg #[.int .i64 T.d, .bool T.more, .int .i64 T.m, .bool T.s, .string T.nm, .int .i64 T.af, .string T.kg]) ∧ Ext w w' := by
  have hp := fun w => parseX_any s w h63
  rw [hT] at hp
  rcases parseE_cases s with hE | ⟨hE, hV⟩
  · rw [hE] at hp
    replace hp : ∀ w, Calls Tryd.prog 50 #[.string s] w fun e w' => e = .returned (.tuple #[.agg #[.int .i64 T.d, .bool T.more, .int .i64 T.m, .bool T.s, .string T.nm, .int .i64 T.af, .string T.kg], .int .i64 0]) ∧ Ext w w' := hp
    clear hT hE
    go_enter Tryd.func82, Tryd.ntmps82
    go_wp2_with (go_at_call 50; (with_reducible refine Calls.mono (hp _) ?_); rintro e wq ⟨rfl, hq⟩; have hz := ((Held.new w 33 #[.int .i64 0, .bool false, .int .i64 0, .bool false, .string ⟨#[]⟩, .int .i64 0, .string ⟨#[]⟩]).ext hq); obtain ⟨z0, z1, z2, z3, z4, z5, z6⟩ := hz.c7; obtain ⟨f0, f1, f2, f3, f4, f5, f6⟩ := frozen7 hz; have lz := hz.lt)
    obtain ⟨hs, gE⟩ := seven_set hz (.int .i64 T.d) (.bool T.more) (.int .i64 T.m) (.bool T.s) (.string T.nm) (.int .i64 T.af) (.string T.kg)
    obtain ⟨q0, q1, q2, q3, q4, q5, q6⟩ := (hs.alloc (.cells #[.int .i64 T.d, .bool T.more, .int .i64 T.m, .bool T.s, .string T.nm, .int .i64 T.af, .string T.kg] 33)).c7
    refine bodyPost_ret (v := .agg #[.int .i64 T.d, .bool T.more, .int .i64 T.m, .bool T.s, .string T.nm, .int .i64 T.af, .string T.kg]) (by simp [results, Tryd.results82, go_sem, q0, q1, q2, q3, q4, q5, q6]) rfl ⟨rfl, (gE w (by repeat (first | exact Ext.refl _ | (refine Ext.alloc ?_ _) | (refine Ext.trans ?_ (by assumption)))) (Nat.le_refl _)).alloc _⟩
  · rw [hE] at hp
    rw [hT] at hV
    subst hV
    replace hp : ∀ w, Calls Tryd.prog 50 #[.string s] w fun e w' => e = .returned (.tuple #[.agg #[.int .i64 0, .bool false, .int .i64 0, .bool false, .string ⟨#[]⟩, .int .i64 0, .string ⟨#[]⟩], .int .i64 5]) ∧ Ext w w' := hp
    show Calls Tryd.prog 82 #[.string s] w fun e w' => e = .returned (.agg #[.int .i64 0, .bool false, .int .i64 0, .bool false, .string ⟨#[]⟩, .int .i64 0, .string ⟨#[]⟩]) ∧ Ext w w'
    clear hT hE
    go_enter Tryd.func82, Tryd.ntmps82
    go_wp2_with (go_at_call 50; (with_reducible refine Calls.mono (hp _) ?_); rintro e wq ⟨rfl, hq⟩; have hz := ((Held.new w 33 #[.int .i64 0, .bool false, .int .i64 0, .bool false, .string ⟨#[]⟩, .int .i64 0, .string ⟨#[]⟩]).ext hq); obtain ⟨z0, z1, z2, z3, z4, z5, z6⟩ := hz.c7; obtain ⟨f0, f1, f2, f3, f4, f5, f6⟩ := frozen7 hz; have lz := hz.lt)
    obtain ⟨hs, gE⟩ := seven_set hz (.int .i64 0) (.bool false) (.int .i64 0) (.bool false) (.string ⟨#[]⟩) (.int .i64 0) (.string ⟨#[]⟩)
    obtain ⟨q0, q1, q2, q3, q4, q5, q6⟩ := (hs.alloc (.cells #[.int .i64 0, .bool false, .int .i64 0, .bool false, .string ⟨#[]⟩, .int .i64 0, .string ⟨#[]⟩] 33)).c7
    refine bodyPost_ret (v := .agg #[.int .i64 0, .bool false, .int .i64 0, .bool false, .string ⟨#[]⟩, .int .i64 0, .string ⟨#[]⟩]) (by simp [results, Tryd.results82, go_sem, q0, q1, q2, q3, q4, q5, q6]) rfl ⟨rfl, (gE w (by repeat (first | exact Ext.refl _ | (refine Ext.alloc ?_ _) | (refine Ext.trans ?_ (by assumption)))) (Nat.le_refl _)).alloc _⟩
theorem rows_held {w : World} {b : Nat} {t : TypeId} {cs : Array Value} {n sz : Nat} {f : Nat → List Value} (h : Held w b t cs) (hf : ∀ i j v, i < n → (f i)[j]? = some v → cs[i * sz + j]? = some v) : RowsAt w (some ⟨b, 0, none⟩) n sz f :=
  fun _ => ⟨b, 0, rfl, h.lt, fun i j v hi hv => by rw [Nat.zero_add, h.cell]; exact hf i j v hi hv⟩
theorem example_any (w : World) : Calls Tryd.prog 81 #[] w fun e w' => ∃ A A' ca cb, e = .returned (.agg #[.slice A 2 ca, .slice A' 3 cb]) ∧ Ext w w' ∧ CalAt w' A ca A' cb exCal := by
  go_enter Tryd.func81, Tryd.ntmps81
  go_wp2
  refine bodyPost_ret (v := .agg #[.slice (some ⟨w.heap.size + 1, 0, none⟩) 2 2, .slice (some ⟨w.heap.size + 1 + 1, 0, none⟩) 3 3]) (by simp [results, Tryd.results81, go_sem]) rfl ⟨_, _, _, _, rfl, (by repeat (first | exact Ext.refl _ | (refine Ext.alloc ?_ _) | (refine Ext.trans ?_ (by assumption)))), ⟨?_, ?_, by decide, by decide, by decide, by decide⟩⟩
  · refine rows_held (t := 9) (cs := #[.string sUr, .string sSi]) (by repeat (first | (refine Held.at _ _ _ _ ?_; (simp; done)) | refine Held.alloc ?_ _)) ?_
    intro i j v hi hv
    have hi : i < 2 := hi
    have hj : j < 1 := (List.getElem?_eq_some_iff.1 hv).1
    rw [← hv]
    have : i = 0 ∨ i = 1 := by omega
    obtain rfl : j = 0 := by omega
    rcases this with rfl | rfl <;> rfl
  · refine rows_held (t := 99) (cs := #[.int .i64 0, .string sWall, .int .i64 4095, .int .i64 0, .int .i64 0, .string sCanal, .int .i64 0, .int .i64 6, .int .i64 1, .string sWall, .int .i64 4095, .int .i64 0]) (by repeat (first | (refine Held.at _ _ _ _ ?_; (simp; done)) | refine Held.alloc ?_ _)) ?_
    intro i j v hi hv
    have hi : i < 3 := hi
    have hj : j < 4 := (List.getElem?_eq_some_iff.1 hv).1
    rw [← hv]
    have h1 : i = 0 ∨ i = 1 ∨ i = 2 := by omega
    have h2 : j = 0 ∨ j = 1 ∨ j = 2 ∨ j = 3 := by omega
    rcases h1 with rfl | rfl | rfl <;> rcases h2 with rfl | rfl | rfl | rfl <;> rfl
end Go.Proofs.YtfchchmmjabjnaaDoor

namespace Go.Proofs.YtfchchmmjabjnaaDoor
open Go Go.RowKit
attribute [local go_sem] gv_yes
attribute [local go_sem high] neq_span

def zSp : Sp := ⟨0, 0⟩
theorem sp_same {l m : List Sp} {k : Nat} (h : l.length = m.length) (hk : l.length ≤ k) (hp : ∀ i, i < k → l.getD i zSp = m.getD i zSp) : l = m := by
  apply List.ext_getElem h
  intro i h1 h2
  have := hp i (by omega)
  simpa [List.getD_eq_getElem?_getD, h1, h2] using this
theorem span_get {w : World} {A : Option Addr} {l : List Sp} (h : RowsAt w A l.length 2 (fun i => (l.getD i ⟨0, 0⟩).cells)) {k : Nat} (hk : k < l.length) :
    ∃ b o, A = some ⟨b, o, none⟩ ∧ b < w.heap.size ∧ w.cell? ⟨b, o + k * 2, none⟩ = some (.int .i64 (l.getD k zSp).a) ∧ w.cell? ⟨b, o + k * 2 + 1, none⟩ = some (.int .i64 (l.getD k zSp).b) := by
  obtain ⟨b, o, hA, hb, hc⟩ := h (by omega)
  exact ⟨b, o, hA, hb, hc k 0 _ hk rfl, hc k 1 _ hk rfl⟩
set_option maxHeartbeats 1000000 in
theorem same_any (v v' : Value) (l m : List Sp) (w : World) (h1 : SpansAt w v l) (h2 : SpansAt w v' m) :
    Calls Tryd.prog 26 #[v, v'] w fun e w' => e = .returned (.bool (decide (l = m))) ∧ Ext w w' := by
  obtain ⟨A, ca, rfl, hA, hca, hca'⟩ := h1
  obtain ⟨B, cb, rfl, hB, hcb, hcb'⟩ := h2
  by_cases hn : l.length = m.length
  · have H := Lib.hid hn
    generalize hnl : l.length = n at hca hA
    have hnm : m.length = n := by omega
    rw [hnm] at hcb hB
    rw [hnm]
    have HL := Lib.hid hnl
    have HM := Lib.hid hnm
    have h63 : n ≤ 9223372036854775807 := Nat.le_trans hca (Nat.le_trans hca' (by decide))
    clear hn hnl hnm
    go_enter Tryd.func26, Tryd.ntmps26
    go_wp2
    go_loopw [5] (fun i wr => ∃ k : Nat, k ≤ n ∧ i = .int .i64 k ∧ (∀ i, i < k → l.getD i zSp = m.getD i zSp) ∧ Ext w wr) (fun i _ => n - (intOf i).toNat)
    case atStart => exact ⟨0, Nat.zero_le _, rfl, (fun i hi => absurd hi (by omega)), Ext.refl _⟩
    case round =>
      obtain ⟨k, hk, rfl, hp, hE⟩ := hrel
      obtain ⟨wo, rfl⟩ : ∃ wo : World, wo = wr := ⟨_, rfl⟩
      obtain ⟨hcwo, hfwo, hzwo⟩ := Ext.rules hE
      try simp only [World.size_alloc] at hzwo
      obtain ⟨hcbwo, hfbwo, hzbwo⟩ := Ext.rules (show Ext w wo from (by repeat (first | exact Ext.refl _ | (refine Ext.alloc ?_ _) | (refine Ext.trans ?_ (by assumption)))))
      clear hcwo hfwo
      by_cases hlt : k < n
      · obtain ⟨b, o, rfl, hb, c0, c1⟩ := span_get (l := l) (by rw [HL.out]; exact hA) (k := k) (by rw [HL.out]; exact hlt)
        obtain ⟨b', o', rfl, hb', d0, d1⟩ := span_get (l := m) (by rw [HM.out]; exact hB) (k := k) (by rw [HM.out]; exact hlt)
        obtain ⟨x, hx⟩ : ∃ x, x = l.getD k zSp := ⟨_, rfl⟩
        obtain ⟨y, hy⟩ : ∃ y, y = m.getD k zSp := ⟨_, rfl⟩
        rw [← hx] at c0 c1
        rw [← hy] at d0 d1
        by_cases hxy : x = y
        · have hp' : ∀ i, i < k + 1 → l.getD i zSp = m.getD i zSp := fun i hi => by
            by_cases h : i = k
            · subst h; rw [← hx, ← hy]; exact hxy
            · exact hp i (by omega)
          subst hxy
          clear hx hy hp
          go_upto_region 6 with (fail)
          refine wp_region_xw w mixed (by kernel_rfl) (by repeat (first | exact Ext.refl _ | (refine Ext.alloc ?_ _) | (refine Ext.trans ?_ (by assumption)))) ?_
          intro hne hrx hry
          try simp only []
          try simp only [List.append_eq, List.cons_append, List.nil_append]
          skip
          repeat (first
            | go_big_quiet_skip
            | (go_big_quiet_want; go_big_quiet_op; go_big_quiet_on))
          clear hne hry hrx
          refine wpQuiet_nil ?_
          intro wn hwn
          obtain ⟨hcwn, hfwn, hzwn⟩ := Ext.rules hwn
          try simp only [World.size_alloc] at hzwn
          obtain ⟨hcbwn, hfbwn, hzbwn⟩ := Ext.rules (show Ext w wn from (by repeat (first | exact Ext.refl _ | (refine Ext.alloc ?_ _) | (refine Ext.trans ?_ (by assumption)))))
          clear hcwn hfwn
          go_wp2
          exact ⟨⟨k + 1, by omega, by go_num, hp', (by repeat (first | exact Ext.refl _ | (refine Ext.alloc ?_ _) | (refine Ext.trans ?_ (by assumption))))⟩, by simp [intOf]; omega⟩
        · have hR : Hid (l ≠ m) := fun e => hxy (by rw [hx, hy, e])
          have h : (x.a == y.a) = false ∨ ((x.a == y.a) = true ∧ (x.b == y.b) = false) := by
            obtain ⟨xa, xb⟩ := x
            obtain ⟨ya, yb⟩ := y
            simp only [Sp.mk.injEq] at hxy
            simp only [beq_iff_eq, beq_eq_false_iff_ne]
            by_cases h : xa = ya
            · exact .inr ⟨h, fun e => hxy ⟨h, e⟩⟩
            · exact .inl h
          clear hxy hx hy hp
          rcases h with h1 | ⟨h1, h2⟩
          · go_upto_region 6 with (fail)
            refine wp_region_xw w mixed (by kernel_rfl) (by repeat (first | exact Ext.refl _ | (refine Ext.alloc ?_ _) | (refine Ext.trans ?_ (by assumption)))) ?_
            intro hne hrx hry
            try simp only []
            try simp only [List.append_eq, List.cons_append, List.nil_append]
            skip
            repeat (first
              | go_big_quiet_skip
              | (go_big_quiet_want; go_big_quiet_op; go_big_quiet_on))
            clear hne hry hrx
            refine wpQuiet_nil ?_
            intro wn hwn
            obtain ⟨hcwn, hfwn, hzwn⟩ := Ext.rules hwn
            try simp only [World.size_alloc] at hzwn
            obtain ⟨hcbwn, hfbwn, hzbwn⟩ := Ext.rules (show Ext w wn from (by repeat (first | exact Ext.refl _ | (refine Ext.alloc ?_ _) | (refine Ext.trans ?_ (by assumption)))))
            clear hcwn hfwn
            go_wp2
            go_ret
            exact ⟨by rw [decide_eq_false hR.out]; rfl, (by repeat (first | exact Ext.refl _ | (refine Ext.alloc ?_ _) | (refine Ext.trans ?_ (by assumption))))⟩
          · go_upto_region 6 with (fail)
            refine wp_region_xw w mixed (by kernel_rfl) (by repeat (first | exact Ext.refl _ | (refine Ext.alloc ?_ _) | (refine Ext.trans ?_ (by assumption)))) ?_
            intro hne hrx hry
            try simp only []
            try simp only [List.append_eq, List.cons_append, List.nil_append]
            skip
            repeat (first
              | go_big_quiet_skip
              | (go_big_quiet_want; go_big_quiet_op; go_big_quiet_on))
            clear hne hry hrx
            refine wpQuiet_nil ?_
            intro wn hwn
            obtain ⟨hcwn, hfwn, hzwn⟩ := Ext.rules hwn
            try simp only [World.size_alloc] at hzwn
            obtain ⟨hcbwn, hfbwn, hzbwn⟩ := Ext.rules (show Ext w wn from (by repeat (first | exact Ext.refl _ | (refine Ext.alloc ?_ _) | (refine Ext.trans ?_ (by assumption)))))
            clear hcwn hfwn
            go_wp2
            go_ret
            exact ⟨by rw [decide_eq_false hR.out]; rfl, (by repeat (first | exact Ext.refl _ | (refine Ext.alloc ?_ _) | (refine Ext.trans ?_ (by assumption))))⟩
      · have hR : Hid (l = m) := sp_same H.out (k := k) (by have := HL.out; omega) hp
        go_wp2
        go_ret
        exact ⟨by rw [decide_eq_true hR.out]; rfl, (by repeat (first | exact Ext.refl _ | (refine Ext.alloc ?_ _) | (refine Ext.trans ?_ (by assumption))))⟩
  · have hR : Hid (l ≠ m) := fun e => hn (by rw [e])
    have hne : ((l.length : Int) == (m.length : Int)) = false := beq_eq_false_iff_ne.2 (by omega)
    clear hn
    go_enter Tryd.func26, Tryd.ntmps26
    go_wp2
    go_ret
    exact ⟨by rw [decide_eq_false hR.out]; rfl, (by repeat (first | exact Ext.refl _ | (refine Ext.alloc ?_ _) | (refine Ext.trans ?_ (by assumption))))⟩
end Go.Proofs.YtfchchmmjabjnaaDoor

namespace Go.Proofs.YtfchchmmjabjnaaDoor
open Go Go.RowKit
attribute [local go_sem] gv_yes
attribute [local go_sem high] neq_date neq_trace

theorem ex_at2 : exCal.atV 1098 = ⟨0, 0, false, 0⟩ := by kernel_rfl
section
variable {A A' : Option Addr} {ca cb : Nat} {w : World} (hC : CalAt w A ca A' cb exCal)
include hC
theorem w_num : Calls Tryd.prog 29 #[.agg #[.slice A 2 ca, .slice A' 3 cb], .agg #[.int .i64 1, .int .i64 6, .bool true, .int .i64 1]] w fun e w' => e = .returned (.tuple #[.int .i64 535, .int .i64 0]) ∧ Ext w w' := by
  have := numberX_any A A' ca cb exCal ⟨1, 6, true, 1⟩ w hC
  rw [ex_num, ex_numE] at this
  exact this
theorem w_at : Calls Tryd.prog 39 #[.agg #[.slice A 2 ca, .slice A' 3 cb], .int .i64 1097] w fun e w' => e = .returned (.tuple #[.agg #[.int .i64 2, .int .i64 12, .bool false, .int .i64 30], .int .i64 0]) ∧ Ext w w' := by
  have := atX_any A A' ca cb exCal 1097 w hC (by decide) (by decide)
  rw [ex_at, ex_atE] at this
  exact this
theorem w_at2 : Calls Tryd.prog 39 #[.agg #[.slice A 2 ca, .slice A' 3 cb], .int .i64 1098] w fun e w' => e = .returned (.tuple #[.agg #[.int .i64 0, .int .i64 0, .bool false, .int .i64 0], .int .i64 8]) ∧ Ext w w' := by
  have := atX_any A A' ca cb exCal 1098 w hC (by decide) (by decide)
  rw [ex_at2, ex_atE2] at this
  exact this
theorem w_chk : Calls Tryd.prog 41 #[.agg #[.slice A 2 ca, .slice A' 3 cb]] w fun e w' => e = .returned (.int .i64 0) ∧ Ext w w' := by
  have := check_any A A' ca cb exCal w hC
  rw [ex_chk] at this
  exact this
theorem w_sch : Calls Tryd.prog 32 #[.agg #[.slice A 2 ca, .slice A' 3 cb], .agg #[.int .i64 0, .int .i64 12, .bool false, .int .i64 30], .agg #[.int .i64 1, .int .i64 2, .bool false, .int .i64 1]] w fun e w' => e = .returned (.tuple #[.int .i64 31, .int .i64 0]) ∧ Ext w w' := by
  have := schemeX_any A A' ca cb exCal ⟨0, 12, false, 30⟩ ⟨1, 2, false, 1⟩ w hC
  rw [ex_sch, ex_in2] at this
  exact this
theorem w_bet : Calls Tryd.prog 31 #[.agg #[.slice A 2 ca, .slice A' 3 cb], .agg #[.int .i64 0, .int .i64 12, .bool false, .int .i64 30], .agg #[.int .i64 1, .int .i64 2, .bool false, .int .i64 1]] w fun e w' => e = .returned (.tuple #[.int .i64 30, .int .i64 0]) ∧ Ext w w' := by
  have := betweenX_any A A' ca cb exCal ⟨0, 12, false, 30⟩ ⟨1, 2, false, 1⟩ w hC
  rw [ex_bet, ex_in2] at this
  exact this
end
theorem w_p1 (w : World) : Calls Tryd.prog 50 #[.string ⟨#[49, 50, 43, 47, 45, 47, 43, 119, 97, 108, 108, 64, 117, 114]⟩] w fun e w' => e = .returned (.tuple #[.agg #[.int .i64 12, .bool true, .int .i64 0, .bool false, .string ⟨#[119, 97, 108, 108]⟩, .int .i64 1, .string ⟨#[117, 114]⟩], .int .i64 0]) ∧ Ext w w' := by
  have := parseX_any t1 w (by decide)
  unfold parseV parseE at this
  rw [ex_p1] at this
  exact this
theorem w_p2 (w : World) : Calls Tryd.prog 50 #[.string ⟨#[48, 49, 47, 49, 47, 45]⟩] w fun e w' => e = .returned (.tuple #[.agg #[.int .i64 0, .bool false, .int .i64 0, .bool false, .string ⟨#[]⟩, .int .i64 0, .string ⟨#[]⟩], .int .i64 5]) ∧ Ext w w' := by
  have := parseX_any t2 w (by decide)
  unfold parseV parseE at this
  rw [ex_p2] at this
  exact this
theorem w_r3 (w : World) : Calls Tryd.prog 82 #[.string ⟨#[50, 57, 43, 47, 49, 47, 45]⟩] w fun e w' => e = .returned (.agg #[.int .i64 29, .bool true, .int .i64 1, .bool false, .string ⟨#[]⟩, .int .i64 0, .string ⟨#[]⟩]) ∧ Ext w w' :=
  lread_any t3 ⟨29, true, 1, false, noS, 0, noS⟩ w (by decide) (by unfold parseV; rw [ex_p3]; rfl)
theorem w_r4 (w : World) : Calls Tryd.prog 82 #[.string ⟨#[45, 47, 49, 50, 47, 119, 97, 108, 108]⟩] w fun e w' => e = .returned (.agg #[.int .i64 0, .bool false, .int .i64 12, .bool false, .string ⟨#[119, 97, 108, 108]⟩, .int .i64 0, .string ⟨#[]⟩]) ∧ Ext w w' :=
  lread_any t4 ⟨0, false, 12, false, sWall, 0, noS⟩ w (by decide) (by unfold parseV; rw [ex_p4]; rfl)
theorem w_r5 (w : World) : Calls Tryd.prog 82 #[.string ⟨#[45, 47, 45, 47, 99, 97, 110, 97, 108]⟩] w fun e w' => e = .returned (.agg #[.int .i64 0, .bool false, .int .i64 0, .bool false, .string ⟨#[99, 97, 110, 97, 108]⟩, .int .i64 0, .string ⟨#[]⟩]) ∧ Ext w w' :=
  lread_any t5 ⟨0, false, 0, false, sCanal, 0, noS⟩ w (by decide) (by unfold parseV; rw [ex_p5]; rfl)
theorem w_r6 (w : World) : Calls Tryd.prog 82 #[.string ⟨#[49, 47, 49, 47, 45]⟩] w fun e w' => e = .returned (.agg #[.int .i64 1, .bool false, .int .i64 1, .bool false, .string ⟨#[]⟩, .int .i64 0, .string ⟨#[]⟩]) ∧ Ext w w' :=
  lread_any t6 ⟨1, false, 1, false, noS, 0, noS⟩ w (by decide) (by unfold parseV; rw [ex_p6]; rfl)
theorem w_r7 (w : World) : Calls Tryd.prog 82 #[.string ⟨#[45, 47, 45, 47, 119, 97, 108, 108, 64, 117, 114]⟩] w fun e w' => e = .returned (.agg #[.int .i64 0, .bool false, .int .i64 0, .bool false, .string ⟨#[119, 97, 108, 108]⟩, .int .i64 0, .string ⟨#[117, 114]⟩]) ∧ Ext w w' :=
  lread_any t7 ⟨0, false, 0, false, sWall, 0, sUr⟩ w (by decide) (by unfold parseV; rw [ex_p7]; rfl)
theorem w_sp {A A' : Option Addr} {ca cb : Nat} {w : World} (hC : CalAt w A ca A' cb exCal) : Calls Tryd.prog 33 #[.agg #[.slice A 2 ca, .slice A' 3 cb], .agg #[.int .i64 29, .bool true, .int .i64 1, .bool false, .string ⟨#[]⟩, .int .i64 0, .string ⟨#[]⟩]] w fun e w' => ∃ v, e = .returned (.tuple #[v, .int .i64 0]) ∧ Ext w w' ∧ SpansAt w' v [⟨29, 30⟩, ⟨389, 389⟩, ⟨766, 767⟩] := by
  have := spansX_any A A' ca cb exCal ⟨29, true, 1, false, noS, 0, noS⟩ w hC
  rw [ex_sp, ex_spE] at this
  exact this
theorem w_ser {A A' B : Option Addr} {ca cb : Nat} {w : World} (hC : CalAt w A ca A' cb exCal) (hT : RowsAt w B 3 7 (fun i => (serA i).cells)) : Calls Tryd.prog 24 #[.agg #[.slice A 2 ca, .slice A' 3 cb], .slice B 3 3] w fun e w' => ∃ v, e = .returned (.tuple #[v, .int .i64 0]) ∧ Ext w w' ∧ SpansAt w' v [⟨331, 360⟩, ⟨361, 737⟩, ⟨361, 738⟩] := by
  have := seriesX_any A A' ca cb exCal B 3 3 serA w hC hT (by decide)
  rw [ex_ser, ex_serE] at this
  exact this
theorem w_serB {A A' B : Option Addr} {ca cb : Nat} {w : World} (hC : CalAt w A ca A' cb exCal) (hT : RowsAt w B 2 7 (fun i => (serB i).cells)) : Calls Tryd.prog 24 #[.agg #[.slice A 2 ca, .slice A' 3 cb], .slice B 2 2] w fun e w' => ∃ v, e = .returned (.tuple #[v, .int .i64 73]) ∧ Ext w w' := by
  have := seriesX_any A A' ca cb exCal B 2 2 serB w hC hT (by decide)
  rw [ex_serB] at this
  refine Calls.mono this ?_
  rintro e w' ⟨v, h1, h2, _⟩
  exact ⟨v, h1, h2⟩
theorem serA_rows {w : World} {b : Nat} {t : TypeId} (h : Held w b t #[.int .i64 0, .bool false, .int .i64 12, .bool false, .string ⟨#[119, 97, 108, 108]⟩, .int .i64 0, .string ⟨#[]⟩, .int .i64 0, .bool false, .int .i64 0, .bool false, .string ⟨#[99, 97, 110, 97, 108]⟩, .int .i64 0, .string ⟨#[]⟩, .int .i64 1, .bool false, .int .i64 1, .bool false, .string ⟨#[]⟩, .int .i64 0, .string ⟨#[]⟩]) : RowsAt w (some ⟨b, 0, none⟩) 3 7 (fun i => (serA i).cells) := by
  refine rows_held h ?_
  intro i j v hi hv
  have hj : j < 7 := (List.getElem?_eq_some_iff.1 hv).1
  rw [← hv]
  have h1 : i = 0 ∨ i = 1 ∨ i = 2 := by omega
  have h2 : j = 0 ∨ j = 1 ∨ j = 2 ∨ j = 3 ∨ j = 4 ∨ j = 5 ∨ j = 6 := by omega
  rcases h1 with rfl | rfl | rfl <;> rcases h2 with rfl | rfl | rfl | rfl | rfl | rfl | rfl <;> rfl
theorem spans3_at {w : World} {b : Nat} {t : TypeId} {a0 b0 a1 b1 a2 b2 : Int} (h : Held w b t #[.int .i64 a0, .int .i64 b0, .int .i64 a1, .int .i64 b1, .int .i64 a2, .int .i64 b2]) : SpansAt w (.slice (some ⟨b, 0, none⟩) 3 3) [⟨a0, b0⟩, ⟨a1, b1⟩, ⟨a2, b2⟩] := by
  refine ⟨_, 3, rfl, rows_held h ?_, Nat.le_refl _, by decide⟩
  intro i j v hi hv
  have hj : j < 2 := (List.getElem?_eq_some_iff.1 hv).1
  rw [← hv]
  have h1 : i = 0 ∨ i = 1 ∨ i = 2 := by have hi : i < 3 := hi; omega
  have h2 : j = 0 ∨ j = 1 := by omega
  rcases h1 with rfl | rfl | rfl <;> rcases h2 with rfl | rfl <;> rfl
theorem w_same {v v' : Value} {l : List Sp} {w : World} (h1 : SpansAt w v l) (h2 : SpansAt w v' l) : Calls Tryd.prog 26 #[v, v'] w fun e w' => e = .returned (.bool true) ∧ Ext w w' := by
  have := same_any v v' l l w h1 h2
  rw [decide_eq_true rfl] at this
  exact this
theorem serB_rows {w : World} {b : Nat} {t : TypeId} (h : Held w b t #[.int .i64 0, .bool false, .int .i64 0, .bool false, .string ⟨#[99, 97, 110, 97, 108]⟩, .int .i64 0, .string ⟨#[]⟩, .int .i64 0, .bool false, .int .i64 0, .bool false, .string ⟨#[119, 97, 108, 108]⟩, .int .i64 0, .string ⟨#[117, 114]⟩]) : RowsAt w (some ⟨b, 0, none⟩) 2 7 (fun i => (serB i).cells) := by
  refine rows_held h ?_
  intro i j v hi hv
  have hj : j < 7 := (List.getElem?_eq_some_iff.1 hv).1
  rw [← hv]
  have h1 : i = 0 ∨ i = 1 := by omega
  have h2 : j = 0 ∨ j = 1 ∨ j = 2 ∨ j = 3 ∨ j = 4 ∨ j = 5 ∨ j = 6 := by omega
  rcases h1 with rfl | rfl <;> rcases h2 with rfl | rfl | rfl | rfl | rfl | rfl | rfl <;> rfl
set_option maxRecDepth 100000 in
set_option maxHeartbeats 4000000 in
theorem works_any (w : World) : Calls Tryd.prog 28 #[] w fun e w' => e = .returned (.bool true) ∧ Ext w w' := by
  go_enter Tryd.func28, Tryd.ntmps28
  go_upto_region 2 with (go_at_call 81; (with_reducible refine Calls.mono (example_any _) ?_); rintro e w1 ⟨A, A', ca, cb, rfl, h1, hC⟩)
  obtain ⟨v, hv⟩ : ∃ v, v = w1.alloc (.cells #[.slice A 2 ca, .slice A' 3 cb] 25) := ⟨_, rfl⟩
  rw [← hv]
  have h2 : Ext w1 v := by rw [hv]; exact (Ext.refl _).alloc _
  have B1 : Held v w1.heap.size 25 #[.slice A 2 ca, .slice A' 3 cb] := by rw [hv]; exact Held.new _ _ _
  have E := Ext.trans h1 h2
  have C := hC.ext h2
  clear hv h1 h2 hC
  generalize w1.heap.size = b1 at *
  clear w1
  obtain ⟨k0, k1⟩ := B1.c2
  have l1 := B1.lt
  go_upto_region 3 with (go_at_call 29; (with_reducible refine Calls.mono (w_num C) ?_); rintro e v2 ⟨rfl, h⟩)
  replace E := Ext.trans E h
  replace C := C.ext h
  replace B1 := B1.ext h
  clear h
  obtain ⟨k0, k1⟩ := B1.c2; have l1 := B1.lt
  go_upto_region 4 with (go_at_call 39; (with_reducible refine Calls.mono (w_at C) ?_); rintro e v3 ⟨rfl, h⟩)
  replace E := Ext.trans E h
  replace C := C.ext h
  replace B1 := B1.ext h
  clear h
  obtain ⟨k0, k1⟩ := B1.c2; have l1 := B1.lt
  obtain ⟨v4, hv⟩ : ∃ v, v = v3.alloc (.cells #[.int .i64 2, .int .i64 12, .bool false, .int .i64 30] 39) := ⟨_, rfl⟩
  rw [← hv]
  have h : Ext v3 v4 := by rw [hv]; exact (Ext.refl _).alloc _
  have B4 : Held v4 v3.heap.size 39 #[.int .i64 2, .int .i64 12, .bool false, .int .i64 30] := by rw [hv]; exact Held.new _ _ _
  clear hv
  generalize v3.heap.size = b4 at *
  replace E := Ext.trans E h
  replace C := C.ext h
  replace B1 := B1.ext h
  clear h
  obtain ⟨k0, k1⟩ := B1.c2; have l1 := B1.lt
  obtain ⟨p0, p1, p2, p3⟩ := B4.c4; have l4 := B4.lt
  go_upto_region 5 with (go_at_call 39; (with_reducible refine Calls.mono (w_at2 C) ?_); rintro e v5 ⟨rfl, h⟩)
  replace E := Ext.trans E h
  replace C := C.ext h
  replace B1 := B1.ext h
  replace B4 := B4.ext h
  clear h
  obtain ⟨k0, k1⟩ := B1.c2; have l1 := B1.lt
  obtain ⟨p0, p1, p2, p3⟩ := B4.c4; have l4 := B4.lt
  obtain ⟨v6, hv⟩ : ∃ v, v = v5.alloc (.cells #[.int .i64 0, .int .i64 0, .bool false, .int .i64 0] 39) := ⟨_, rfl⟩
  rw [← hv]
  have h : Ext v5 v6 := by rw [hv]; exact (Ext.refl _).alloc _
  have B6 : Held v6 v5.heap.size 39 #[.int .i64 0, .int .i64 0, .bool false, .int .i64 0] := by rw [hv]; exact Held.new _ _ _
  clear hv
  generalize v5.heap.size = b6 at *
  replace E := Ext.trans E h
  replace C := C.ext h
  replace B1 := B1.ext h
  replace B4 := B4.ext h
  clear h
  obtain ⟨k0, k1⟩ := B1.c2; have l1 := B1.lt
  obtain ⟨p0, p1, p2, p3⟩ := B4.c4; have l4 := B4.lt
  clear B6
  go_upto_region 7 with (go_at_call 41; (with_reducible refine Calls.mono (w_chk C) ?_); rintro e v7 ⟨rfl, h⟩; obtain ⟨p0, p1, p2, p3⟩ := (B4.ext h).c4; have l4 := (B4.ext h).lt)
  replace E := Ext.trans E h
  replace C := C.ext h
  replace B1 := B1.ext h
  clear h
  obtain ⟨k0, k1⟩ := B1.c2; have l1 := B1.lt
  clear p0 p1 p2 p3 l4 B4
  go_upto_region 8 with (fail)
  obtain ⟨v9, hv⟩ : ∃ v, v = (v7.alloc (.cells #[.int .i64 0, .int .i64 12, .bool false, .int .i64 30] 39)).alloc (.cells #[.int .i64 1, .int .i64 2, .bool false, .int .i64 1] 39) := ⟨_, rfl⟩
  rw [← hv]
  have h : Ext v7 v9 := by rw [hv]; exact ((Ext.refl _).alloc _).alloc _
  have B8 : Held v9 v7.heap.size 39 #[.int .i64 0, .int .i64 12, .bool false, .int .i64 30] := by rw [hv]; exact (Held.new _ _ _).alloc _
  have B9 : Held v9 (v7.heap.size + 1) 39 #[.int .i64 1, .int .i64 2, .bool false, .int .i64 1] := by rw [hv]; exact Held.at _ _ _ _ (by simp)
  clear hv
  generalize v7.heap.size = b8 at *
  replace E := Ext.trans E h
  replace C := C.ext h
  replace B1 := B1.ext h
  clear h
  obtain ⟨k0, k1⟩ := B1.c2; have l1 := B1.lt
  obtain ⟨p0, p1, p2, p3⟩ := B8.c4; have l8 := B8.lt
  obtain ⟨q0, q1, q2, q3⟩ := B9.c4; have l9 := B9.lt
  go_upto_region 9 with (go_at_call 32; (with_reducible refine Calls.mono (w_sch C) ?_); rintro e v10 ⟨rfl, h⟩)
  replace B8 := B8.ext h
  replace B9 := B9.ext h
  replace E := Ext.trans E h
  replace C := C.ext h
  replace B1 := B1.ext h
  clear h
  obtain ⟨k0, k1⟩ := B1.c2; have l1 := B1.lt
  obtain ⟨p0, p1, p2, p3⟩ := B8.c4; have l8 := B8.lt
  obtain ⟨q0, q1, q2, q3⟩ := B9.c4; have l9 := B9.lt
  go_upto_region 10 with (go_at_call 31; (with_reducible refine Calls.mono (w_bet C) ?_); rintro e v11 ⟨rfl, h⟩)
  replace E := Ext.trans E h
  replace C := C.ext h
  replace B1 := B1.ext h
  clear h
  obtain ⟨k0, k1⟩ := B1.c2; have l1 := B1.lt
  clear p0 p1 p2 p3 l8 q0 q1 q2 q3 l9 B8 B9
  go_upto_region 11 with (go_at_call 50; (with_reducible refine Calls.mono (w_p1 _) ?_); rintro e v12 ⟨rfl, h⟩)
  replace E := Ext.trans E h
  replace C := C.ext h
  replace B1 := B1.ext h
  clear h
  obtain ⟨k0, k1⟩ := B1.c2; have l1 := B1.lt
  obtain ⟨v13, hv⟩ : ∃ v, v = v12.alloc (.cells #[.int .i64 12, .bool true, .int .i64 0, .bool false, .string ⟨#[119, 97, 108, 108]⟩, .int .i64 1, .string ⟨#[117, 114]⟩] 33) := ⟨_, rfl⟩
  rw [← hv]
  have h : Ext v12 v13 := by rw [hv]; exact (Ext.refl _).alloc _
  have B12 : Held v13 v12.heap.size 33 #[.int .i64 12, .bool true, .int .i64 0, .bool false, .string ⟨#[119, 97, 108, 108]⟩, .int .i64 1, .string ⟨#[117, 114]⟩] := by rw [hv]; exact Held.new _ _ _
  clear hv
  generalize v12.heap.size = b12 at *
  replace E := Ext.trans E h
  replace C := C.ext h
  replace B1 := B1.ext h
  clear h
  obtain ⟨k0, k1⟩ := B1.c2; have l1 := B1.lt
  clear l1 k0 k1
  go_upto_region 12 with (go_at_call 50; (with_reducible refine Calls.mono (w_p2 _) ?_); rintro e v14 ⟨rfl, h⟩)
  replace B12 := B12.ext h
  replace E := Ext.trans E h
  replace C := C.ext h
  replace B1 := B1.ext h
  clear h
  obtain ⟨k0, k1⟩ := B1.c2; have l1 := B1.lt
  obtain ⟨v15, hv⟩ : ∃ v, v = v14.alloc (.cells #[.int .i64 0, .bool false, .int .i64 0, .bool false, .string ⟨#[]⟩, .int .i64 0, .string ⟨#[]⟩] 33) := ⟨_, rfl⟩
  rw [← hv]
  have h : Ext v14 v15 := by rw [hv]; exact (Ext.refl _).alloc _
  have B13 : Held v15 v14.heap.size 33 #[.int .i64 0, .bool false, .int .i64 0, .bool false, .string ⟨#[]⟩, .int .i64 0, .string ⟨#[]⟩] := by rw [hv]; exact Held.new _ _ _
  clear hv
  generalize v14.heap.size = b13 at *
  replace E := Ext.trans E h
  replace C := C.ext h
  replace B1 := B1.ext h
  replace B12 := B12.ext h
  clear h
  obtain ⟨k0, k1⟩ := B1.c2; have l1 := B1.lt
  clear B13
  obtain ⟨p0, p1, p2, p3, p4, p5, p6⟩ := B12.c7; have l12 := B12.lt
  go_upto_region 14 with (fail)
  clear p0 p1 p2 p3 p4 p5 p6 l12 B12
  refine wp_region_xm 2 0 v15 mixed (by kernel_rfl) (by repeat (first | exact Ext.refl _ | (refine Ext.alloc ?_ _) | (refine Ext.trans ?_ (by assumption)))) ?_
  intro hne hrx hry
  try simp only []
  try simp only [List.append_eq, List.cons_append, List.nil_append]
  simp only [List.take_succ_cons, List.take_zero, List.drop_succ_cons, List.drop_zero]
  repeat (first
    | go_big_quiet_skip
    | (go_big_quiet_want; go_big_quiet_op; go_big_quiet_on)
    | (go_big_quiet_want; go_big_quiet_op; apply Exists.intro; refine ⟨fun u => ?_, ?_⟩
       · first
           | (go_at_call 82; (with_reducible refine Calls.mono (w_r3 _) ?_); rintro e w' ⟨rfl, hb⟩; exact ⟨rfl, u.back hb⟩)
       go_big_quiet_on))
  clear hne hry hrx
  refine wpQuiet_nil ?_
  intro va ha
  have Ca := C.ext ha
  go_wp2_with (go_at_call 33; (with_reducible refine Calls.mono (w_sp Ca) ?_); rintro e vb ⟨s1, rfl, hb, S1⟩)
  show wpQuiet _ _ _ _ _ _
  repeat (first | go_big_quiet_skip | (go_big_quiet_want; go_big_quiet_op; go_big_quiet_on))
  refine wpQuiet_nil ?_
  have h := Ext.trans ha hb
  clear ha hb Ca
  replace E := Ext.trans E h
  replace C := C.ext h
  replace B1 := B1.ext h
  clear h
  obtain ⟨k0, k1⟩ := B1.c2; have l1 := B1.lt
  go_upto_region 15 with (fail)
  refine wp_region_fl 5 (.agg #[.slice A 2 ca, .slice A' 3 cb]) vb mixed (by kernel_rfl) (by repeat (first | exact Ext.refl _ | (refine Ext.alloc ?_ _) | (refine Ext.trans ?_ (by assumption)))) ?_
  intro hne hrx hry
  try simp only []
  simp only [List.take_succ_cons, List.take_zero, List.drop_succ_cons, List.drop_zero]
  refine ⟨fun u K hK => ?_, ?_⟩
  · go_big_quiet_op
    exact hK _ rfl
  unfold Then
  go_big_quiet_op
  intro v0 h0
  clear hne hrx hry
  refine wpSeqC_go ?_
  go_wp2_with (go_at_call 82; (with_reducible refine Calls.mono (w_r4 _) ?_); rintro e w4 ⟨rfl, h4⟩)
  refine onQ_in (Ext.trans h0 h4) ?_
  refine wpSeqC_go ?_
  go_wp2_with (go_at_call 82; (with_reducible refine Calls.mono (w_r5 _) ?_); rintro e w5 ⟨rfl, h5⟩)
  refine onQ_in (Ext.trans h0 (Ext.trans h4 h5)) ?_
  refine wpSeqC_go ?_
  go_wp2_with (go_at_call 82; (with_reducible refine Calls.mono (w_r6 _) ?_); rintro e w6 ⟨rfl, h6⟩)
  refine onQ_in (Ext.trans h0 (Ext.trans h4 (Ext.trans h5 h6))) ?_
  refine wpSeqC_go ?_
  go_wp2
  have ha : Ext vb w6 := Ext.trans h0 (Ext.trans h4 (Ext.trans h5 h6))
  refine onQ_in (ha.alloc _) ?_
  have Ca := C.ext (ha.alloc (.cells #[.int .i64 0, .bool false, .int .i64 12, .bool false, .string ⟨#[119, 97, 108, 108]⟩, .int .i64 0, .string ⟨#[]⟩, .int .i64 0, .bool false, .int .i64 0, .bool false, .string ⟨#[99, 97, 110, 97, 108]⟩, .int .i64 0, .string ⟨#[]⟩, .int .i64 1, .bool false, .int .i64 1, .bool false, .string ⟨#[]⟩, .int .i64 0, .string ⟨#[]⟩] 33))
  have Ta := serA_rows (Held.new w6 33 #[.int .i64 0, .bool false, .int .i64 12, .bool false, .string ⟨#[119, 97, 108, 108]⟩, .int .i64 0, .string ⟨#[]⟩, .int .i64 0, .bool false, .int .i64 0, .bool false, .string ⟨#[99, 97, 110, 97, 108]⟩, .int .i64 0, .string ⟨#[]⟩, .int .i64 1, .bool false, .int .i64 1, .bool false, .string ⟨#[]⟩, .int .i64 0, .string ⟨#[]⟩])
  have hal := ha.alloc (.cells #[.int .i64 0, .bool false, .int .i64 12, .bool false, .string ⟨#[119, 97, 108, 108]⟩, .int .i64 0, .string ⟨#[]⟩, .int .i64 0, .bool false, .int .i64 0, .bool false, .string ⟨#[99, 97, 110, 97, 108]⟩, .int .i64 0, .string ⟨#[]⟩, .int .i64 1, .bool false, .int .i64 1, .bool false, .string ⟨#[]⟩, .int .i64 0, .string ⟨#[]⟩] 33)
  clear ha h0 h4 h5 h6
  refine wpSeqC_go ?_
  go_wp2_with (go_at_call 24; (with_reducible refine Calls.mono (w_ser Ca Ta) ?_); rintro e v16 ⟨s2, rfl, h7, S2⟩)
  have h := Ext.trans hal h7
  refine onQ_in h ?_
  refine wpSeqC_nil ?_
  show wpQuiet _ _ _ _ _ _
  repeat (first | go_big_quiet_skip | (go_big_quiet_want; go_big_quiet_op; go_big_quiet_on))
  refine wpQuiet_nil ?_
  clear Ca Ta hal h7
  replace S1 := S1.ext h
  replace E := Ext.trans E h
  replace C := C.ext h
  replace B1 := B1.ext h
  clear h
  obtain ⟨k0, k1⟩ := B1.c2; have l1 := B1.lt
  go_upto_region 16 with (fail)
  refine wp_region_fl 4 (.agg #[.slice A 2 ca, .slice A' 3 cb]) v16 mixed (by kernel_rfl) (by repeat (first | exact Ext.refl _ | (refine Ext.alloc ?_ _) | (refine Ext.trans ?_ (by assumption)))) ?_
  intro hne hrx hry
  try simp only []
  simp only [List.take_succ_cons, List.take_zero, List.drop_succ_cons, List.drop_zero]
  refine ⟨fun u K hK => ?_, ?_⟩
  · go_big_quiet_op
    exact hK _ rfl
  unfold Then
  go_big_quiet_op
  intro v0 h0
  clear hne hrx hry
  refine wpSeqC_go ?_
  go_wp2_with (go_at_call 82; (with_reducible refine Calls.mono (w_r5 _) ?_); rintro e w4 ⟨rfl, h4⟩)
  refine onQ_in (Ext.trans h0 h4) ?_
  refine wpSeqC_go ?_
  go_wp2_with (go_at_call 82; (with_reducible refine Calls.mono (w_r7 _) ?_); rintro e w5 ⟨rfl, h5⟩)
  refine onQ_in (Ext.trans h0 (Ext.trans h4 h5)) ?_
  refine wpSeqC_go ?_
  go_wp2
  have ha : Ext v16 w5 := Ext.trans h0 (Ext.trans h4 h5)
  refine onQ_in (ha.alloc _) ?_
  have Ca := C.ext (ha.alloc (.cells #[.int .i64 0, .bool false, .int .i64 0, .bool false, .string ⟨#[99, 97, 110, 97, 108]⟩, .int .i64 0, .string ⟨#[]⟩, .int .i64 0, .bool false, .int .i64 0, .bool false, .string ⟨#[119, 97, 108, 108]⟩, .int .i64 0, .string ⟨#[117, 114]⟩] 33))
  have Ta := serB_rows (Held.new w5 33 #[.int .i64 0, .bool false, .int .i64 0, .bool false, .string ⟨#[99, 97, 110, 97, 108]⟩, .int .i64 0, .string ⟨#[]⟩, .int .i64 0, .bool false, .int .i64 0, .bool false, .string ⟨#[119, 97, 108, 108]⟩, .int .i64 0, .string ⟨#[117, 114]⟩])
  have hal := ha.alloc (.cells #[.int .i64 0, .bool false, .int .i64 0, .bool false, .string ⟨#[99, 97, 110, 97, 108]⟩, .int .i64 0, .string ⟨#[]⟩, .int .i64 0, .bool false, .int .i64 0, .bool false, .string ⟨#[119, 97, 108, 108]⟩, .int .i64 0, .string ⟨#[117, 114]⟩] 33)
  clear ha h0 h4 h5
  refine wpSeqC_go ?_
  go_wp2_with (go_at_call 24; (with_reducible refine Calls.mono (w_serB Ca Ta) ?_); rintro e v17 ⟨s3, rfl, h7⟩)
  have h := Ext.trans hal h7
  refine onQ_in h ?_
  refine wpSeqC_nil ?_
  show wpQuiet _ _ _ _ _ _
  repeat (first | go_big_quiet_skip | (go_big_quiet_want; go_big_quiet_op; go_big_quiet_on))
  refine wpQuiet_nil ?_
  clear Ca Ta hal h7
  replace S1 := S1.ext h
  replace S2 := S2.ext h
  replace E := Ext.trans E h
  clear h C B1 k0 k1 l1
  go_wp2_with (first
    | (go_at_call 26; (with_reducible refine Calls.mono (w_same (S1.ext ((Ext.refl _).alloc _)) (spans3_at (Held.new v17 _ _))) ?_); rintro e v18 ⟨rfl, h8⟩)
    | (go_at_call 26; (with_reducible refine Calls.mono (w_same (S2.ext (Ext.trans ((Ext.refl _).alloc _) (h8.alloc _))) (spans3_at (Held.new v18 _ _))) ?_); rintro e v19 ⟨rfl, h9⟩))
  go_ret
  exact ⟨rfl, Ext.trans E (Ext.trans ((Ext.refl _).alloc _) (Ext.trans (h8.alloc _) h9))⟩
end Go.Proofs.YtfchchmmjabjnaaDoor

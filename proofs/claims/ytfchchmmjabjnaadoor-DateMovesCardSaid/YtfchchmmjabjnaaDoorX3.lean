/- The walk of sameSpans. -/
import Derived.Test.YtfchchmmjabjnaaDoorX2
namespace Go.Proofs.YtfchchmmjabjnaaDoor
open Go Go.RowKit
attribute [local go_sem] gv_yes
attribute [local go_sem high] neq_span

def zSp : Sp := ⟨0, 0⟩
theorem sp_same {l m : List Sp} {k : Nat} (h : l.length = m.length) (hk : l.length ≤ k) (hp : ∀ i, i < k → l.getD i zSp = m.getD i zSp) : l = m := by
  apply List.ext_getElem h
  intro i h1 h2
  have := hp i (by omega)
  simpa [List.getD_eq_getElem?_getD, h1, h2] using this
theorem span_get {w : World} {A : Option Addr} {l : List Sp} (h : RowsAt w A l.length 2 (fun i => (l.getD i ⟨0, 0⟩).cells)) {k : Nat} (hk : k < l.length) :
    ∃ b o, A = some ⟨b, o, none⟩ ∧ b < w.heap.size ∧ w.cell? ⟨b, o + k * 2, none⟩ = some (.int .i64 (l.getD k zSp).a) ∧ w.cell? ⟨b, o + k * 2 + 1, none⟩ = some (.int .i64 (l.getD k zSp).b) := by
  obtain ⟨b, o, hA, hb, hc⟩ := h (by omega)
  exact ⟨b, o, hA, hb, hc k 0 _ hk rfl, hc k 1 _ hk rfl⟩
set_option maxHeartbeats 1000000 in
theorem same_any (v v' : Value) (l m : List Sp) (w : World) (h1 : SpansAt w v l) (h2 : SpansAt w v' m) :
    Calls Tryd.prog 26 #[v, v'] w fun e w' => e = .returned (.bool (decide (l = m))) ∧ Ext w w' := by
  obtain ⟨A, ca, rfl, hA, hca, hca'⟩ := h1
  obtain ⟨B, cb, rfl, hB, hcb, hcb'⟩ := h2
  by_cases hn : l.length = m.length
  · have H := Lib.hid hn
    generalize hnl : l.length = n at hca hA
    have hnm : m.length = n := by omega
    rw [hnm] at hcb hB
    rw [hnm]
    have HL := Lib.hid hnl
    have HM := Lib.hid hnm
    have h63 : n ≤ 9223372036854775807 := Nat.le_trans hca (Nat.le_trans hca' (by decide))
    clear hn hnl hnm
    go_enter Tryd.func26, Tryd.ntmps26
    go_wp2
    go_loopw [5] (fun i wr => ∃ k : Nat, k ≤ n ∧ i = .int .i64 k ∧ (∀ i, i < k → l.getD i zSp = m.getD i zSp) ∧ Ext w wr) (fun i _ => n - (intOf i).toNat)
    case atStart => exact ⟨0, Nat.zero_le _, rfl, (fun i hi => absurd hi (by omega)), Ext.refl _⟩
    case round =>
      obtain ⟨k, hk, rfl, hp, hE⟩ := hrel
      obtain ⟨wo, rfl⟩ : ∃ wo : World, wo = wr := ⟨_, rfl⟩
      obtain ⟨hcwo, hfwo, hzwo⟩ := Ext.rules hE
      try simp only [World.size_alloc] at hzwo
      obtain ⟨hcbwo, hfbwo, hzbwo⟩ := Ext.rules (show Ext w wo from (by repeat (first | exact Ext.refl _ | (refine Ext.alloc ?_ _) | (refine Ext.trans ?_ (by assumption)))))
      clear hcwo hfwo
      by_cases hlt : k < n
      · obtain ⟨b, o, rfl, hb, c0, c1⟩ := span_get (l := l) (by rw [HL.out]; exact hA) (k := k) (by rw [HL.out]; exact hlt)
        obtain ⟨b', o', rfl, hb', d0, d1⟩ := span_get (l := m) (by rw [HM.out]; exact hB) (k := k) (by rw [HM.out]; exact hlt)
        obtain ⟨x, hx⟩ : ∃ x, x = l.getD k zSp := ⟨_, rfl⟩
        obtain ⟨y, hy⟩ : ∃ y, y = m.getD k zSp := ⟨_, rfl⟩
        rw [← hx] at c0 c1
        rw [← hy] at d0 d1
        by_cases hxy : x = y
        · have hp' : ∀ i, i < k + 1 → l.getD i zSp = m.getD i zSp := fun i hi => by
            by_cases h : i = k
            · subst h; rw [← hx, ← hy]; exact hxy
            · exact hp i (by omega)
          subst hxy
          clear hx hy hp
          go_upto_region 6 with (fail)
          refine wp_region_xw w mixed (by kernel_rfl) (by repeat (first | exact Ext.refl _ | (refine Ext.alloc ?_ _) | (refine Ext.trans ?_ (by assumption)))) ?_
          intro hne hrx hry
          try simp only []
          try simp only [List.append_eq, List.cons_append, List.nil_append]
          skip
          repeat (first
            | go_big_quiet_skip
            | (go_big_quiet_want; go_big_quiet_op; go_big_quiet_on))
          clear hne hry hrx
          refine wpQuiet_nil ?_
          intro wn hwn
          obtain ⟨hcwn, hfwn, hzwn⟩ := Ext.rules hwn
          try simp only [World.size_alloc] at hzwn
          obtain ⟨hcbwn, hfbwn, hzbwn⟩ := Ext.rules (show Ext w wn from (by repeat (first | exact Ext.refl _ | (refine Ext.alloc ?_ _) | (refine Ext.trans ?_ (by assumption)))))
          clear hcwn hfwn
          go_wp2
          exact ⟨⟨k + 1, by omega, by go_num, hp', (by repeat (first | exact Ext.refl _ | (refine Ext.alloc ?_ _) | (refine Ext.trans ?_ (by assumption))))⟩, by simp [intOf]; omega⟩
        · have hR : Hid (l ≠ m) := fun e => hxy (by rw [hx, hy, e])
          have h : (x.a == y.a) = false ∨ ((x.a == y.a) = true ∧ (x.b == y.b) = false) := by
            obtain ⟨xa, xb⟩ := x
            obtain ⟨ya, yb⟩ := y
            simp only [Sp.mk.injEq] at hxy
            simp only [beq_iff_eq, beq_eq_false_iff_ne]
            by_cases h : xa = ya
            · exact .inr ⟨h, fun e => hxy ⟨h, e⟩⟩
            · exact .inl h
          clear hxy hx hy hp
          rcases h with h1 | ⟨h1, h2⟩
          · go_upto_region 6 with (fail)
            refine wp_region_xw w mixed (by kernel_rfl) (by repeat (first | exact Ext.refl _ | (refine Ext.alloc ?_ _) | (refine Ext.trans ?_ (by assumption)))) ?_
            intro hne hrx hry
            try simp only []
            try simp only [List.append_eq, List.cons_append, List.nil_append]
            skip
            repeat (first
              | go_big_quiet_skip
              | (go_big_quiet_want; go_big_quiet_op; go_big_quiet_on))
            clear hne hry hrx
            refine wpQuiet_nil ?_
            intro wn hwn
            obtain ⟨hcwn, hfwn, hzwn⟩ := Ext.rules hwn
            try simp only [World.size_alloc] at hzwn
            obtain ⟨hcbwn, hfbwn, hzbwn⟩ := Ext.rules (show Ext w wn from (by repeat (first | exact Ext.refl _ | (refine Ext.alloc ?_ _) | (refine Ext.trans ?_ (by assumption)))))
            clear hcwn hfwn
            go_wp2
            go_ret
            exact ⟨by rw [decide_eq_false hR.out]; rfl, (by repeat (first | exact Ext.refl _ | (refine Ext.alloc ?_ _) | (refine Ext.trans ?_ (by assumption))))⟩
          · go_upto_region 6 with (fail)
            refine wp_region_xw w mixed (by kernel_rfl) (by repeat (first | exact Ext.refl _ | (refine Ext.alloc ?_ _) | (refine Ext.trans ?_ (by assumption)))) ?_
            intro hne hrx hry
            try simp only []
            try simp only [List.append_eq, List.cons_append, List.nil_append]
            skip
            repeat (first
              | go_big_quiet_skip
              | (go_big_quiet_want; go_big_quiet_op; go_big_quiet_on))
            clear hne hry hrx
            refine wpQuiet_nil ?_
            intro wn hwn
            obtain ⟨hcwn, hfwn, hzwn⟩ := Ext.rules hwn
            try simp only [World.size_alloc] at hzwn
            obtain ⟨hcbwn, hfbwn, hzbwn⟩ := Ext.rules (show Ext w wn from (by repeat (first | exact Ext.refl _ | (refine Ext.alloc ?_ _) | (refine Ext.trans ?_ (by assumption)))))
            clear hcwn hfwn
            go_wp2
            go_ret
            exact ⟨by rw [decide_eq_false hR.out]; rfl, (by repeat (first | exact Ext.refl _ | (refine Ext.alloc ?_ _) | (refine Ext.trans ?_ (by assumption))))⟩
      · have hR : Hid (l = m) := sp_same H.out (k := k) (by have := HL.out; omega) hp
        go_wp2
        go_ret
        exact ⟨by rw [decide_eq_true hR.out]; rfl, (by repeat (first | exact Ext.refl _ | (refine Ext.alloc ?_ _) | (refine Ext.trans ?_ (by assumption))))⟩
  · have hR : Hid (l ≠ m) := fun e => hn (by rw [e])
    have hne : ((l.length : Int) == (m.length : Int)) = false := beq_eq_false_iff_ne.2 (by omega)
    clear hn
    go_enter Tryd.func26, Tryd.ntmps26
    go_wp2
    go_ret
    exact ⟨by rw [decide_eq_false hR.out]; rfl, (by repeat (first | exact Ext.refl _ | (refine Ext.alloc ?_ _) | (refine Ext.trans ?_ (by assumption))))⟩
end Go.Proofs.YtfchchmmjabjnaaDoor

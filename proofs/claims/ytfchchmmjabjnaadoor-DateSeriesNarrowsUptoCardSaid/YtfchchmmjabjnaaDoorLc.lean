/- The walk of DateSpansFit. -/
import Derived.Test.YtfchchmmjabjnaaDoorLb
import Derived.Test.YtfchchmmjabjnaaDoorPl6
import Derived.Test.YtfchchmmjabjnaaDoorX3
namespace Go.Proofs.YtfchchmmjabjnaaDoor
open Go Go.RowKit
attribute [local go_sem] gv_yes

def inTo (l : List Sp) (n : Int) (k : Nat) : Bool := (l.take k).any fun s => decide (s.a ≤ n) && decide (n ≤ s.b)
theorem inTo_succ {l : List Sp} {n : Int} {k : Nat} (h : k < l.length) : inTo l n (k + 1) = (inTo l n k || (decide ((l.getD k zSp).a ≤ n) && decide (n ≤ (l.getD k zSp).b))) := by
  have e : l.getD k zSp = l[k] := by rw [List.getD_eq_getElem?_getD, List.getElem?_eq_getElem h]; rfl
  rw [e, inTo, List.take_succ_eq_append_getElem h, List.any_append]
  simp [inTo]
theorem fit_in {c : Cal} {t : Tr} {n : Int} (h1 : c.spE t = 0) (h2 : c.atE n = 0) : c.valid = true ∧ c.at? n = some (c.atV n) ∧ c.fitE t (c.atV n) = 0 ∧ c.spV t = c.spans t ∧ c.fitV t (c.atV n) = inTo (c.spV t) n (c.spV t).length := by
  have hv : c.valid = true := by
    cases hv : c.valid
    · unfold Cal.spE at h1; rw [hv] at h1; cases h1
    · rfl
  have hd : c.at? n = some (c.atV n) := by
    unfold Cal.atE at h2
    unfold Cal.atV
    rw [hv] at h2 ⊢
    cases ho : c.at? n with
    | none => rw [ho] at h2; cases h2
    | some d => rfl
  have hh := (at_has hd).1
  have hf : c.fitE t (c.atV n) = 0 := by
    unfold Cal.fitE
    rw [if_pos (inE_of hv hh)]
    unfold Cal.spE at h1
    rw [hv] at h1
    exact h1
  have hsp : c.spV t = c.spans t := by unfold Cal.spV; rw [if_pos h1]
  refine ⟨hv, hd, hf, hsp, ?_⟩
  unfold Cal.fitV
  rw [hf, decide_eq_true rfl, Bool.true_and, inTo, List.take_length, hsp, Bool.eq_iff_iff, List.any_eq_true]
  have hi := fit_iff (c := c) (t := t) (n := n)
  constructor
  · intro h
    obtain ⟨s, hs, h3, h4⟩ := hi.1 ⟨_, hd, h⟩
    exact ⟨s, hs, by simp [h3, h4]⟩
  · rintro ⟨s, hs, h3⟩
    simp only [Bool.and_eq_true, decide_eq_true_eq] at h3
    obtain ⟨d', h5, h6⟩ := hi.2 ⟨s, hs, h3⟩
    rw [hd] at h5
    obtain rfl := Option.some.inj h5
    exact h6
set_option maxRecDepth 100000 in
set_option maxHeartbeats 4000000 in
theorem dateSpansFit_walk (hwk : WorksOk) (A A' : Option Addr) (ca cb : Nat) (c : Cal) (t : Tr) (n : Int) (hn1 : -9223372036854775808 ≤ n) (hn2 : n ≤ 9223372036854775807) (w : World) (hC : CalAt w A ca A' cb c) :
    Calls Tryd.prog 8 #[.agg #[.slice A c.nk ca, .slice A' c.ny cb], .agg #[.int .i64 t.d, .bool t.more, .int .i64 t.m, .bool t.s, .string t.nm, .int .i64 t.af, .string t.kg], .int .i64 n] w fun e w' => e = .returned (.bool true) ∧ Ext w w' := by
  have hwk : ∀ w : World, Calls Tryd.prog 28 #[] w fun e w' => e = .returned (.bool true) ∧ Ext w w' := hwk
  have N1 := fun v (h : CalAt v A ca A' cb c) => spansX_any A A' ca cb c t v h
  have N2 : ∀ v, CalAt v A ca A' cb c → Calls Tryd.prog 39 #[.agg #[.slice A c.nk ca, .slice A' c.ny cb], .int .i64 n] v fun e w' => e = .returned (.tuple #[.agg #[.int .i64 (c.atV n).y, .int .i64 (c.atV n).m, .bool (c.atV n).s, .int .i64 (c.atV n).d], .int .i64 (c.atE n)]) ∧ Ext v w' := fun v h => atX_any A A' ca cb c n v h hn1 hn2
  by_cases h1 : c.spE t = 0
  · by_cases h2 : c.atE n = 0
    · obtain ⟨hv, _, f1, f2, f3⟩ := fit_in h1 h2
      have hg := spans_good c t
      rw [← f2] at hg
      have N3 := fun v (h : CalAt v A ca A' cb c) => fitsX_any A A' ca cb c t (c.atV n) v h
      simp only [h1] at N1
      simp only [h2] at N2
      simp only [f1, f3] at N3
      clear h1 h2 f1 f2 f3
      generalize c.spV t = l at *
      generalize c.atV n = d at *
      have HG := Lib.hid hg
      have HD : Hid (c.dayAt c.ny ≤ 156001) := by have := dayAt_bd c c.ny; have := valid_ny hv; unfold Hid; omega
      clear hg hv
      go_enter Tryd.func8, Tryd.ntmps8
      go_upto_region 1 with (fail)
      obtain ⟨v, hv⟩ : ∃ v, v = ((w.alloc (.cells #[.slice A c.nk ca, .slice A' c.ny cb] 25)).alloc (.cells #[.int .i64 t.d, .bool t.more, .int .i64 t.m, .bool t.s, .string t.nm, .int .i64 t.af, .string t.kg] 33)) := ⟨_, rfl⟩
      rw [← hv]
      have E : Ext w v := by rw [hv]; exact ((Ext.refl _).alloc _).alloc _
      have B1 : Held v w.heap.size 25 #[.slice A c.nk ca, .slice A' c.ny cb] := by rw [hv]; exact (Held.new _ _ _).alloc _
      have B2 : Held v (w.heap.size + 1) 33 #[.int .i64 t.d, .bool t.more, .int .i64 t.m, .bool t.s, .string t.nm, .int .i64 t.af, .string t.kg] := by rw [hv]; exact Held.at _ _ _ _ (by simp)
      clear hv
      have C := hC.ext E
      clear hC
      generalize w.heap.size = b1 at *
      obtain ⟨k0, k1⟩ := B1.c2; have lk := B1.lt
      obtain ⟨p0, p1, p2, p3, p4, p5, p6⟩ := B2.c7; have lp := B2.lt
      go_upto_region 2 with (go_at_call 33; (with_reducible refine Calls.mono (N1 _ C) ?_); rintro e v2 ⟨sv, rfl, h, S⟩)
      replace E := Ext.trans E h
      replace C := C.ext h
      replace B1 := B1.ext h
      replace B2 := B2.ext h
      clear h
      clear k0 k1 lk
      clear p0 p1 p2 p3 p4 p5 p6 lp
      obtain ⟨k0, k1⟩ := B1.c2; have lk := B1.lt
      obtain ⟨p0, p1, p2, p3, p4, p5, p6⟩ := B2.c7; have lp := B2.lt
      go_upto_region 3 with (go_at_call 39; (with_reducible refine Calls.mono (N2 _ C) ?_); rintro e v3 ⟨rfl, h⟩)
      replace S := S.ext h
      replace E := Ext.trans E h
      replace C := C.ext h
      replace B1 := B1.ext h
      replace B2 := B2.ext h
      clear h
      clear k0 k1 lk
      clear p0 p1 p2 p3 p4 p5 p6 lp
      obtain ⟨k0, k1⟩ := B1.c2; have lk := B1.lt
      obtain ⟨p0, p1, p2, p3, p4, p5, p6⟩ := B2.c7; have lp := B2.lt
      obtain ⟨v4, hv⟩ : ∃ v, v = v3.alloc (.cells #[.int .i64 d.y, .int .i64 d.m, .bool d.s, .int .i64 d.d] 39) := ⟨_, rfl⟩
      rw [← hv]
      have h : Ext v3 v4 := by rw [hv]; exact (Ext.refl _).alloc _
      have B3 : Held v4 v3.heap.size 39 #[.int .i64 d.y, .int .i64 d.m, .bool d.s, .int .i64 d.d] := by rw [hv]; exact Held.new _ _ _
      clear hv
      generalize v3.heap.size = b3 at *
      replace S := S.ext h
      replace E := Ext.trans E h
      replace C := C.ext h
      replace B1 := B1.ext h
      replace B2 := B2.ext h
      clear h
      clear k0 k1 lk
      clear p0 p1 p2 p3 p4 p5 p6 lp
      obtain ⟨k0, k1⟩ := B1.c2; have lk := B1.lt
      obtain ⟨p0, p1, p2, p3, p4, p5, p6⟩ := B2.c7; have lp := B2.lt
      obtain ⟨q0, q1, q2, q3⟩ := B3.c4; have lq := B3.lt
      go_upto_region 6 with (go_at_call 36; (with_reducible refine Calls.mono (N3 _ C) ?_); rintro e v5 ⟨rfl, h⟩)
      replace S := S.ext h
      replace E := Ext.trans E h
      replace C := C.ext h
      clear h
      clear N1 N2 N3 k0 k1 lk p0 p1 p2 p3 p4 p5 p6 lp q0 q1 q2 q3 lq B1 B2 B3 C
      obtain ⟨Z, cap, rfl, hZ, hcap, hmax⟩ := S
      have h63 : l.length ≤ 9223372036854775807 := Nat.le_trans hcap (Nat.le_trans hmax (by decide))
      go_upto_region 8 with (fail)
      go_loopw [13, 14] (fun fl i wr => ∃ k : Nat, k ≤ l.length ∧ i = .int .i64 k ∧ fl = .bool (inTo l n k) ∧ Ext v5 wr) (fun _ i _ => l.length - (intOf i).toNat)
      case atStart => exact ⟨0, Nat.zero_le _, rfl, rfl, Ext.refl _⟩
      case round =>
        obtain ⟨k, hk, rfl, rfl, hE⟩ := hrel
        obtain ⟨wo, rfl⟩ : ∃ wo : World, wo = wr := ⟨_, rfl⟩
        by_cases hlt : k < l.length
        · obtain ⟨zb, zo, rfl, hzb, c0, c1⟩ := span_get (hZ.ext hE) hlt
          have hb : 1 ≤ (l.getD k zSp).a ∧ (l.getD k zSp).a ≤ (l.getD k zSp).b ∧ (l.getD k zSp).b ≤ 156000 := by
            have g1 : 1 ≤ (l.getD k zSp).a ∧ (l.getD k zSp).a ≤ (l.getD k zSp).b ∧ (l.getD k zSp).b < c.dayAt c.ny := good_at HG.out hlt
            have g2 := HD.out
            omega
          have HS := Lib.hid (inTo_succ (n := n) hlt)
          by_cases h0 : 0 < k
          · obtain ⟨_, _, e, _, _, d1⟩ := span_get (hZ.ext hE) (show k - 1 < l.length by omega)
            injection e with e
            injection e with e1 e2
            subst e1
            subst e2
            have hd : (l.getD (k - 1) zSp).b + 2 ≤ (l.getD k zSp).a := good_next HG.out (by omega) hlt
            have hd1 : 1 ≤ (l.getD (k - 1) zSp).b := by have := good_at HG.out (show k - 1 < l.length by omega); exact Int.le_trans this.1 this.2.1
            generalize (l.getD (k - 1) zSp).b = z at *
            generalize (l.getD k zSp).a = x at *
            generalize (l.getD k zSp).b = y at *
            obtain ⟨b1, b2, b3⟩ := hb
            generalize hr : inTo l n k = r at *
            have hi1 : ((k : Int) - 1).toNat = k - 1 := by omega
            have hx1 : decide (y < x) = false := decide_eq_false (by omega)
            have hx2 : decide (x < z + 2) = false := decide_eq_false (by omega)
            clear hr
            cases r
            · by_cases g1 : x ≤ n
              · by_cases g2 : n ≤ y
                · have HR : inTo l n (k + 1) = true := by have := HS.out; simpa [g1, g2] using this
                  replace HR := Lib.hid HR
                  clear HS
                  go_upto_region 11 with (fail)
                  refine wp_region_xw wo mixed (by kernel_rfl) (by repeat (first | exact Ext.refl _ | (refine Ext.alloc ?_ _) | (refine Ext.trans ?_ (by assumption)))) ?_
                  intro hne hrx hry
                  try simp only []
                  try simp only [List.append_eq, List.cons_append, List.nil_append]
                  skip
                  repeat (first
                    | go_big_quiet_skip
                    | (go_big_quiet_want; go_big_quiet_op; go_big_quiet_on))
                  clear hne hry hrx
                  refine wpQuiet_nil ?_
                  intro wn hwn
                  obtain ⟨hcwn, hfwn, hzwn⟩ := Ext.rules hwn
                  try simp only [World.size_alloc] at hzwn
                  obtain ⟨hcbwn, hfbwn, hzbwn⟩ := Ext.rules (show Ext wo wn from (by repeat (first | exact Ext.refl _ | (refine Ext.alloc ?_ _) | (refine Ext.trans ?_ (by assumption)))))
                  clear hcwn hfwn
                  go_wp2
                  exact ⟨⟨k + 1, by omega, by go_num, by rw [HR.out], (by repeat (first | exact Ext.refl _ | (refine Ext.alloc ?_ _) | (refine Ext.trans ?_ (by assumption))))⟩, by simp [intOf]; omega⟩
                · have HR : inTo l n (k + 1) = false := by have := HS.out; simpa [g1, g2] using this
                  replace HR := Lib.hid HR
                  clear HS
                  go_upto_region 11 with (fail)
                  refine wp_region_xw wo mixed (by kernel_rfl) (by repeat (first | exact Ext.refl _ | (refine Ext.alloc ?_ _) | (refine Ext.trans ?_ (by assumption)))) ?_
                  intro hne hrx hry
                  try simp only []
                  try simp only [List.append_eq, List.cons_append, List.nil_append]
                  skip
                  repeat (first
                    | go_big_quiet_skip
                    | (go_big_quiet_want; go_big_quiet_op; go_big_quiet_on))
                  clear hne hry hrx
                  refine wpQuiet_nil ?_
                  intro wn hwn
                  obtain ⟨hcwn, hfwn, hzwn⟩ := Ext.rules hwn
                  try simp only [World.size_alloc] at hzwn
                  obtain ⟨hcbwn, hfbwn, hzbwn⟩ := Ext.rules (show Ext wo wn from (by repeat (first | exact Ext.refl _ | (refine Ext.alloc ?_ _) | (refine Ext.trans ?_ (by assumption)))))
                  clear hcwn hfwn
                  go_wp2
                  exact ⟨⟨k + 1, by omega, by go_num, by rw [HR.out], (by repeat (first | exact Ext.refl _ | (refine Ext.alloc ?_ _) | (refine Ext.trans ?_ (by assumption))))⟩, by simp [intOf]; omega⟩
              · have HR : inTo l n (k + 1) = false := by have := HS.out; simpa [g1] using this
                replace HR := Lib.hid HR
                clear HS
                go_upto_region 11 with (fail)
                refine wp_region_xw wo mixed (by kernel_rfl) (by repeat (first | exact Ext.refl _ | (refine Ext.alloc ?_ _) | (refine Ext.trans ?_ (by assumption)))) ?_
                intro hne hrx hry
                try simp only []
                try simp only [List.append_eq, List.cons_append, List.nil_append]
                skip
                repeat (first
                  | go_big_quiet_skip
                  | (go_big_quiet_want; go_big_quiet_op; go_big_quiet_on))
                clear hne hry hrx
                refine wpQuiet_nil ?_
                intro wn hwn
                obtain ⟨hcwn, hfwn, hzwn⟩ := Ext.rules hwn
                try simp only [World.size_alloc] at hzwn
                obtain ⟨hcbwn, hfbwn, hzbwn⟩ := Ext.rules (show Ext wo wn from (by repeat (first | exact Ext.refl _ | (refine Ext.alloc ?_ _) | (refine Ext.trans ?_ (by assumption)))))
                clear hcwn hfwn
                go_wp2
                exact ⟨⟨k + 1, by omega, by go_num, by rw [HR.out], (by repeat (first | exact Ext.refl _ | (refine Ext.alloc ?_ _) | (refine Ext.trans ?_ (by assumption))))⟩, by simp [intOf]; omega⟩
            · have HR : inTo l n (k + 1) = true := by have := HS.out; simpa using this
              replace HR := Lib.hid HR
              clear HS
              go_upto_region 11 with (fail)
              refine wp_region_xw wo mixed (by kernel_rfl) (by repeat (first | exact Ext.refl _ | (refine Ext.alloc ?_ _) | (refine Ext.trans ?_ (by assumption)))) ?_
              intro hne hrx hry
              try simp only []
              try simp only [List.append_eq, List.cons_append, List.nil_append]
              skip
              repeat (first
                | go_big_quiet_skip
                | (go_big_quiet_want; go_big_quiet_op; go_big_quiet_on))
              clear hne hry hrx
              refine wpQuiet_nil ?_
              intro wn hwn
              obtain ⟨hcwn, hfwn, hzwn⟩ := Ext.rules hwn
              try simp only [World.size_alloc] at hzwn
              obtain ⟨hcbwn, hfbwn, hzbwn⟩ := Ext.rules (show Ext wo wn from (by repeat (first | exact Ext.refl _ | (refine Ext.alloc ?_ _) | (refine Ext.trans ?_ (by assumption)))))
              clear hcwn hfwn
              go_wp2
              exact ⟨⟨k + 1, by omega, by go_num, by rw [HR.out], (by repeat (first | exact Ext.refl _ | (refine Ext.alloc ?_ _) | (refine Ext.trans ?_ (by assumption))))⟩, by simp [intOf]; omega⟩
          · generalize (l.getD k zSp).a = x at *
            generalize (l.getD k zSp).b = y at *
            obtain ⟨b1, b2, b3⟩ := hb
            have hx1 : decide (y < x) = false := decide_eq_false (by omega)
            generalize hr : inTo l n k = r at *
            clear hr
            cases r
            · by_cases g1 : x ≤ n
              · by_cases g2 : n ≤ y
                · have HR : inTo l n (k + 1) = true := by have := HS.out; simpa [g1, g2] using this
                  replace HR := Lib.hid HR
                  clear HS
                  go_upto_region 11 with (fail)
                  refine wp_region_xw wo mixed (by kernel_rfl) (by repeat (first | exact Ext.refl _ | (refine Ext.alloc ?_ _) | (refine Ext.trans ?_ (by assumption)))) ?_
                  intro hne hrx hry
                  try simp only []
                  try simp only [List.append_eq, List.cons_append, List.nil_append]
                  skip
                  repeat (first
                    | go_big_quiet_skip
                    | (go_big_quiet_want; go_big_quiet_op; go_big_quiet_on))
                  clear hne hry hrx
                  refine wpQuiet_nil ?_
                  intro wn hwn
                  obtain ⟨hcwn, hfwn, hzwn⟩ := Ext.rules hwn
                  try simp only [World.size_alloc] at hzwn
                  obtain ⟨hcbwn, hfbwn, hzbwn⟩ := Ext.rules (show Ext wo wn from (by repeat (first | exact Ext.refl _ | (refine Ext.alloc ?_ _) | (refine Ext.trans ?_ (by assumption)))))
                  clear hcwn hfwn
                  go_wp2
                  exact ⟨⟨k + 1, by omega, by go_num, by rw [HR.out], (by repeat (first | exact Ext.refl _ | (refine Ext.alloc ?_ _) | (refine Ext.trans ?_ (by assumption))))⟩, by simp [intOf]; omega⟩
                · have HR : inTo l n (k + 1) = false := by have := HS.out; simpa [g1, g2] using this
                  replace HR := Lib.hid HR
                  clear HS
                  go_upto_region 11 with (fail)
                  refine wp_region_xw wo mixed (by kernel_rfl) (by repeat (first | exact Ext.refl _ | (refine Ext.alloc ?_ _) | (refine Ext.trans ?_ (by assumption)))) ?_
                  intro hne hrx hry
                  try simp only []
                  try simp only [List.append_eq, List.cons_append, List.nil_append]
                  skip
                  repeat (first
                    | go_big_quiet_skip
                    | (go_big_quiet_want; go_big_quiet_op; go_big_quiet_on))
                  clear hne hry hrx
                  refine wpQuiet_nil ?_
                  intro wn hwn
                  obtain ⟨hcwn, hfwn, hzwn⟩ := Ext.rules hwn
                  try simp only [World.size_alloc] at hzwn
                  obtain ⟨hcbwn, hfbwn, hzbwn⟩ := Ext.rules (show Ext wo wn from (by repeat (first | exact Ext.refl _ | (refine Ext.alloc ?_ _) | (refine Ext.trans ?_ (by assumption)))))
                  clear hcwn hfwn
                  go_wp2
                  exact ⟨⟨k + 1, by omega, by go_num, by rw [HR.out], (by repeat (first | exact Ext.refl _ | (refine Ext.alloc ?_ _) | (refine Ext.trans ?_ (by assumption))))⟩, by simp [intOf]; omega⟩
              · have HR : inTo l n (k + 1) = false := by have := HS.out; simpa [g1] using this
                replace HR := Lib.hid HR
                clear HS
                go_upto_region 11 with (fail)
                refine wp_region_xw wo mixed (by kernel_rfl) (by repeat (first | exact Ext.refl _ | (refine Ext.alloc ?_ _) | (refine Ext.trans ?_ (by assumption)))) ?_
                intro hne hrx hry
                try simp only []
                try simp only [List.append_eq, List.cons_append, List.nil_append]
                skip
                repeat (first
                  | go_big_quiet_skip
                  | (go_big_quiet_want; go_big_quiet_op; go_big_quiet_on))
                clear hne hry hrx
                refine wpQuiet_nil ?_
                intro wn hwn
                obtain ⟨hcwn, hfwn, hzwn⟩ := Ext.rules hwn
                try simp only [World.size_alloc] at hzwn
                obtain ⟨hcbwn, hfbwn, hzbwn⟩ := Ext.rules (show Ext wo wn from (by repeat (first | exact Ext.refl _ | (refine Ext.alloc ?_ _) | (refine Ext.trans ?_ (by assumption)))))
                clear hcwn hfwn
                go_wp2
                exact ⟨⟨k + 1, by omega, by go_num, by rw [HR.out], (by repeat (first | exact Ext.refl _ | (refine Ext.alloc ?_ _) | (refine Ext.trans ?_ (by assumption))))⟩, by simp [intOf]; omega⟩
            · have HR : inTo l n (k + 1) = true := by have := HS.out; simpa using this
              replace HR := Lib.hid HR
              clear HS
              go_upto_region 11 with (fail)
              refine wp_region_xw wo mixed (by kernel_rfl) (by repeat (first | exact Ext.refl _ | (refine Ext.alloc ?_ _) | (refine Ext.trans ?_ (by assumption)))) ?_
              intro hne hrx hry
              try simp only []
              try simp only [List.append_eq, List.cons_append, List.nil_append]
              skip
              repeat (first
                | go_big_quiet_skip
                | (go_big_quiet_want; go_big_quiet_op; go_big_quiet_on))
              clear hne hry hrx
              refine wpQuiet_nil ?_
              intro wn hwn
              obtain ⟨hcwn, hfwn, hzwn⟩ := Ext.rules hwn
              try simp only [World.size_alloc] at hzwn
              obtain ⟨hcbwn, hfbwn, hzbwn⟩ := Ext.rules (show Ext wo wn from (by repeat (first | exact Ext.refl _ | (refine Ext.alloc ?_ _) | (refine Ext.trans ?_ (by assumption)))))
              clear hcwn hfwn
              go_wp2
              exact ⟨⟨k + 1, by omega, by go_num, by rw [HR.out], (by repeat (first | exact Ext.refl _ | (refine Ext.alloc ?_ _) | (refine Ext.trans ?_ (by assumption))))⟩, by simp [intOf]; omega⟩
        · have hkl : k = l.length := by omega
          subst hkl
          go_wp2_with (go_at_call 28; (with_reducible refine Calls.mono (hwk _) ?_); rintro e v7 ⟨rfl, h⟩)
          go_ret
          exact ⟨rfl, (E.trans hE).trans h⟩
    · simp only [h1] at N1
      clear h1
      generalize c.spV t = l at *
      generalize c.atV n = d at *
      generalize c.atE n = e at *
      have he : (e == 0) = false := beq_eq_false_iff_ne.2 h2
      go_enter Tryd.func8, Tryd.ntmps8
      go_upto_region 1 with (fail)
      obtain ⟨v, hv⟩ : ∃ v, v = ((w.alloc (.cells #[.slice A c.nk ca, .slice A' c.ny cb] 25)).alloc (.cells #[.int .i64 t.d, .bool t.more, .int .i64 t.m, .bool t.s, .string t.nm, .int .i64 t.af, .string t.kg] 33)) := ⟨_, rfl⟩
      rw [← hv]
      have E : Ext w v := by rw [hv]; exact ((Ext.refl _).alloc _).alloc _
      have B1 : Held v w.heap.size 25 #[.slice A c.nk ca, .slice A' c.ny cb] := by rw [hv]; exact (Held.new _ _ _).alloc _
      have B2 : Held v (w.heap.size + 1) 33 #[.int .i64 t.d, .bool t.more, .int .i64 t.m, .bool t.s, .string t.nm, .int .i64 t.af, .string t.kg] := by rw [hv]; exact Held.at _ _ _ _ (by simp)
      clear hv
      have C := hC.ext E
      clear hC
      generalize w.heap.size = b1 at *
      obtain ⟨k0, k1⟩ := B1.c2; have lk := B1.lt
      obtain ⟨p0, p1, p2, p3, p4, p5, p6⟩ := B2.c7; have lp := B2.lt
      go_upto_region 2 with (go_at_call 33; (with_reducible refine Calls.mono (N1 _ C) ?_); rintro e v2 ⟨sv, rfl, h, S⟩)
      replace E := Ext.trans E h
      replace C := C.ext h
      replace B1 := B1.ext h
      replace B2 := B2.ext h
      clear h
      clear k0 k1 lk
      clear p0 p1 p2 p3 p4 p5 p6 lp
      obtain ⟨k0, k1⟩ := B1.c2; have lk := B1.lt
      obtain ⟨p0, p1, p2, p3, p4, p5, p6⟩ := B2.c7; have lp := B2.lt
      go_upto_region 3 with (go_at_call 39; (with_reducible refine Calls.mono (N2 _ C) ?_); rintro e v3 ⟨rfl, h⟩)
      replace S := S.ext h
      replace E := Ext.trans E h
      replace C := C.ext h
      replace B1 := B1.ext h
      replace B2 := B2.ext h
      clear h
      clear k0 k1 lk
      clear p0 p1 p2 p3 p4 p5 p6 lp
      obtain ⟨k0, k1⟩ := B1.c2; have lk := B1.lt
      obtain ⟨p0, p1, p2, p3, p4, p5, p6⟩ := B2.c7; have lp := B2.lt
      obtain ⟨v4, hv⟩ : ∃ v, v = v3.alloc (.cells #[.int .i64 d.y, .int .i64 d.m, .bool d.s, .int .i64 d.d] 39) := ⟨_, rfl⟩
      rw [← hv]
      have h : Ext v3 v4 := by rw [hv]; exact (Ext.refl _).alloc _
      have B3 : Held v4 v3.heap.size 39 #[.int .i64 d.y, .int .i64 d.m, .bool d.s, .int .i64 d.d] := by rw [hv]; exact Held.new _ _ _
      clear hv
      generalize v3.heap.size = b3 at *
      replace S := S.ext h
      replace E := Ext.trans E h
      replace C := C.ext h
      replace B1 := B1.ext h
      replace B2 := B2.ext h
      clear h
      clear k0 k1 lk
      clear p0 p1 p2 p3 p4 p5 p6 lp
      obtain ⟨k0, k1⟩ := B1.c2; have lk := B1.lt
      obtain ⟨p0, p1, p2, p3, p4, p5, p6⟩ := B2.c7; have lp := B2.lt
      obtain ⟨q0, q1, q2, q3⟩ := B3.c4; have lq := B3.lt
      go_wp2_with (go_at_call 28; (with_reducible refine Calls.mono (hwk _) ?_); rintro e v5 ⟨rfl, h⟩)
      go_ret
      exact ⟨rfl, E.trans h⟩
  · generalize c.spV t = l at *
    generalize c.atV n = d at *
    generalize c.atE n = f at *
    generalize c.spE t = e at *
    have he : (e == 0) = false := beq_eq_false_iff_ne.2 h1
    go_enter Tryd.func8, Tryd.ntmps8
    go_upto_region 1 with (fail)
    obtain ⟨v, hv⟩ : ∃ v, v = ((w.alloc (.cells #[.slice A c.nk ca, .slice A' c.ny cb] 25)).alloc (.cells #[.int .i64 t.d, .bool t.more, .int .i64 t.m, .bool t.s, .string t.nm, .int .i64 t.af, .string t.kg] 33)) := ⟨_, rfl⟩
    rw [← hv]
    have E : Ext w v := by rw [hv]; exact ((Ext.refl _).alloc _).alloc _
    have B1 : Held v w.heap.size 25 #[.slice A c.nk ca, .slice A' c.ny cb] := by rw [hv]; exact (Held.new _ _ _).alloc _
    have B2 : Held v (w.heap.size + 1) 33 #[.int .i64 t.d, .bool t.more, .int .i64 t.m, .bool t.s, .string t.nm, .int .i64 t.af, .string t.kg] := by rw [hv]; exact Held.at _ _ _ _ (by simp)
    clear hv
    have C := hC.ext E
    clear hC
    generalize w.heap.size = b1 at *
    obtain ⟨k0, k1⟩ := B1.c2; have lk := B1.lt
    obtain ⟨p0, p1, p2, p3, p4, p5, p6⟩ := B2.c7; have lp := B2.lt
    go_upto_region 2 with (go_at_call 33; (with_reducible refine Calls.mono (N1 _ C) ?_); rintro e v2 ⟨sv, rfl, h, S⟩)
    replace E := Ext.trans E h
    replace C := C.ext h
    replace B1 := B1.ext h
    replace B2 := B2.ext h
    clear h
    clear k0 k1 lk
    clear p0 p1 p2 p3 p4 p5 p6 lp
    obtain ⟨k0, k1⟩ := B1.c2; have lk := B1.lt
    obtain ⟨p0, p1, p2, p3, p4, p5, p6⟩ := B2.c7; have lp := B2.lt
    go_upto_region 3 with (go_at_call 39; (with_reducible refine Calls.mono (N2 _ C) ?_); rintro e v3 ⟨rfl, h⟩)
    replace S := S.ext h
    replace E := Ext.trans E h
    replace C := C.ext h
    replace B1 := B1.ext h
    replace B2 := B2.ext h
    clear h
    clear k0 k1 lk
    clear p0 p1 p2 p3 p4 p5 p6 lp
    obtain ⟨k0, k1⟩ := B1.c2; have lk := B1.lt
    obtain ⟨p0, p1, p2, p3, p4, p5, p6⟩ := B2.c7; have lp := B2.lt
    obtain ⟨v4, hv⟩ : ∃ v, v = v3.alloc (.cells #[.int .i64 d.y, .int .i64 d.m, .bool d.s, .int .i64 d.d] 39) := ⟨_, rfl⟩
    rw [← hv]
    have h : Ext v3 v4 := by rw [hv]; exact (Ext.refl _).alloc _
    have B3 : Held v4 v3.heap.size 39 #[.int .i64 d.y, .int .i64 d.m, .bool d.s, .int .i64 d.d] := by rw [hv]; exact Held.new _ _ _
    clear hv
    generalize v3.heap.size = b3 at *
    replace S := S.ext h
    replace E := Ext.trans E h
    replace C := C.ext h
    replace B1 := B1.ext h
    replace B2 := B2.ext h
    clear h
    clear k0 k1 lk
    clear p0 p1 p2 p3 p4 p5 p6 lp
    obtain ⟨k0, k1⟩ := B1.c2; have lk := B1.lt
    obtain ⟨p0, p1, p2, p3, p4, p5, p6⟩ := B2.c7; have lp := B2.lt
    obtain ⟨q0, q1, q2, q3⟩ := B3.c4; have lq := B3.lt
    go_wp2_with (go_at_call 28; (with_reducible refine Calls.mono (hwk _) ?_); rintro e v5 ⟨rfl, h⟩)
    go_ret
    exact ⟨rfl, E.trans h⟩
end Go.Proofs.YtfchchmmjabjnaaDoor

/- The walks of the checks of kings and years. -/
import Derived.Test.YtfchchmmjabjnaaDoorW3
namespace Go.Proofs.YtfchchmmjabjnaaDoor
open Go Go.RowKit
attribute [local go_sem] gv_yes

def hadF (f : Nat → Yr) (y : Yr) (n : Nat) : Bool := (List.range n).any fun j => (f j).alike y
def NotHad (f : Nat → Yr) (y : Yr) (k : Nat) : Prop := ∀ j, j < k → (f j).alike y = false
theorem hadF_no {f : Nat → Yr} {y : Yr} {n : Nat} (h : NotHad f y n) : hadF f y n = false := by
  rw [hadF, List.any_eq_false]; intro j hj; simpa using h j (by simpa using hj)
theorem hadF_yes {f : Nat → Yr} {y : Yr} {n k : Nat} (hk : k < n) (h : (f k).alike y = true) : hadF f y n = true := by
  rw [hadF, List.any_eq_true]; exact ⟨k, by simpa using hk, h⟩
theorem alike_eq (x y : Yr) : x.alike y = ((x.k == y.k) && (x.nm.toList == y.nm.toList)) := by
  rw [Yr.alike, same_eq]; rfl

set_option maxRecDepth 100000 in
set_option maxHeartbeats 1000000 in
theorem had_any (A : Option Addr) (n cap : Nat) (f : Nat → Yr) (y : Yr) (w : World) (hA : RowsAt w A n 4 (fun i => (f i).cells)) (hn : n ≤ 9223372036854775807) :
    Calls Tryd.prog 116 #[.slice A n cap, .agg #[.int .i64 y.k, .string y.nm, .int .i64 y.lg, .int .i64 y.db]] w fun e w' => e = .returned (.bool (hadF f y n)) ∧ Ext w w' := by
  generalize hr : hadF f y n = r
  have H : Hid (hadF f y n = r) := hr
  clear hr
  go_enter Tryd.func116, Tryd.ntmps116
  go_wp2
  go_loopw [5] (fun i wr => ∃ k : Nat, k ≤ n ∧ i = .int .i64 k ∧ NotHad f y k ∧ Ext (w.alloc (.cells #[.int .i64 y.k, .string y.nm, .int .i64 y.lg, .int .i64 y.db] 99)) wr) (fun i _ => n - (intOf i).toNat)
  case atStart => exact ⟨0, Nat.zero_le _, rfl, fun j hj => absurd hj (by omega), Ext.refl _⟩
  case round =>
    obtain ⟨k, hk, rfl, hN, hB⟩ := hrel
    by_cases hlt : k < n
    · obtain ⟨b, off, rfl, hb, hc⟩ := hA (by omega)
      have c0 : w.cell? ⟨b, off + k * 4, none⟩ = some (.int .i64 (f k).k) := by simpa using hc k 0 _ hlt rfl
      have c1 : w.cell? ⟨b, off + k * 4 + 1, none⟩ = some (.string (f k).nm) := hc k 1 _ hlt rfl
      have HA : Hid ((f k).alike y = _) := alike_eq (f k) y
      clear hc hA
      obtain ⟨hcwr, hfwr, hzwr⟩ := Ext.rules hB
      try simp only [World.size_alloc] at hzwr
      have hk0wr := fun o => hcwr (w.heap.size) o (by first | omega | (simp; done) | (simp; omega))
      have hj0wr := fun o => hfwr (w.heap.size) o (by first | omega | (simp; done) | (simp; omega))
      have hl0wr : w.heap.size < wr.heap.size := (by first | omega | (simp; done) | (simp; omega))
      obtain ⟨hcbwr, hfbwr, hzbwr⟩ := Ext.rules (show Ext w wr from (by repeat (first | exact Ext.refl _ | (refine Ext.alloc ?_ _) | (refine Ext.trans ?_ (by assumption)))))
      clear hcwr hfwr
      go_upto_region 4 with (fail)
      refine wp_region_xw w mixed (by kernel_rfl) (by repeat (first | exact Ext.refl _ | (refine Ext.alloc ?_ _) | (refine Ext.trans ?_ (by assumption)))) ?_
      intro hne hrx hry
      try simp only []
      try simp only [List.append_eq, List.cons_append, List.nil_append]
      have hrx0 := fun u o => hrx u (w.heap.size) o (by first | omega | (simp; done) | (simp; omega))
      skip
      repeat (first
        | go_big_quiet_skip
        | ((with_reducible apply q_and)
           · exact rfl
           · exact rfl
           · exact rfl
           intro K hK
           unfold Then; go_big_quiet_op; (with_reducible refine hK _ ?_); clear hK K)
        | ((with_reducible apply q_or)
           · exact rfl
           · exact rfl
           · exact rfl
           intro K hK
           unfold Then; go_big_quiet_op; (with_reducible refine hK _ ?_); clear hK K)
        | (go_big_quiet_want; go_big_quiet_op; go_big_quiet_on)
        | ((with_reducible apply q_and_g)
           · first | exact wanted_pt rfl rfl rfl | exact wanted_pf rfl rfl rfl | exact wanted_gt rfl rfl rfl | exact wanted_gf rfl rfl rfl
           · exact rfl
           · exact rfl
           · exact rfl
           intro K hK
           unfold Then; go_big_quiet_op; (with_reducible refine hK _ ?_); clear hK K)
        | ((with_reducible apply q_or_g)
           · first | exact wanted_pt rfl rfl rfl | exact wanted_pf rfl rfl rfl | exact wanted_gt rfl rfl rfl | exact wanted_gf rfl rfl rfl
           · exact rfl
           · exact rfl
           · exact rfl
           intro K hK
           unfold Then; go_big_quiet_op; (with_reducible refine hK _ ?_); clear hK K)
        | ((with_reducible apply q_sym)
           · first | exact wanted_pt rfl rfl rfl | exact wanted_pf rfl rfl rfl | exact wanted_gt rfl rfl rfl | exact wanted_gf rfl rfl rfl
           apply Exists.intro
           refine And.intro (fun hgb => ?_) ?_
           · intro u
             try simp at hgb
             go_simp
             try simp only [if_pos hsl]
             try simp only [if_pos (hin (by omega))]
             try (simp only [hd0 (by omega)]; go_simp)
             try (rw [hlook _ (Ext.trans (by repeat (first | exact Ext.refl _ | (refine Ext.alloc ?_ _) | (refine Ext.trans ?_ (by assumption)))) u.e) (hlk0 hgb)]; go_simp)
             first
               | (with_reducible exact rfl)
           intro K hK
           unfold Then; go_big_quiet_op; (with_reducible refine hK _ ?_); clear hK K))
      clear hne hry hrx hrx0
      refine wpQuiet_nil ?_
      intro wq hq
      obtain ⟨hcwq, hfwq, hzwq⟩ := Ext.rules hq
      try simp only [World.size_alloc] at hzwq
      have hk0wq := fun o => hcwq (w.heap.size) o (by first | omega | (simp; done) | (simp; omega))
      have hj0wq := fun o => hfwq (w.heap.size) o (by first | omega | (simp; done) | (simp; omega))
      have hl0wq : w.heap.size < wq.heap.size := (by first | omega | (simp; done) | (simp; omega))
      obtain ⟨hcbwq, hfbwq, hzbwq⟩ := Ext.rules (show Ext w wq from (by repeat (first | exact Ext.refl _ | (refine Ext.alloc ?_ _) | (refine Ext.trans ?_ (by assumption)))))
      clear hcwq hfwq
      generalize hg : (((f k).k == y.k) && ((f k).nm.toList == y.nm.toList)) = g at *
      cases g
      · go_wp2
        exact ⟨⟨k + 1, by omega, by go_num, fun j hj => by rcases Nat.lt_or_ge j k with h | h; exact hN j h; rw [show j = k from by omega]; exact HA.out, hB.trans hq⟩, by simp [intOf]; omega⟩
      · go_wp2
        go_ret
        exact ⟨ret_bool (by rw [← H.out]; exact (hadF_yes hlt HA.out).symm), (by repeat (first | exact Ext.refl _ | (refine Ext.alloc ?_ _) | (refine Ext.trans ?_ (by assumption))))⟩
    · go_wp2
      go_ret
      exact ⟨ret_bool (by rw [← H.out]; exact (hadF_no (fun j hj => hN j (by omega))).symm), (by repeat (first | exact Ext.refl _ | (refine Ext.alloc ?_ _) | (refine Ext.trans ?_ (by assumption))))⟩

def NoTwin (f : Nat → ByteArray) (k : Nat) : Prop := ∀ i j, j < i → i < k → f j ≠ f i
def NameAll (f : Nat → ByteArray) (k : Nat) : Bool := (List.range k).all fun i => isName (f i)
theorem kingsOk_twin {c : Cal} {j k : Nat} (hk : k < c.nk) (hj : j < k) (h : c.kg j = c.kg k) : c.kingsOk = false := by
  rw [Bool.eq_false_iff]
  intro hh
  simp only [Cal.kingsOk, Bool.and_eq_true, List.all_eq_true, List.mem_range] at hh
  have h1 := hh.2 k hk
  simp only [Cal.kingOk, Bool.and_eq_true, List.all_eq_true, List.mem_range, decide_eq_true_eq] at h1
  exact h1.2 j hj h
theorem kingsOk_apart {c : Cal} (h : NoTwin c.kg c.nk) : c.kingsOk = (decide (1 ≤ (c.nk : Int)) && decide ((c.nk : Int) ≤ 40) && NameAll c.kg c.nk) := by
  have e : (List.range c.nk).all c.kingOk = NameAll c.kg c.nk := by
    rw [NameAll, Bool.eq_iff_iff]
    simp only [List.all_eq_true, List.mem_range, Cal.kingOk, Bool.and_eq_true, decide_eq_true_eq]
    exact ⟨fun hh i hi => (hh i hi).1, fun hh i hi => ⟨hh i hi, fun j hj => h i j hj hi⟩⟩
  rw [Cal.kingsOk, e]
  congr 2 <;> simp <;> omega
theorem notTo_snoc {f : Nat → ByteArray} {s : ByteArray} {k : Nat} (h : NotTo f s k) (hk : f k ≠ s) : NotTo f s (k + 1) := fun j hj => by
  rcases Nat.lt_or_ge j k with h' | h'
  · exact h j h'
  · rw [show j = k from by omega]; exact hk
theorem noTwin_snoc {f : Nat → ByteArray} {k : Nat} (h : NoTwin f k) (hk : NotTo f (f k) k) : NoTwin f (k + 1) := fun i j hj hi => by
  rcases Nat.lt_or_ge i k with h' | h'
  · exact h i j hj h'
  · obtain rfl : i = k := by omega
    exact hk j hj
theorem nameAll_snoc (f : Nat → ByteArray) (k : Nat) : NameAll f (k + 1) = (NameAll f k && isName (f k)) := by
  rw [NameAll, NameAll, List.range_succ, List.all_append]; simp
set_option maxRecDepth 100000 in
set_option maxHeartbeats 1000000 in
theorem validKings_any (A : Option Addr) (ca : Nat) (c : Cal) (w : World) (hA : RowsAt w A c.nk 1 (fun i => [.string (c.kg i)])) (hn : c.nk ≤ 9223372036854775807) (hcap : c.nk ≤ ca) :
    Calls Tryd.prog 119 #[.slice A c.nk ca] w fun e w' => e = .returned (.bool c.kingsOk) ∧ Ext w w' := by
  go_enter Tryd.func119, Tryd.ntmps119
  go_upto_region 1 with (fail)
  go_step3
  go_upto_region 1 with (fail)
  refine wp_region_xl w (by repeat (first | exact Ext.refl _ | (refine Ext.alloc ?_ _) | (refine Ext.trans ?_ (by assumption)))) ?_
  intro hne hrx hry
  try simp only []
  try simp only [List.append_eq, List.cons_append, List.nil_append]
  skip
  repeat (first
    | go_big_quiet_skip
    | ((with_reducible apply q_and)
       · exact rfl
       · exact rfl
       · exact rfl
       intro K hK
       unfold Then; go_big_quiet_op; (with_reducible refine hK _ ?_); clear hK K)
    | ((with_reducible apply q_or)
       · exact rfl
       · exact rfl
       · exact rfl
       intro K hK
       unfold Then; go_big_quiet_op; (with_reducible refine hK _ ?_); clear hK K)
    | (go_big_quiet_want; go_big_quiet_op; go_big_quiet_on)
    | ((with_reducible apply q_and_g)
       · first | exact wanted_pt rfl rfl rfl | exact wanted_pf rfl rfl rfl | exact wanted_gt rfl rfl rfl | exact wanted_gf rfl rfl rfl
       · exact rfl
       · exact rfl
       · exact rfl
       intro K hK
       unfold Then; go_big_quiet_op; (with_reducible refine hK _ ?_); clear hK K)
    | ((with_reducible apply q_or_g)
       · first | exact wanted_pt rfl rfl rfl | exact wanted_pf rfl rfl rfl | exact wanted_gt rfl rfl rfl | exact wanted_gf rfl rfl rfl
       · exact rfl
       · exact rfl
       · exact rfl
       intro K hK
       unfold Then; go_big_quiet_op; (with_reducible refine hK _ ?_); clear hK K)
    | ((with_reducible apply q_sym)
       · first | exact wanted_pt rfl rfl rfl | exact wanted_pf rfl rfl rfl | exact wanted_gt rfl rfl rfl | exact wanted_gf rfl rfl rfl
       apply Exists.intro
       refine And.intro (fun hgb => ?_) ?_
       · intro u
         try simp at hgb
         go_simp
         try simp only [if_pos hsl]
         try simp only [if_pos (hin (by omega))]
         try (simp only [hd0 (by omega)]; go_simp)
         try (rw [hlook _ (Ext.trans (by repeat (first | exact Ext.refl _ | (refine Ext.alloc ?_ _) | (refine Ext.trans ?_ (by assumption)))) u.e) (hlk0 hgb)]; go_simp)
         first
           | (with_reducible exact rfl)
       intro K hK
       unfold Then; go_big_quiet_op; (with_reducible refine hK _ ?_); clear hK K))
  clear hne hry hrx
  refine wpQuiet_nil ?_
  intro wq hq
  obtain ⟨hcwq, hfwq, hzwq⟩ := Ext.rules hq
  try simp only [World.size_alloc] at hzwq
  obtain ⟨hcbwq, hfbwq, hzbwq⟩ := Ext.rules (show Ext w wq from (by repeat (first | exact Ext.refl _ | (refine Ext.alloc ?_ _) | (refine Ext.trans ?_ (by assumption)))))
  clear hcwq hfwq
  go_wp2
  go_step3
  go_wp2
  go_loopw [3, 18] (fun o i wr => ∃ k : Nat, k ≤ c.nk ∧ i = .int .i64 k ∧ o = .bool (decide (1 ≤ (c.nk : Int)) && decide ((c.nk : Int) ≤ 40) && NameAll c.kg k) ∧ NoTwin c.kg k ∧ Ext w wr) (fun _ i _ => c.nk - (intOf i).toNat)
  case atStart => exact ⟨0, Nat.zero_le _, rfl, by simp [NameAll], (fun i j _ h => absurd h (by omega)), hq⟩
  case round =>
    obtain ⟨k, hk, rfl, rfl, hN, hB⟩ := hrel
    clear hq hzwq hcbwq hfbwq hzbwq
    obtain ⟨wo, rfl⟩ : ∃ wo : World, wo = wr := ⟨_, rfl⟩
    obtain ⟨hcwo, hfwo, hzwo⟩ := Ext.rules hB
    try simp only [World.size_alloc] at hzwo
    obtain ⟨hcbwo, hfbwo, hzbwo⟩ := Ext.rules (show Ext w wo from (by repeat (first | exact Ext.refl _ | (refine Ext.alloc ?_ _) | (refine Ext.trans ?_ (by assumption)))))
    clear hcwo hfwo
    by_cases hlt : k < c.nk
    · obtain ⟨b, off, rfl, hb, hc⟩ := hA (by omega)
      have hc' : ∀ j, j < c.nk → w.cell? ⟨b, off + j, none⟩ = some (.string (c.kg j)) := fun j hj => by simpa using hc j 0 _ hj rfl
      have c0 := hc' k hlt
      clear hc hA
      go_wp2
      go_loop [3, 27] (fun o i => ∃ j : Nat, j ≤ k ∧ i = .int .i64 j ∧ o = .bool (decide (1 ≤ (c.nk : Int)) && decide ((c.nk : Int) ≤ 40) && NameAll c.kg k) ∧ NotTo c.kg (c.kg k) j) (fun _ i => k - (intOf i).toNat)
      case atStart => exact ⟨0, Nat.zero_le _, rfl, rfl, fun j h => absurd h (by omega)⟩
      case round =>
        obtain ⟨j, hj, rfl, rfl, hT⟩ := hrel
        by_cases hlj : j < k
        · have c1 := hc' j (by omega)
          go_wp2
          · go_ret
            exact ⟨ret_bool (kingsOk_twin hlt hlj (same_yes ‹_›)).symm, (by repeat (first | exact Ext.refl _ | (refine Ext.alloc ?_ _) | (refine Ext.trans ?_ (by assumption))))⟩
          · have hne := same_no (a := c.kg j) (b := c.kg k) ‹_›
            exact ⟨⟨j + 1, by omega, by go_num, rfl, notTo_snoc hT hne⟩, by simp [intOf]; omega⟩
        · have hTk : NotTo c.kg (c.kg k) k := fun i hi => hT i (by omega)
          go_upto_region 11 with (fail)
          refine wp_region_xl w (by repeat (first | exact Ext.refl _ | (refine Ext.alloc ?_ _) | (refine Ext.trans ?_ (by assumption)))) ?_
          intro hne hrx hry
          try simp only []
          try simp only [List.append_eq, List.cons_append, List.nil_append]
          skip
          repeat (first
            | go_big_quiet_skip
            | ((with_reducible apply q_and)
               · exact rfl
               · exact rfl
               · exact rfl
               intro K hK
               unfold Then; go_big_quiet_op; (with_reducible refine hK _ ?_); clear hK K)
            | ((with_reducible apply q_or)
               · exact rfl
               · exact rfl
               · exact rfl
               intro K hK
               unfold Then; go_big_quiet_op; (with_reducible refine hK _ ?_); clear hK K)
            | (go_big_quiet_want; go_big_quiet_op; go_big_quiet_on)
            | (go_big_quiet_want; go_big_quiet_op; apply Exists.intro; refine ⟨fun u => ?_, ?_⟩
               · first
                   | (go_at_call 111; refine (isName_any _ _).mono ?_; rintro e w' ⟨rfl, rfl⟩; exact ⟨rfl, u, rfl⟩)
               go_big_quiet_on)
            | ((with_reducible apply q_and_g)
               · first | exact wanted_pt rfl rfl rfl | exact wanted_pf rfl rfl rfl | exact wanted_gt rfl rfl rfl | exact wanted_gf rfl rfl rfl
               · exact rfl
               · exact rfl
               · exact rfl
               intro K hK
               unfold Then; go_big_quiet_op; (with_reducible refine hK _ ?_); clear hK K)
            | ((with_reducible apply q_or_g)
               · first | exact wanted_pt rfl rfl rfl | exact wanted_pf rfl rfl rfl | exact wanted_gt rfl rfl rfl | exact wanted_gf rfl rfl rfl
               · exact rfl
               · exact rfl
               · exact rfl
               intro K hK
               unfold Then; go_big_quiet_op; (with_reducible refine hK _ ?_); clear hK K)
            | ((with_reducible apply q_sym)
               · first | exact wanted_pt rfl rfl rfl | exact wanted_pf rfl rfl rfl | exact wanted_gt rfl rfl rfl | exact wanted_gf rfl rfl rfl
               apply Exists.intro
               refine And.intro (fun hgb => ?_) ?_
               · intro u
                 try simp at hgb
                 go_simp
                 try simp only [if_pos hsl]
                 try simp only [if_pos (hin (by omega))]
                 try (simp only [hd0 (by omega)]; go_simp)
                 try (rw [hlook _ (Ext.trans (by repeat (first | exact Ext.refl _ | (refine Ext.alloc ?_ _) | (refine Ext.trans ?_ (by assumption)))) u.e) (hlk0 hgb)]; go_simp)
                 first
                   | (with_reducible exact rfl)
                   | (go_at_call 111; refine (isName_any _ _).mono ?_; rintro e w' ⟨rfl, rfl⟩; exact ⟨rfl, u, rfl⟩)
               intro K hK
               unfold Then; go_big_quiet_op; (with_reducible refine hK _ ?_); clear hK K))
          clear hne hry hrx
          refine wpQuiet_nil ?_
          intro wn hwn
          obtain ⟨hcwn, hfwn, hzwn⟩ := Ext.rules hwn
          try simp only [World.size_alloc] at hzwn
          obtain ⟨hcbwn, hfbwn, hzbwn⟩ := Ext.rules (show Ext w wn from (by repeat (first | exact Ext.refl _ | (refine Ext.alloc ?_ _) | (refine Ext.trans ?_ (by assumption)))))
          clear hcwn hfwn
          go_wp2
          exact ⟨⟨k + 1, by omega, by go_num, by simp only [nameAll_snoc, Bool.and_assoc], noTwin_snoc hN hTk, (by repeat (first | exact Ext.refl _ | (refine Ext.alloc ?_ _) | (refine Ext.trans ?_ (by assumption))))⟩, by simp [intOf]; omega⟩
    · go_wp2
      rw [Exit.noGoto_ret]
      go_ret
      exact ⟨ret_bool (by rw [kingsOk_apart (fun i j hj hi => hN i j hj (by omega)), show c.nk = k from by omega]), (by repeat (first | exact Ext.refl _ | (refine Ext.alloc ?_ _) | (refine Ext.trans ?_ (by assumption))))⟩
end Go.Proofs.YtfchchmmjabjnaaDoor

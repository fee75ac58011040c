/- The walks of part, text and Text. -/
import Derived.Test.YtfchchmmjabjnaaDoorShelf
import Derived.Test.YtfchchmmjabjnaaDoorWt
namespace Go.Proofs.YtfchchmmjabjnaaDoor
open Go Go.RowKit Go.Shelf
attribute [local go_sem] gv_yes

/-- A number in decimal; some plus signs. -/
def dg (n : Nat) : ByteArray := ⟨(Lib.decDigits n).toArray⟩
def rp (n : Nat) : ByteArray := ⟨(Lib.repeatL [43] n).toArray⟩
theorem dg_size {n : Nat} (h : n ≤ 30) : (dg n).size ≤ 2 := by
  show (Lib.decDigits n).length ≤ 2
  rw [Lib.decDigits]
  split
  · simp
  · rw [Lib.decDigits, dif_pos (by omega)]; simp
theorem rp_size (n : Nat) : (rp n).size = n := by
  show (Lib.repeatL [43] n).length = n
  rw [Lib.repeatL_length]; simp
theorem itoa_any (n : Nat) (w : World) (hn : n ≤ 30) : Calls Tryd.prog 135 #[.int .i64 n] w fun e w' => e = .returned (.string (dg n)) ∧ w = w' :=
  (Tryd.strconv_Itoa_small n (by omega) w).mono fun _ _ ⟨h1, h2⟩ => ⟨h1, h2.symm⟩
theorem rep_any (n : Nat) (w : World) (hn : n ≤ 3) : Calls Tryd.prog 120 #[.string ⟨#[43]⟩, .int .i64 n] w fun e w' => e = .returned (.string (rp n)) ∧ Ext w w' :=
  (Tryd.strings_Repeat ⟨#[43]⟩ n w (by omega) (by show 1 * n ≤ _; omega)).mono fun _ _ ⟨h1, h2⟩ => ⟨h1, h2⟩
def partS (n : Nat) (mark : ByteArray) (b : Bool) : ByteArray := if n = 0 then ⟨#[45]⟩ else dg n ++ (if b then mark else ⟨#[]⟩)
theorem partS_size {n : Nat} {mark : ByteArray} {b : Bool} (hn : n ≤ 30) (hm : mark.size ≤ 1) : (partS n mark b).size ≤ 3 := by
  have := dg_size hn
  unfold partS
  split
  · show 1 ≤ 3; omega
  · rw [ByteArray.size_append]
    have h0 : (⟨#[]⟩ : ByteArray).size = 0 := rfl
    split
    · omega
    · omega
theorem part_any (n : Nat) (mark : ByteArray) (b : Bool) (w : World) (hn : n ≤ 30) (hm : mark.size ≤ 1) :
    Calls Tryd.prog 121 #[.int .i64 n, .string mark, .bool b] w fun e w' => e = .returned (.string (partS n mark b)) ∧ w = w' := by
  by_cases h0 : n = 0
  · subst h0
    go_enter Tryd.func121, Tryd.ntmps121
    go_wp2
    go_ret
    exact ⟨rfl, rfl⟩
  · have hb : ((n : Int) == 0) = false := beq_eq_false_iff_ne.2 (by omega)
    have hd := dg_size hn
    have HP : Hid (partS n mark b = dg n ++ (if b then mark else ⟨#[]⟩)) := if_neg h0
    clear h0
    cases b
    all_goals
      go_enter Tryd.func121, Tryd.ntmps121
      go_wp2_with (go_at_call 135; refine (itoa_any n _ hn).mono ?_; rintro e w' ⟨rfl, rfl⟩)
      go_ret
      exact ⟨by rw [HP.out]; rfl, rfl⟩
def yearS (t : Tr) : ByteArray := if emptyB t.nm then ⟨#[45]⟩ else rp t.af.toNat ++ t.nm
def kingS (t : Tr) (y : ByteArray) : ByteArray := if emptyB t.kg then y else y ++ (⟨#[64]⟩ ++ t.kg)
def textS (t : Tr) : ByteArray := partS t.d.toNat ⟨#[43]⟩ t.more ++ ⟨#[47]⟩ ++ partS t.m.toNat ⟨#[98]⟩ t.s ++ ⟨#[47]⟩ ++ kingS t (yearS t)
theorem ok_name {s : ByteArray} (h : isName s = true) : s.size ≤ 16 := by
  simp only [isName, Bool.and_eq_true, decide_eq_true_eq] at h
  exact h.1.1.2
theorem empty_size {s : ByteArray} (h : emptyB s = true) : s.size = 0 := by
  simp [emptyB] at h
  show s.data.size = 0
  rw [h]; rfl
structure OkB (t : Tr) : Prop where
  d0 : 0 ≤ t.d
  d1 : t.d ≤ 30
  m0 : 0 ≤ t.m
  m1 : t.m ≤ 12
  a0 : 0 ≤ t.af
  a1 : t.af ≤ 3
  nm : t.nm.size ≤ 16
  kg : t.kg.size ≤ 16
theorem ok_bds {t : Tr} (h : t.ok = true) : OkB t := by
  simp only [Tr.ok, Bool.and_eq_true, Bool.or_eq_true, decide_eq_true_eq] at h
  obtain ⟨⟨⟨⟨⟨⟨⟨⟨⟨⟨h1, h2⟩, h3⟩, h4⟩, h5⟩, h6⟩, h7⟩, h8⟩, h9⟩, h10⟩, h11⟩ := h
  refine ⟨h1, h2, h4, h5, h8, h9, ?_, ?_⟩
  · rcases h7 with h | h
    · have := empty_size h; omega
    · exact ok_name h
  · rcases h11 with h | h
    · have := empty_size h; omega
    · exact ok_name h
set_option maxRecDepth 100000 in
set_option maxHeartbeats 1000000 in
theorem text_11 {d m af : Int} {more s : Bool} {nm kg p q r R : ByteArray} (w : World) (hnm : nm.size ≤ 16) (hkg : kg.size ≤ 16) (hp1 : p.size ≤ 3) (hp2 : q.size ≤ 3) (hrp : r.size ≤ 3)
    (cp : ∀ w, Calls Tryd.prog 121 #[.int .i64 d, .string ⟨#[43]⟩, .bool more] w fun e w' => e = .returned (.string p) ∧ w = w')
    (cq : ∀ w, Calls Tryd.prog 121 #[.int .i64 m, .string ⟨#[98]⟩, .bool s] w fun e w' => e = .returned (.string q) ∧ w = w')
    (cr : ∀ w, Calls Tryd.prog 120 #[.string ⟨#[43]⟩, .int .i64 af] w fun e w' => e = .returned (.string r) ∧ Ext w w')
    (HN : Hid (nm.toList.isEmpty = false)) (HK : Hid (kg.toList.isEmpty = false)) (HT : Hid (R = p ++ ⟨#[47]⟩ ++ q ++ ⟨#[47]⟩ ++ (r ++ nm ++ (⟨#[64]⟩ ++ kg)))) :
    Calls Tryd.prog 93 #[.agg #[.int .i64 d, .bool more, .int .i64 m, .bool s, .string nm, .int .i64 af, .string kg]] w fun e w' => e = .returned (.string R) ∧ Ext w w' := by
  have hne := HN.out
  have hke := HK.out
  go_enter Tryd.func93, Tryd.ntmps93
  go_upto_region 3 with (fail)
  refine wp_region_xw w mixed (by kernel_rfl) (by repeat (first | exact Ext.refl _ | (refine Ext.alloc ?_ _) | (refine Ext.trans ?_ (by assumption)))) ?_
  intro hne hrx hry
  try simp only []
  try simp only [List.append_eq, List.cons_append, List.nil_append]
  have hrx0 := fun u o => hrx u (w.heap.size) o (by first | omega | (simp; done) | (simp; omega))
  skip
  repeat (first
    | go_big_quiet_skip
    | (go_big_quiet_want; go_big_quiet_op; go_big_quiet_on)
    | (go_big_quiet_want; go_big_quiet_op; apply Exists.intro; refine ⟨fun u => ?_, ?_⟩
       · first
           | (go_at_call 120; (with_reducible refine Calls.mono (cr _) ?_); rintro e w' ⟨rfl, hb⟩; exact ⟨rfl, u.back hb⟩)
       go_big_quiet_on))
  clear hne hry hrx hrx0
  refine wpQuiet_nil ?_
  intro wq hq
  obtain ⟨hcwq, hfwq, hzwq⟩ := Ext.rules hq
  try simp only [World.size_alloc] at hzwq
  have hk0wq := fun o => hcwq (w.heap.size) o (by first | omega | (simp; done) | (simp; omega))
  have hj0wq := fun o => hfwq (w.heap.size) o (by first | omega | (simp; done) | (simp; omega))
  have hl0wq : w.heap.size < wq.heap.size := (by first | omega | (simp; done) | (simp; omega))
  obtain ⟨hcbwq, hfbwq, hzbwq⟩ := Ext.rules (show Ext w wq from (by repeat (first | exact Ext.refl _ | (refine Ext.alloc ?_ _) | (refine Ext.trans ?_ (by assumption)))))
  clear hcwq hfwq
  go_upto_region 6 with (fail)
  refine wp_region_xw w mixed (by kernel_rfl) (by repeat (first | exact Ext.refl _ | (refine Ext.alloc ?_ _) | (refine Ext.trans ?_ (by assumption)))) ?_
  intro hne hrx hry
  try simp only []
  try simp only [List.append_eq, List.cons_append, List.nil_append]
  have hrx0 := fun u o => hrx u (w.heap.size) o (by first | omega | (simp; done) | (simp; omega))
  skip
  repeat (first
    | go_big_quiet_skip
    | (go_big_quiet_want; go_big_quiet_op; go_big_quiet_on)
    | (go_big_quiet_want; go_big_quiet_op; apply Exists.intro; refine ⟨fun u => ?_, ?_⟩
       · first
           | (go_at_call 121; (with_reducible refine Calls.mono (cp _) ?_); rintro e w' ⟨rfl, rfl⟩; exact ⟨rfl, u, rfl⟩)
           | (go_at_call 121; (with_reducible refine Calls.mono (cq _) ?_); rintro e w' ⟨rfl, rfl⟩; exact ⟨rfl, u, rfl⟩)
       go_big_quiet_on))
  clear hne hry hrx hrx0
  refine wpQuiet_nil ?_
  intro wz hz
  obtain ⟨hcwz, hfwz, hzwz⟩ := Ext.rules hz
  try simp only [World.size_alloc] at hzwz
  have hk0wz := fun o => hcwz (w.heap.size) o (by first | omega | (simp; done) | (simp; omega))
  have hj0wz := fun o => hfwz (w.heap.size) o (by first | omega | (simp; done) | (simp; omega))
  have hl0wz : w.heap.size < wz.heap.size := (by first | omega | (simp; done) | (simp; omega))
  obtain ⟨hcbwz, hfbwz, hzbwz⟩ := Ext.rules (show Ext w wz from (by repeat (first | exact Ext.refl _ | (refine Ext.alloc ?_ _) | (refine Ext.trans ?_ (by assumption)))))
  clear hcwz hfwz
  go_wp2
  go_ret
  exact ⟨by rw [HT.out]; rfl, (by repeat (first | exact Ext.refl _ | (refine Ext.alloc ?_ _) | (refine Ext.trans ?_ (by assumption))))⟩
set_option maxRecDepth 100000 in
set_option maxHeartbeats 1000000 in
theorem text_10 {d m af : Int} {more s : Bool} {nm kg p q r R : ByteArray} (w : World) (hnm : nm.size ≤ 16) (_hkg : kg.size ≤ 16) (hp1 : p.size ≤ 3) (hp2 : q.size ≤ 3) (hrp : r.size ≤ 3)
    (cp : ∀ w, Calls Tryd.prog 121 #[.int .i64 d, .string ⟨#[43]⟩, .bool more] w fun e w' => e = .returned (.string p) ∧ w = w')
    (cq : ∀ w, Calls Tryd.prog 121 #[.int .i64 m, .string ⟨#[98]⟩, .bool s] w fun e w' => e = .returned (.string q) ∧ w = w')
    (cr : ∀ w, Calls Tryd.prog 120 #[.string ⟨#[43]⟩, .int .i64 af] w fun e w' => e = .returned (.string r) ∧ Ext w w')
    (HN : Hid (nm.toList.isEmpty = false)) (HK : Hid (kg.toList.isEmpty = true)) (HT : Hid (R = p ++ ⟨#[47]⟩ ++ q ++ ⟨#[47]⟩ ++ (r ++ nm))) :
    Calls Tryd.prog 93 #[.agg #[.int .i64 d, .bool more, .int .i64 m, .bool s, .string nm, .int .i64 af, .string kg]] w fun e w' => e = .returned (.string R) ∧ Ext w w' := by
  have hne := HN.out
  have hke := HK.out
  go_enter Tryd.func93, Tryd.ntmps93
  go_upto_region 3 with (fail)
  refine wp_region_xw w mixed (by kernel_rfl) (by repeat (first | exact Ext.refl _ | (refine Ext.alloc ?_ _) | (refine Ext.trans ?_ (by assumption)))) ?_
  intro hne hrx hry
  try simp only []
  try simp only [List.append_eq, List.cons_append, List.nil_append]
  have hrx0 := fun u o => hrx u (w.heap.size) o (by first | omega | (simp; done) | (simp; omega))
  skip
  repeat (first
    | go_big_quiet_skip
    | (go_big_quiet_want; go_big_quiet_op; go_big_quiet_on)
    | (go_big_quiet_want; go_big_quiet_op; apply Exists.intro; refine ⟨fun u => ?_, ?_⟩
       · first
           | (go_at_call 120; (with_reducible refine Calls.mono (cr _) ?_); rintro e w' ⟨rfl, hb⟩; exact ⟨rfl, u.back hb⟩)
       go_big_quiet_on))
  clear hne hry hrx hrx0
  refine wpQuiet_nil ?_
  intro wq hq
  obtain ⟨hcwq, hfwq, hzwq⟩ := Ext.rules hq
  try simp only [World.size_alloc] at hzwq
  have hk0wq := fun o => hcwq (w.heap.size) o (by first | omega | (simp; done) | (simp; omega))
  have hj0wq := fun o => hfwq (w.heap.size) o (by first | omega | (simp; done) | (simp; omega))
  have hl0wq : w.heap.size < wq.heap.size := (by first | omega | (simp; done) | (simp; omega))
  obtain ⟨hcbwq, hfbwq, hzbwq⟩ := Ext.rules (show Ext w wq from (by repeat (first | exact Ext.refl _ | (refine Ext.alloc ?_ _) | (refine Ext.trans ?_ (by assumption)))))
  clear hcwq hfwq
  go_upto_region 6 with (fail)
  refine wp_region_xw w mixed (by kernel_rfl) (by repeat (first | exact Ext.refl _ | (refine Ext.alloc ?_ _) | (refine Ext.trans ?_ (by assumption)))) ?_
  intro hne hrx hry
  try simp only []
  try simp only [List.append_eq, List.cons_append, List.nil_append]
  have hrx0 := fun u o => hrx u (w.heap.size) o (by first | omega | (simp; done) | (simp; omega))
  skip
  repeat (first
    | go_big_quiet_skip
    | (go_big_quiet_want; go_big_quiet_op; go_big_quiet_on)
    | (go_big_quiet_want; go_big_quiet_op; apply Exists.intro; refine ⟨fun u => ?_, ?_⟩
       · first
           | (go_at_call 121; (with_reducible refine Calls.mono (cp _) ?_); rintro e w' ⟨rfl, rfl⟩; exact ⟨rfl, u, rfl⟩)
           | (go_at_call 121; (with_reducible refine Calls.mono (cq _) ?_); rintro e w' ⟨rfl, rfl⟩; exact ⟨rfl, u, rfl⟩)
       go_big_quiet_on))
  clear hne hry hrx hrx0
  refine wpQuiet_nil ?_
  intro wz hz
  obtain ⟨hcwz, hfwz, hzwz⟩ := Ext.rules hz
  try simp only [World.size_alloc] at hzwz
  have hk0wz := fun o => hcwz (w.heap.size) o (by first | omega | (simp; done) | (simp; omega))
  have hj0wz := fun o => hfwz (w.heap.size) o (by first | omega | (simp; done) | (simp; omega))
  have hl0wz : w.heap.size < wz.heap.size := (by first | omega | (simp; done) | (simp; omega))
  obtain ⟨hcbwz, hfbwz, hzbwz⟩ := Ext.rules (show Ext w wz from (by repeat (first | exact Ext.refl _ | (refine Ext.alloc ?_ _) | (refine Ext.trans ?_ (by assumption)))))
  clear hcwz hfwz
  go_wp2
  go_ret
  exact ⟨by rw [HT.out]; rfl, (by repeat (first | exact Ext.refl _ | (refine Ext.alloc ?_ _) | (refine Ext.trans ?_ (by assumption))))⟩
set_option maxRecDepth 100000 in
set_option maxHeartbeats 1000000 in
theorem text_01 {d m af : Int} {more s : Bool} {nm kg p q r R : ByteArray} (w : World) (_hnm : nm.size ≤ 16) (hkg : kg.size ≤ 16) (hp1 : p.size ≤ 3) (hp2 : q.size ≤ 3) (_hrp : r.size ≤ 3)
    (cp : ∀ w, Calls Tryd.prog 121 #[.int .i64 d, .string ⟨#[43]⟩, .bool more] w fun e w' => e = .returned (.string p) ∧ w = w')
    (cq : ∀ w, Calls Tryd.prog 121 #[.int .i64 m, .string ⟨#[98]⟩, .bool s] w fun e w' => e = .returned (.string q) ∧ w = w')
    (HN : Hid (nm.toList.isEmpty = true)) (HK : Hid (kg.toList.isEmpty = false)) (HT : Hid (R = p ++ ⟨#[47]⟩ ++ q ++ ⟨#[47]⟩ ++ (⟨#[45]⟩ ++ (⟨#[64]⟩ ++ kg)))) :
    Calls Tryd.prog 93 #[.agg #[.int .i64 d, .bool more, .int .i64 m, .bool s, .string nm, .int .i64 af, .string kg]] w fun e w' => e = .returned (.string R) ∧ Ext w w' := by
  have hne := HN.out
  have hke := HK.out
  go_enter Tryd.func93, Tryd.ntmps93
  go_upto_region 6 with (fail)
  refine wp_region_xw w mixed (by kernel_rfl) (by repeat (first | exact Ext.refl _ | (refine Ext.alloc ?_ _) | (refine Ext.trans ?_ (by assumption)))) ?_
  intro hne hrx hry
  try simp only []
  try simp only [List.append_eq, List.cons_append, List.nil_append]
  have hrx0 := fun u o => hrx u (w.heap.size) o (by first | omega | (simp; done) | (simp; omega))
  skip
  repeat (first
    | go_big_quiet_skip
    | (go_big_quiet_want; go_big_quiet_op; go_big_quiet_on)
    | (go_big_quiet_want; go_big_quiet_op; apply Exists.intro; refine ⟨fun u => ?_, ?_⟩
       · first
           | (go_at_call 121; (with_reducible refine Calls.mono (cp _) ?_); rintro e w' ⟨rfl, rfl⟩; exact ⟨rfl, u, rfl⟩)
           | (go_at_call 121; (with_reducible refine Calls.mono (cq _) ?_); rintro e w' ⟨rfl, rfl⟩; exact ⟨rfl, u, rfl⟩)
       go_big_quiet_on))
  clear hne hry hrx hrx0
  refine wpQuiet_nil ?_
  intro wz hz
  obtain ⟨hcwz, hfwz, hzwz⟩ := Ext.rules hz
  try simp only [World.size_alloc] at hzwz
  have hk0wz := fun o => hcwz (w.heap.size) o (by first | omega | (simp; done) | (simp; omega))
  have hj0wz := fun o => hfwz (w.heap.size) o (by first | omega | (simp; done) | (simp; omega))
  have hl0wz : w.heap.size < wz.heap.size := (by first | omega | (simp; done) | (simp; omega))
  obtain ⟨hcbwz, hfbwz, hzbwz⟩ := Ext.rules (show Ext w wz from (by repeat (first | exact Ext.refl _ | (refine Ext.alloc ?_ _) | (refine Ext.trans ?_ (by assumption)))))
  clear hcwz hfwz
  go_wp2
  go_ret
  exact ⟨by rw [HT.out]; rfl, (by repeat (first | exact Ext.refl _ | (refine Ext.alloc ?_ _) | (refine Ext.trans ?_ (by assumption))))⟩
set_option maxRecDepth 100000 in
set_option maxHeartbeats 1000000 in
theorem text_00 {d m af : Int} {more s : Bool} {nm kg p q r R : ByteArray} (w : World) (_hnm : nm.size ≤ 16) (_hkg : kg.size ≤ 16) (hp1 : p.size ≤ 3) (hp2 : q.size ≤ 3) (_hrp : r.size ≤ 3)
    (cp : ∀ w, Calls Tryd.prog 121 #[.int .i64 d, .string ⟨#[43]⟩, .bool more] w fun e w' => e = .returned (.string p) ∧ w = w')
    (cq : ∀ w, Calls Tryd.prog 121 #[.int .i64 m, .string ⟨#[98]⟩, .bool s] w fun e w' => e = .returned (.string q) ∧ w = w')
    (HN : Hid (nm.toList.isEmpty = true)) (HK : Hid (kg.toList.isEmpty = true)) (HT : Hid (R = p ++ ⟨#[47]⟩ ++ q ++ ⟨#[47]⟩ ++ (⟨#[45]⟩))) :
    Calls Tryd.prog 93 #[.agg #[.int .i64 d, .bool more, .int .i64 m, .bool s, .string nm, .int .i64 af, .string kg]] w fun e w' => e = .returned (.string R) ∧ Ext w w' := by
  have hne := HN.out
  have hke := HK.out
  go_enter Tryd.func93, Tryd.ntmps93
  go_upto_region 6 with (fail)
  refine wp_region_xw w mixed (by kernel_rfl) (by repeat (first | exact Ext.refl _ | (refine Ext.alloc ?_ _) | (refine Ext.trans ?_ (by assumption)))) ?_
  intro hne hrx hry
  try simp only []
  try simp only [List.append_eq, List.cons_append, List.nil_append]
  have hrx0 := fun u o => hrx u (w.heap.size) o (by first | omega | (simp; done) | (simp; omega))
  skip
  repeat (first
    | go_big_quiet_skip
    | (go_big_quiet_want; go_big_quiet_op; go_big_quiet_on)
    | (go_big_quiet_want; go_big_quiet_op; apply Exists.intro; refine ⟨fun u => ?_, ?_⟩
       · first
           | (go_at_call 121; (with_reducible refine Calls.mono (cp _) ?_); rintro e w' ⟨rfl, rfl⟩; exact ⟨rfl, u, rfl⟩)
           | (go_at_call 121; (with_reducible refine Calls.mono (cq _) ?_); rintro e w' ⟨rfl, rfl⟩; exact ⟨rfl, u, rfl⟩)
       go_big_quiet_on))
  clear hne hry hrx hrx0
  refine wpQuiet_nil ?_
  intro wz hz
  obtain ⟨hcwz, hfwz, hzwz⟩ := Ext.rules hz
  try simp only [World.size_alloc] at hzwz
  have hk0wz := fun o => hcwz (w.heap.size) o (by first | omega | (simp; done) | (simp; omega))
  have hj0wz := fun o => hfwz (w.heap.size) o (by first | omega | (simp; done) | (simp; omega))
  have hl0wz : w.heap.size < wz.heap.size := (by first | omega | (simp; done) | (simp; omega))
  obtain ⟨hcbwz, hfbwz, hzbwz⟩ := Ext.rules (show Ext w wz from (by repeat (first | exact Ext.refl _ | (refine Ext.alloc ?_ _) | (refine Ext.trans ?_ (by assumption)))))
  clear hcwz hfwz
  go_wp2
  go_ret
  exact ⟨by rw [HT.out]; rfl, (by repeat (first | exact Ext.refl _ | (refine Ext.alloc ?_ _) | (refine Ext.trans ?_ (by assumption))))⟩
theorem text_any (t : Tr) (w : World) (hk : OkB t) :
    Calls Tryd.prog 93 #[.agg #[.int .i64 t.d, .bool t.more, .int .i64 t.m, .bool t.s, .string t.nm, .int .i64 t.af, .string t.kg]] w fun e w' => e = .returned (.string (textS t)) ∧ Ext w w' := by
  obtain ⟨d0, d1, m0, m1, a0, a1, hnm, hkg⟩ := hk
  obtain ⟨d, more, m, s, nm, af, kg⟩ := t
  simp only at d0 d1 m0 m1 a0 a1 hnm hkg ⊢
  obtain ⟨d, rfl⟩ := Int.eq_ofNat_of_zero_le d0
  obtain ⟨m, rfl⟩ := Int.eq_ofNat_of_zero_le m0
  obtain ⟨af, rfl⟩ := Int.eq_ofNat_of_zero_le a0
  have d1' : d ≤ 30 := by omega
  have m1' : m ≤ 30 := by omega
  have a1' : af ≤ 3 := by omega
  have hp1 := partS_size (mark := ⟨#[43]⟩) (b := more) d1' (Nat.le_refl _)
  have hp2 := partS_size (mark := ⟨#[98]⟩) (b := s) m1' (Nat.le_refl _)
  have hrp := Nat.le_trans (Nat.le_of_eq (rp_size af)) a1'
  have cp := fun w => part_any d ⟨#[43]⟩ more w d1' (Nat.le_refl _)
  have cq := fun w => part_any m ⟨#[98]⟩ s w m1' (Nat.le_refl _)
  have cr := fun w => rep_any af w a1'
  cases hne : nm.toList.isEmpty <;> cases hke : kg.toList.isEmpty
  · exact text_11 w hnm hkg hp1 hp2 hrp cp cq cr hne hke (by unfold Hid textS kingS yearS; simp only [emptyB_eq, Int.toNat_natCast, hne, hke]; rfl)
  · exact text_10 w hnm hkg hp1 hp2 hrp cp cq cr hne hke (by unfold Hid textS kingS yearS; simp only [emptyB_eq, Int.toNat_natCast, hne, hke]; rfl)
  · exact text_01 w hnm hkg hp1 hp2 hrp cp cq hne hke (by unfold Hid textS kingS yearS; simp only [emptyB_eq, Int.toNat_natCast, hne, hke]; rfl)
  · exact text_00 w hnm hkg hp1 hp2 hrp cp cq hne hke (by unfold Hid textS kingS yearS; simp only [emptyB_eq, Int.toNat_natCast, hne, hke]; rfl)

theorem textX_any (t : Tr) (w : World) :
    Calls Tryd.prog 46 #[.agg #[.int .i64 t.d, .bool t.more, .int .i64 t.m, .bool t.s, .string t.nm, .int .i64 t.af, .string t.kg]] w fun e w' => e = .returned (.tuple #[.string (if t.ok then textS t else ⟨#[]⟩), .int .i64 (if t.ok then 0 else 72)]) ∧ Ext w w' := by
  cases hv : t.ok
  · have HV := Lib.hid hv
    have hc := fun w => (validTrace_any t w)
    rw [hv] at hc
    go_enter Tryd.func46, Tryd.ntmps46
    go_wp2_with (go_at_call 76; (with_reducible refine Calls.mono (hc _) ?_); rintro e wq ⟨rfl, hq⟩)
    go_ret2
    exact ⟨rfl, (by repeat (first | exact Ext.refl _ | (refine Ext.alloc ?_ _) | (refine Ext.trans ?_ (by assumption))))⟩
  · have HV := Lib.hid hv
    have hc := fun w => (validTrace_any t w)
    rw [hv] at hc
    have ht := fun w => (text_any t w (ok_bds hv))
    go_enter Tryd.func46, Tryd.ntmps46
    go_upto_region 3 with (go_at_call 76; (with_reducible refine Calls.mono (hc _) ?_); rintro e wq ⟨rfl, hq⟩)
    obtain ⟨hcwq, hfwq, hzwq⟩ := Ext.rules hq
    try simp only [World.size_alloc] at hzwq
    have hk0wq := fun o => hcwq (w.heap.size) o (by first | omega | (simp; done) | (simp; omega))
    have hj0wq := fun o => hfwq (w.heap.size) o (by first | omega | (simp; done) | (simp; omega))
    have hl0wq : w.heap.size < wq.heap.size := (by first | omega | (simp; done) | (simp; omega))
    obtain ⟨hcbwq, hfbwq, hzbwq⟩ := Ext.rules (show Ext w wq from (by repeat (first | exact Ext.refl _ | (refine Ext.alloc ?_ _) | (refine Ext.trans ?_ (by assumption)))))
    clear hcwq hfwq
    go_wp2_with ((go_at_call 93; (with_reducible refine Calls.mono (ht _) ?_); rintro e wz ⟨rfl, hz⟩))
    go_ret2
    exact ⟨rfl, (by repeat (first | exact Ext.refl _ | (refine Ext.alloc ?_ _) | (refine Ext.trans ?_ (by assumption))))⟩
end Go.Proofs.YtfchchmmjabjnaaDoor

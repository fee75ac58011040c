/- Walks of the program's functions and plain facts, packed; proved: the lemmas below; no conditions but those that each states. -/
import Derived.Test.YthmjpbafbohelaaDoorShelf
import Derived.Test.YthmjpbafbohelaaDoorK3
import Derived.Lib.ConvBytes
import Derived.Laws.BytesArg
import Derived.Laws.AppendOwn
import Derived.Test.YthmjpbafbohelaaDoorK1
namespace Go.Proofs.YthmjpbafbohelaaDoor
open Go Go.RowKit Go.Shelf
attribute [local go_sem] gv_yes

/-- A number in decimal; some plus signs. -/
def dg (n : Nat) : ByteArray := ⟨(Lib.decDigits n).toArray⟩
def rp (n : Nat) : ByteArray := ⟨(Lib.repeatL [43] n).toArray⟩
theorem dg_size {n : Nat} (h : n ≤ 30) : (dg n).size ≤ 2 := by
  show (Lib.decDigits n).length ≤ 2
  rw [Lib.decDigits]
  split
  · simp
  · rw [Lib.decDigits, dif_pos (by omega)]; simp
theorem rp_size (n : Nat) : (rp n).size = n := by
  show (Lib.repeatL [43] n).length = n
  rw [Lib.repeatL_length]; simp
theorem itoa_any (n : Nat) (w : World) (hn : n ≤ 30) : Calls Tryd.prog 126 #[.int .i64 n] w fun e w' => e = .returned (.string (dg n)) ∧ w = w' :=
  (Tryd.strconv_Itoa_small n (by omega) w).mono fun _ _ ⟨h1, h2⟩ => ⟨h1, h2.symm⟩
theorem rep_any (n : Nat) (w : World) (hn : n ≤ 3) : Calls Tryd.prog 99 #[.string ⟨#[43]⟩, .int .i64 n] w fun e w' => e = .returned (.string (rp n)) ∧ Ext w w' :=
  (Tryd.strings_Repeat ⟨#[43]⟩ n w (by omega) (by show 1 * n ≤ _; omega)).mono fun _ _ ⟨h1, h2⟩ => ⟨h1, h2⟩
def partS (n : Nat) (mark : ByteArray) (b : Bool) : ByteArray := if n = 0 then ⟨#[45]⟩ else dg n ++ (if b then mark else ⟨#[]⟩)
theorem partS_size {n : Nat} {mark : ByteArray} {b : Bool} (hn : n ≤ 30) (hm : mark.size ≤ 1) : (partS n mark b).size ≤ 3 := by
  have := dg_size hn
  unfold partS
  split
  · show 1 ≤ 3; omega
  · rw [ByteArray.size_append]
    have h0 : (⟨#[]⟩ : ByteArray).size = 0 := rfl
    split
    · omega
    · omega
theorem part_any (n : Nat) (mark : ByteArray) (b : Bool) (w : World) (hn : n ≤ 30) (hm : mark.size ≤ 1) :
    Calls Tryd.prog 100 #[.int .i64 n, .string mark, .bool b] w fun e w' => e = .returned (.string (partS n mark b)) ∧ w = w' := by
  by_cases h0 : n = 0
  · subst h0
    go_enter Tryd.func100, Tryd.ntmps100
    go_wp2
    go_ret
    exact ⟨rfl, rfl⟩
  · have hb : ((n : Int) == 0) = false := beq_eq_false_iff_ne.2 (by omega)
    have hd := dg_size hn
    have HP : Hid (partS n mark b = dg n ++ (if b then mark else ⟨#[]⟩)) := if_neg h0
    clear h0
    cases b
    all_goals
      go_enter Tryd.func100, Tryd.ntmps100
      go_wp2_with (go_at_call 126; refine (itoa_any n _ hn).mono ?_; rintro e w' ⟨rfl, rfl⟩)
      go_ret
      exact ⟨by rw [HP.out]; rfl, rfl⟩
def yearS (t : Tr) : ByteArray := if emptyB t.nm then ⟨#[45]⟩ else rp t.af.toNat ++ t.nm
def kingS (t : Tr) (y : ByteArray) : ByteArray := if emptyB t.kg then y else y ++ (⟨#[64]⟩ ++ t.kg)
def textS (t : Tr) : ByteArray := partS t.d.toNat ⟨#[43]⟩ t.more ++ ⟨#[47]⟩ ++ partS t.m.toNat ⟨#[98]⟩ t.s ++ ⟨#[47]⟩ ++ kingS t (yearS t)
theorem ok_name {s : ByteArray} (h : isName s = true) : s.size ≤ 16 := by
  simp only [isName, Bool.and_eq_true, decide_eq_true_eq] at h
  exact h.1.1.2
theorem empty_size {s : ByteArray} (h : emptyB s = true) : s.size = 0 := by
  simp [emptyB] at h
  show s.data.size = 0
  rw [h]; rfl
structure OkB (t : Tr) : Prop where
  d0 : 0 ≤ t.d
  d1 : t.d ≤ 30
  m0 : 0 ≤ t.m
  m1 : t.m ≤ 12
  a0 : 0 ≤ t.af
  a1 : t.af ≤ 3
  nm : t.nm.size ≤ 16
  kg : t.kg.size ≤ 16
theorem ok_bds {t : Tr} (h : t.ok = true) : OkB t := by
  simp only [Tr.ok, Bool.and_eq_true, Bool.or_eq_true, decide_eq_true_eq] at h
  obtain ⟨⟨⟨⟨⟨⟨⟨⟨⟨⟨h1, h2⟩, h3⟩, h4⟩, h5⟩, h6⟩, h7⟩, h8⟩, h9⟩, h10⟩, h11⟩ := h
  refine ⟨h1, h2, h4, h5, h8, h9, ?_, ?_⟩
  · rcases h7 with h | h
    · have := empty_size h; omega
    · exact ok_name h
  · rcases h11 with h | h
    · have := empty_size h; omega
    · exact ok_name h
set_option maxRecDepth 100000 in
set_option maxHeartbeats 1000000 in
theorem text_11 {d m af : Int} {more s : Bool} {nm kg p q r R : ByteArray} (w : World) (hnm : nm.size ≤ 16) (hkg : kg.size ≤ 16) (hp1 : p.size ≤ 3) (hp2 : q.size ≤ 3) (hrp : r.size ≤ 3)
    (cp : ∀ w, Calls Tryd.prog 100 #[.int .i64 d, .string ⟨#[43]⟩, .bool more] w fun e w' => e = .returned (.string p) ∧ w = w')
    (cq : ∀ w, Calls Tryd.prog 100 #[.int .i64 m, .string ⟨#[98]⟩, .bool s] w fun e w' => e = .returned (.string q) ∧ w = w')
    (cr : ∀ w, Calls Tryd.prog 99 #[.string ⟨#[43]⟩, .int .i64 af] w fun e w' => e = .returned (.string r) ∧ Ext w w')
    (HN : Hid (nm.toList.isEmpty = false)) (HK : Hid (kg.toList.isEmpty = false)) (HT : Hid (R = p ++ ⟨#[47]⟩ ++ q ++ ⟨#[47]⟩ ++ (r ++ nm ++ (⟨#[64]⟩ ++ kg)))) :
    Calls Tryd.prog 51 #[.agg #[.int .i64 d, .bool more, .int .i64 m, .bool s, .string nm, .int .i64 af, .string kg]] w fun e w' => e = .returned (.string R) ∧ Ext w w' := by
  have hne := HN.out
  have hke := HK.out
  go_enter Tryd.func51, Tryd.ntmps51
  go_upto_region 3 with (fail)
  refine wp_region_xw w mixed (by kernel_rfl) (by repeat (first | exact Ext.refl _ | (refine Ext.alloc ?_ _) | (refine Ext.trans ?_ (by assumption)))) ?_
  intro hne hrx hry
  try simp only []
  try simp only [List.append_eq, List.cons_append, List.nil_append]
  have hrx0 := fun u o => hrx u (w.heap.size) o (by first | omega | (simp; done) | (simp; omega))
  skip
  repeat (first
    | go_big_quiet_skip
    | (go_big_quiet_want; go_big_quiet_op; go_big_quiet_on)
    | (go_big_quiet_want; go_big_quiet_op; apply Exists.intro; refine ⟨fun u => ?_, ?_⟩
       · first
           | (go_at_call 99; (with_reducible refine Calls.mono (cr _) ?_); rintro e w' ⟨rfl, hb⟩; exact ⟨rfl, u.back hb⟩)
       go_big_quiet_on))
  clear hne hry hrx hrx0
  refine wpQuiet_nil ?_
  intro wq hq
  obtain ⟨hcwq, hfwq, hzwq⟩ := Ext.rules hq
  try simp only [World.size_alloc] at hzwq
  have hk0wq := fun o => hcwq (w.heap.size) o (by first | omega | (simp; done) | (simp; omega))
  have hj0wq := fun o => hfwq (w.heap.size) o (by first | omega | (simp; done) | (simp; omega))
  have hl0wq : w.heap.size < wq.heap.size := (by first | omega | (simp; done) | (simp; omega))
  obtain ⟨hcbwq, hfbwq, hzbwq⟩ := Ext.rules (show Ext w wq from (by repeat (first | exact Ext.refl _ | (refine Ext.alloc ?_ _) | (refine Ext.trans ?_ (by assumption)))))
  clear hcwq hfwq
  go_upto_region 6 with (fail)
  refine wp_region_xw w mixed (by kernel_rfl) (by repeat (first | exact Ext.refl _ | (refine Ext.alloc ?_ _) | (refine Ext.trans ?_ (by assumption)))) ?_
  intro hne hrx hry
  try simp only []
  try simp only [List.append_eq, List.cons_append, List.nil_append]
  have hrx0 := fun u o => hrx u (w.heap.size) o (by first | omega | (simp; done) | (simp; omega))
  skip
  repeat (first
    | go_big_quiet_skip
    | (go_big_quiet_want; go_big_quiet_op; go_big_quiet_on)
    | (go_big_quiet_want; go_big_quiet_op; apply Exists.intro; refine ⟨fun u => ?_, ?_⟩
       · first
           | (go_at_call 100; (with_reducible refine Calls.mono (cp _) ?_); rintro e w' ⟨rfl, rfl⟩; exact ⟨rfl, u, rfl⟩)
           | (go_at_call 100; (with_reducible refine Calls.mono (cq _) ?_); rintro e w' ⟨rfl, rfl⟩; exact ⟨rfl, u, rfl⟩)
       go_big_quiet_on))
  clear hne hry hrx hrx0
  refine wpQuiet_nil ?_
  intro wz hz
  obtain ⟨hcwz, hfwz, hzwz⟩ := Ext.rules hz
  try simp only [World.size_alloc] at hzwz
  have hk0wz := fun o => hcwz (w.heap.size) o (by first | omega | (simp; done) | (simp; omega))
  have hj0wz := fun o => hfwz (w.heap.size) o (by first | omega | (simp; done) | (simp; omega))
  have hl0wz : w.heap.size < wz.heap.size := (by first | omega | (simp; done) | (simp; omega))
  obtain ⟨hcbwz, hfbwz, hzbwz⟩ := Ext.rules (show Ext w wz from (by repeat (first | exact Ext.refl _ | (refine Ext.alloc ?_ _) | (refine Ext.trans ?_ (by assumption)))))
  clear hcwz hfwz
  go_wp2
  go_ret
  exact ⟨by rw [HT.out]; rfl, (by repeat (first | exact Ext.refl _ | (refine Ext.alloc ?_ _) | (refine Ext.trans ?_ (by assumption))))⟩
set_option maxRecDepth 100000 in
set_option maxHeartbeats 1000000 in
theorem text_10 {d m af : Int} {more s : Bool} {nm kg p q r R : ByteArray} (w : World) (hnm : nm.size ≤ 16) (_hkg : kg.size ≤ 16) (hp1 : p.size ≤ 3) (hp2 : q.size ≤ 3) (hrp : r.size ≤ 3)
    (cp : ∀ w, Calls Tryd.prog 100 #[.int .i64 d, .string ⟨#[43]⟩, .bool more] w fun e w' => e = .returned (.string p) ∧ w = w')
    (cq : ∀ w, Calls Tryd.prog 100 #[.int .i64 m, .string ⟨#[98]⟩, .bool s] w fun e w' => e = .returned (.string q) ∧ w = w')
    (cr : ∀ w, Calls Tryd.prog 99 #[.string ⟨#[43]⟩, .int .i64 af] w fun e w' => e = .returned (.string r) ∧ Ext w w')
    (HN : Hid (nm.toList.isEmpty = false)) (HK : Hid (kg.toList.isEmpty = true)) (HT : Hid (R = p ++ ⟨#[47]⟩ ++ q ++ ⟨#[47]⟩ ++ (r ++ nm))) :
    Calls Tryd.prog 51 #[.agg #[.int .i64 d, .bool more, .int .i64 m, .bool s, .string nm, .int .i64 af, .string kg]] w fun e w' => e = .returned (.string R) ∧ Ext w w' := by
  have hne := HN.out
  have hke := HK.out
  go_enter Tryd.func51, Tryd.ntmps51
  go_upto_region 3 with (fail)
  refine wp_region_xw w mixed (by kernel_rfl) (by repeat (first | exact Ext.refl _ | (refine Ext.alloc ?_ _) | (refine Ext.trans ?_ (by assumption)))) ?_
  intro hne hrx hry
  try simp only []
  try simp only [List.append_eq, List.cons_append, List.nil_append]
  have hrx0 := fun u o => hrx u (w.heap.size) o (by first | omega | (simp; done) | (simp; omega))
  skip
  repeat (first
    | go_big_quiet_skip
    | (go_big_quiet_want; go_big_quiet_op; go_big_quiet_on)
    | (go_big_quiet_want; go_big_quiet_op; apply Exists.intro; refine ⟨fun u => ?_, ?_⟩
       · first
           | (go_at_call 99; (with_reducible refine Calls.mono (cr _) ?_); rintro e w' ⟨rfl, hb⟩; exact ⟨rfl, u.back hb⟩)
       go_big_quiet_on))
  clear hne hry hrx hrx0
  refine wpQuiet_nil ?_
  intro wq hq
  obtain ⟨hcwq, hfwq, hzwq⟩ := Ext.rules hq
  try simp only [World.size_alloc] at hzwq
  have hk0wq := fun o => hcwq (w.heap.size) o (by first | omega | (simp; done) | (simp; omega))
  have hj0wq := fun o => hfwq (w.heap.size) o (by first | omega | (simp; done) | (simp; omega))
  have hl0wq : w.heap.size < wq.heap.size := (by first | omega | (simp; done) | (simp; omega))
  obtain ⟨hcbwq, hfbwq, hzbwq⟩ := Ext.rules (show Ext w wq from (by repeat (first | exact Ext.refl _ | (refine Ext.alloc ?_ _) | (refine Ext.trans ?_ (by assumption)))))
  clear hcwq hfwq
  go_upto_region 6 with (fail)
  refine wp_region_xw w mixed (by kernel_rfl) (by repeat (first | exact Ext.refl _ | (refine Ext.alloc ?_ _) | (refine Ext.trans ?_ (by assumption)))) ?_
  intro hne hrx hry
  try simp only []
  try simp only [List.append_eq, List.cons_append, List.nil_append]
  have hrx0 := fun u o => hrx u (w.heap.size) o (by first | omega | (simp; done) | (simp; omega))
  skip
  repeat (first
    | go_big_quiet_skip
    | (go_big_quiet_want; go_big_quiet_op; go_big_quiet_on)
    | (go_big_quiet_want; go_big_quiet_op; apply Exists.intro; refine ⟨fun u => ?_, ?_⟩
       · first
           | (go_at_call 100; (with_reducible refine Calls.mono (cp _) ?_); rintro e w' ⟨rfl, rfl⟩; exact ⟨rfl, u, rfl⟩)
           | (go_at_call 100; (with_reducible refine Calls.mono (cq _) ?_); rintro e w' ⟨rfl, rfl⟩; exact ⟨rfl, u, rfl⟩)
       go_big_quiet_on))
  clear hne hry hrx hrx0
  refine wpQuiet_nil ?_
  intro wz hz
  obtain ⟨hcwz, hfwz, hzwz⟩ := Ext.rules hz
  try simp only [World.size_alloc] at hzwz
  have hk0wz := fun o => hcwz (w.heap.size) o (by first | omega | (simp; done) | (simp; omega))
  have hj0wz := fun o => hfwz (w.heap.size) o (by first | omega | (simp; done) | (simp; omega))
  have hl0wz : w.heap.size < wz.heap.size := (by first | omega | (simp; done) | (simp; omega))
  obtain ⟨hcbwz, hfbwz, hzbwz⟩ := Ext.rules (show Ext w wz from (by repeat (first | exact Ext.refl _ | (refine Ext.alloc ?_ _) | (refine Ext.trans ?_ (by assumption)))))
  clear hcwz hfwz
  go_wp2
  go_ret
  exact ⟨by rw [HT.out]; rfl, (by repeat (first | exact Ext.refl _ | (refine Ext.alloc ?_ _) | (refine Ext.trans ?_ (by assumption))))⟩
set_option maxRecDepth 100000 in
set_option maxHeartbeats 1000000 in
theorem text_01 {d m af : Int} {more s : Bool} {nm kg p q r R : ByteArray} (w : World) (_hnm : nm.size ≤ 16) (hkg : kg.size ≤ 16) (hp1 : p.size ≤ 3) (hp2 : q.size ≤ 3) (_hrp : r.size ≤ 3)
    (cp : ∀ w, Calls Tryd.prog 100 #[.int .i64 d, .string ⟨#[43]⟩, .bool more] w fun e w' => e = .returned (.string p) ∧ w = w')
    (cq : ∀ w, Calls Tryd.prog 100 #[.int .i64 m, .string ⟨#[98]⟩, .bool s] w fun e w' => e = .returned (.string q) ∧ w = w')
    (HN : Hid (nm.toList.isEmpty = true)) (HK : Hid (kg.toList.isEmpty = false)) (HT : Hid (R = p ++ ⟨#[47]⟩ ++ q ++ ⟨#[47]⟩ ++ (⟨#[45]⟩ ++ (⟨#[64]⟩ ++ kg)))) :
    Calls Tryd.prog 51 #[.agg #[.int .i64 d, .bool more, .int .i64 m, .bool s, .string nm, .int .i64 af, .string kg]] w fun e w' => e = .returned (.string R) ∧ Ext w w' := by
  have hne := HN.out
  have hke := HK.out
  go_enter Tryd.func51, Tryd.ntmps51
  go_upto_region 6 with (fail)
  refine wp_region_xw w mixed (by kernel_rfl) (by repeat (first | exact Ext.refl _ | (refine Ext.alloc ?_ _) | (refine Ext.trans ?_ (by assumption)))) ?_
  intro hne hrx hry
  try simp only []
  try simp only [List.append_eq, List.cons_append, List.nil_append]
  have hrx0 := fun u o => hrx u (w.heap.size) o (by first | omega | (simp; done) | (simp; omega))
  skip
  repeat (first
    | go_big_quiet_skip
    | (go_big_quiet_want; go_big_quiet_op; go_big_quiet_on)
    | (go_big_quiet_want; go_big_quiet_op; apply Exists.intro; refine ⟨fun u => ?_, ?_⟩
       · first
           | (go_at_call 100; (with_reducible refine Calls.mono (cp _) ?_); rintro e w' ⟨rfl, rfl⟩; exact ⟨rfl, u, rfl⟩)
           | (go_at_call 100; (with_reducible refine Calls.mono (cq _) ?_); rintro e w' ⟨rfl, rfl⟩; exact ⟨rfl, u, rfl⟩)
       go_big_quiet_on))
  clear hne hry hrx hrx0
  refine wpQuiet_nil ?_
  intro wz hz
  obtain ⟨hcwz, hfwz, hzwz⟩ := Ext.rules hz
  try simp only [World.size_alloc] at hzwz
  have hk0wz := fun o => hcwz (w.heap.size) o (by first | omega | (simp; done) | (simp; omega))
  have hj0wz := fun o => hfwz (w.heap.size) o (by first | omega | (simp; done) | (simp; omega))
  have hl0wz : w.heap.size < wz.heap.size := (by first | omega | (simp; done) | (simp; omega))
  obtain ⟨hcbwz, hfbwz, hzbwz⟩ := Ext.rules (show Ext w wz from (by repeat (first | exact Ext.refl _ | (refine Ext.alloc ?_ _) | (refine Ext.trans ?_ (by assumption)))))
  clear hcwz hfwz
  go_wp2
  go_ret
  exact ⟨by rw [HT.out]; rfl, (by repeat (first | exact Ext.refl _ | (refine Ext.alloc ?_ _) | (refine Ext.trans ?_ (by assumption))))⟩
set_option maxRecDepth 100000 in
set_option maxHeartbeats 1000000 in
theorem text_00 {d m af : Int} {more s : Bool} {nm kg p q r R : ByteArray} (w : World) (_hnm : nm.size ≤ 16) (_hkg : kg.size ≤ 16) (hp1 : p.size ≤ 3) (hp2 : q.size ≤ 3) (_hrp : r.size ≤ 3)
    (cp : ∀ w, Calls Tryd.prog 100 #[.int .i64 d, .string ⟨#[43]⟩, .bool more] w fun e w' => e = .returned (.string p) ∧ w = w')
    (cq : ∀ w, Calls Tryd.prog 100 #[.int .i64 m, .string ⟨#[98]⟩, .bool s] w fun e w' => e = .returned (.string q) ∧ w = w')
    (HN : Hid (nm.toList.isEmpty = true)) (HK : Hid (kg.toList.isEmpty = true)) (HT : Hid (R = p ++ ⟨#[47]⟩ ++ q ++ ⟨#[47]⟩ ++ (⟨#[45]⟩))) :
    Calls Tryd.prog 51 #[.agg #[.int .i64 d, .bool more, .int .i64 m, .bool s, .string nm, .int .i64 af, .string kg]] w fun e w' => e = .returned (.string R) ∧ Ext w w' := by
  have hne := HN.out
  have hke := HK.out
  go_enter Tryd.func51, Tryd.ntmps51
  go_upto_region 6 with (fail)
  refine wp_region_xw w mixed (by kernel_rfl) (by repeat (first | exact Ext.refl _ | (refine Ext.alloc ?_ _) | (refine Ext.trans ?_ (by assumption)))) ?_
  intro hne hrx hry
  try simp only []
  try simp only [List.append_eq, List.cons_append, List.nil_append]
  have hrx0 := fun u o => hrx u (w.heap.size) o (by first | omega | (simp; done) | (simp; omega))
  skip
  repeat (first
    | go_big_quiet_skip
    | (go_big_quiet_want; go_big_quiet_op; go_big_quiet_on)
    | (go_big_quiet_want; go_big_quiet_op; apply Exists.intro; refine ⟨fun u => ?_, ?_⟩
       · first
           | (go_at_call 100; (with_reducible refine Calls.mono (cp _) ?_); rintro e w' ⟨rfl, rfl⟩; exact ⟨rfl, u, rfl⟩)
           | (go_at_call 100; (with_reducible refine Calls.mono (cq _) ?_); rintro e w' ⟨rfl, rfl⟩; exact ⟨rfl, u, rfl⟩)
       go_big_quiet_on))
  clear hne hry hrx hrx0
  refine wpQuiet_nil ?_
  intro wz hz
  obtain ⟨hcwz, hfwz, hzwz⟩ := Ext.rules hz
  try simp only [World.size_alloc] at hzwz
  have hk0wz := fun o => hcwz (w.heap.size) o (by first | omega | (simp; done) | (simp; omega))
  have hj0wz := fun o => hfwz (w.heap.size) o (by first | omega | (simp; done) | (simp; omega))
  have hl0wz : w.heap.size < wz.heap.size := (by first | omega | (simp; done) | (simp; omega))
  obtain ⟨hcbwz, hfbwz, hzbwz⟩ := Ext.rules (show Ext w wz from (by repeat (first | exact Ext.refl _ | (refine Ext.alloc ?_ _) | (refine Ext.trans ?_ (by assumption)))))
  clear hcwz hfwz
  go_wp2
  go_ret
  exact ⟨by rw [HT.out]; rfl, (by repeat (first | exact Ext.refl _ | (refine Ext.alloc ?_ _) | (refine Ext.trans ?_ (by assumption))))⟩
theorem text_any (t : Tr) (w : World) (hk : OkB t) :
    Calls Tryd.prog 51 #[.agg #[.int .i64 t.d, .bool t.more, .int .i64 t.m, .bool t.s, .string t.nm, .int .i64 t.af, .string t.kg]] w fun e w' => e = .returned (.string (textS t)) ∧ Ext w w' := by
  obtain ⟨d0, d1, m0, m1, a0, a1, hnm, hkg⟩ := hk
  obtain ⟨d, more, m, s, nm, af, kg⟩ := t
  simp only at d0 d1 m0 m1 a0 a1 hnm hkg ⊢
  obtain ⟨d, rfl⟩ := Int.eq_ofNat_of_zero_le d0
  obtain ⟨m, rfl⟩ := Int.eq_ofNat_of_zero_le m0
  obtain ⟨af, rfl⟩ := Int.eq_ofNat_of_zero_le a0
  have d1' : d ≤ 30 := by omega
  have m1' : m ≤ 30 := by omega
  have a1' : af ≤ 3 := by omega
  have hp1 := partS_size (mark := ⟨#[43]⟩) (b := more) d1' (Nat.le_refl _)
  have hp2 := partS_size (mark := ⟨#[98]⟩) (b := s) m1' (Nat.le_refl _)
  have hrp := Nat.le_trans (Nat.le_of_eq (rp_size af)) a1'
  have cp := fun w => part_any d ⟨#[43]⟩ more w d1' (Nat.le_refl _)
  have cq := fun w => part_any m ⟨#[98]⟩ s w m1' (Nat.le_refl _)
  have cr := fun w => rep_any af w a1'
  cases hne : nm.toList.isEmpty <;> cases hke : kg.toList.isEmpty
  · exact text_11 w hnm hkg hp1 hp2 hrp cp cq cr hne hke (by unfold Hid textS kingS yearS; simp only [emptyB_eq, Int.toNat_natCast, hne, hke]; rfl)
  · exact text_10 w hnm hkg hp1 hp2 hrp cp cq cr hne hke (by unfold Hid textS kingS yearS; simp only [emptyB_eq, Int.toNat_natCast, hne, hke]; rfl)
  · exact text_01 w hnm hkg hp1 hp2 hrp cp cq hne hke (by unfold Hid textS kingS yearS; simp only [emptyB_eq, Int.toNat_natCast, hne, hke]; rfl)
  · exact text_00 w hnm hkg hp1 hp2 hrp cp cq hne hke (by unfold Hid textS kingS yearS; simp only [emptyB_eq, Int.toNat_natCast, hne, hke]; rfl)

end Go.Proofs.YthmjpbafbohelaaDoor

namespace Go.Proofs.YthmjpbafbohelaaDoor
open Go Go.RowKit
attribute [local go_sem] gv_yes

/-- The bytes of a slice. -/
def BsAt (w : World) (A : Option Addr) (l : List UInt8) : Prop :=
  match A with
  | none => l = []
  | some a => ∃ b o, a = ⟨b, o, none⟩ ∧ b < w.heap.size ∧ ∀ i, i < l.length → w.cell? ⟨b, o + i, none⟩ = some (.int .u8 ((l.getD i 0).toNat : Int))
theorem BsAt.ext {w w' : World} {A : Option Addr} {l : List UInt8} (h : BsAt w A l) (he : Ext w w') : BsAt w' A l := by
  cases A with
  | none => exact h
  | some a =>
    obtain ⟨b, o, rfl, hb, hc⟩ := h
    exact ⟨b, o, rfl, Nat.lt_of_lt_of_le hb (Ext.rules he).2.2, fun i hi => by rw [he.cell (p := ⟨b, o + i, none⟩) hb]; exact hc i hi⟩
theorem BsAt.take {w : World} {A : Option Addr} {l : List UInt8} (h : BsAt w A l) (k : Nat) : BsAt w A (l.take k) := by
  cases A with
  | none => cases h; simp [BsAt]
  | some a =>
    obtain ⟨b, o, rfl, hb, hc⟩ := h
    refine ⟨b, o, rfl, hb, fun i hi => ?_⟩
    rw [List.length_take] at hi
    rw [hc i (by omega)]
    simp only [List.getD_eq_getElem?_getD, List.getElem?_take]
    rw [if_pos (by omega)]
theorem BsAt.drop {w : World} {b o : Nat} {l : List UInt8} (h : BsAt w (some ⟨b, o, none⟩) l) (k : Nat) : BsAt w (some ⟨b, o + k, none⟩) (l.drop k) := by
  obtain ⟨b', o', e, hb, hc⟩ := h
  cases e
  refine ⟨b, o + k, rfl, hb, fun i hi => ?_⟩
  rw [List.length_drop] at hi
  rw [Nat.add_assoc, hc (k + i) (by omega)]
  simp only [List.getD_eq_getElem?_getD, List.getElem?_drop]
def cutL : List UInt8 → UInt8 → List UInt8 × List UInt8 × Bool
  | [], _ => ([], [], false)
  | x :: l, c => if x = c then ([], l, true) else (x :: (cutL l c).1, (cutL l c).2.1, (cutL l c).2.2)
theorem cutL_at : ∀ {l : List UInt8} {c : UInt8} {k : Nat}, k < l.length → (∀ i, i < k → l.getD i 0 ≠ c) → l.getD k 0 = c → cutL l c = (l.take k, l.drop (k + 1), true)
  | [], _, _, hk, _, _ => by simp at hk
  | x :: l, c, 0, _, _, h1 => by
    have : x = c := by simpa using h1
    simp [cutL, this]
  | x :: l, c, k + 1, hk, h0, h1 => by
    have hx : x ≠ c := by simpa using h0 0 (by omega)
    have := @cutL_at l c k (by simpa using hk) (fun i hi => by simpa using h0 (i + 1) (by omega)) (by simpa using h1)
    simp [cutL, hx, this]
theorem cutL_none : ∀ {l : List UInt8} {c : UInt8}, (∀ i, i < l.length → l.getD i 0 ≠ c) → cutL l c = (l, [], false)
  | [], _, _ => rfl
  | x :: l, c, h0 => by
    have hx : x ≠ c := by simpa using h0 0 (by simp)
    have := @cutL_none l c (fun i hi => by simpa using h0 (i + 1) (by simpa using hi))
    simp [cutL, hx, this]
theorem cut_any (l : List UInt8) (c : UInt8) (A : Option Addr) (cap : Nat) (w W : World) (hA : BsAt w A l) (hW : BsAt W A l) (hc : l.length ≤ cap) (h63 : cap ≤ maxLen) :
    Calls Tryd.prog 52 #[.slice A l.length cap, .int .u8 (c.toNat : Int)] w fun e w' =>
      ∃ B C m n, e = .returned (.tuple #[.slice B (cutL l c).1.length m, .slice C (cutL l c).2.1.length n, .bool (cutL l c).2.2]) ∧ BsAt W B (cutL l c).1 ∧ BsAt W C (cutL l c).2.1 ∧ (cutL l c).1.length ≤ m ∧ m ≤ maxLen ∧ (cutL l c).2.1.length ≤ n ∧ n ≤ maxLen ∧ Ext w w' := by
  have hA' : Hid (BsAt W A l) := hW
  clear hW
  have h63' := h63
  unfold maxLen at h63'
  go_enter Tryd.func52, Tryd.ntmps52
  go_upto_region 2 with (fail)
  go_loop [11] (fun i => ∃ k : Nat, k ≤ l.length ∧ i = .int .i64 k ∧ ∀ i, i < k → l.getD i 0 ≠ c) (fun i => l.length - (intOf i).toNat)
  case atStart => exact ⟨0, Nat.zero_le _, rfl, (fun i hi => absurd hi (by omega))⟩
  case round =>
    obtain ⟨k, hk, rfl, hp⟩ := hrel
    by_cases hlt : k < l.length
    · cases A with
      | none => cases hA; exact absurd hlt (by simp)
      | some a =>
        obtain ⟨b, o, rfl, hb, hcell⟩ := hA
        obtain ⟨x, hxl⟩ : ∃ x, x = l.getD k 0 := ⟨_, rfl⟩
        have hck : w.cell? ⟨b, o + k, none⟩ = some (.int .u8 (x.toNat : Int)) := by rw [hxl]; exact hcell k hlt
        clear hcell
        by_cases hx : x = c
        · subst hx
          have hcut := Lib.hid (cutL_at hlt hp hxl.symm)
          clear hp hxl
          go_upto_region 5 with (fail)
          refine wp_region_xw w mixed (by kernel_rfl) (by repeat (first | exact Ext.refl _ | (refine Ext.alloc ?_ _) | (refine Ext.trans ?_ (by assumption)))) ?_
          intro hne hrx hry
          try simp only []
          try simp only [List.append_eq, List.cons_append, List.nil_append]
          skip
          repeat (first
            | go_big_quiet_skip
            | (go_big_quiet_want; go_big_quiet_op; go_big_quiet_on))
          clear hne hry hrx
          refine wpQuiet_nil ?_
          intro wq hq
          obtain ⟨hcwq, hfwq, hzwq⟩ := Ext.rules hq
          try simp only [World.size_alloc] at hzwq
          obtain ⟨hcbwq, hfbwq, hzbwq⟩ := Ext.rules (show Ext w wq from (by repeat (first | exact Ext.refl _ | (refine Ext.alloc ?_ _) | (refine Ext.trans ?_ (by assumption)))))
          clear hcwq hfwq
          go_wp2
          · rename_i hl0
            refine bodyPost_ret (results_tmp3 (t := 4) (u := 5) (v := 6) rfl _ _ _) rfl ?_
            rw [hcut.out]
            have hz : l.drop (k + 1) = [] := List.drop_eq_nil_of_le (by omega)
            have h1 : (l.take k).length = k := by rw [List.length_take]; omega
            refine ⟨some ⟨b, o, none⟩, some ⟨b, o, none⟩, k, 0, ?_, hA'.out.take k, ?_, ?_, ?_, ?_, ?_, hq⟩
            · simp only [h1, hz]; rfl
            · rw [hz]; simpa using hA'.out.take 0
            · simp only [h1]; omega
            · unfold maxLen; omega
            · simp only [hz]; exact Nat.le_refl _
            · unfold maxLen; omega
          · refine bodyPost_ret (results_tmp3 (t := 4) (u := 5) (v := 6) rfl _ _ _) rfl ?_
            rw [hcut.out]
            have h1 : (l.take k).length = k := by rw [List.length_take]; omega
            have h2 : (l.drop (k + 1)).length = l.length - (k + 1) := by rw [List.length_drop]
            refine ⟨some ⟨b, o, none⟩, some ⟨b, o + (k + 1), none⟩, k, l.length - (k + 1), ?_, hA'.out.take k, hA'.out.drop (k + 1), ?_, ?_, ?_, ?_, hq⟩
            · simp only [h1, h2]; rfl
            · simp only [h1]; omega
            · unfold maxLen; omega
            · simp only [h2]; omega
            · unfold maxLen; omega
        · have hxc : x.toNat ≠ c.toNat := fun h => hx (UInt8.toNat_inj.1 h)
          have hp' : ∀ i, i < k + 1 → l.getD i 0 ≠ c := fun i hi => by
            by_cases h : i = k
            · subst h; rw [← hxl]; exact hx
            · exact hp i (by omega)
          clear hxl hx
          have hne : ((x.toNat : Int) == (c.toNat : Int)) = false := beq_eq_false_iff_ne.2 (by omega)
          go_wp2
          exact ⟨⟨k + 1, by omega, by go_num, hp'⟩, by simp [intOf]; omega⟩
    · have hcut := Lib.hid (cutL_none (l := l) (c := c) (fun i hi => hp i (by omega)))
      go_wp2
      refine bodyPost_ret (results_tmp3 (t := 4) (u := 5) (v := 6) rfl _ _ _) rfl ?_
      rw [hcut.out]
      exact ⟨A, none, cap, 0, rfl, hA'.out, rfl, hc, h63, Nat.le_refl _, Nat.zero_le _, Ext.refl _⟩
end Go.Proofs.YthmjpbafbohelaaDoor

namespace Go.Proofs.YthmjpbafbohelaaDoor
open Go Go.RowKit
attribute [local go_sem] gv_yes

def valL : List UInt8 → Nat → Option Nat
  | [], n => some n
  | x :: l, n => if 48 ≤ x.toNat ∧ x.toNat ≤ 57 then valL l (10 * n + (x.toNat - 48)) else none
def numOf (l : List UInt8) (b : Bool) : Nat × Bool :=
  if 2 < l.length then (0, false) else match valL l 0 with
  | none => (0, false)
  | some n => (n, b && decide (0 < n))
def readL (l : List UInt8) (m : UInt8) : Nat × Bool := if l.getLast? = some m then numOf l.dropLast true else numOf l false
theorem numOf_long {l : List UInt8} {b : Bool} (h : 2 < l.length) : numOf l b = (0, false) := if_pos h
theorem numOf_bad {l : List UInt8} {b : Bool} (h : valL l 0 = none) : numOf l b = (0, false) := by unfold numOf; rw [h]; split <;> rfl
theorem numOf_ok {l : List UInt8} {b : Bool} {n : Nat} (h : l.length ≤ 2) (h1 : valL l 0 = some n) : numOf l b = (n, b && decide (0 < n)) := by unfold numOf; rw [h1, if_neg (by omega)]
theorem drop_at {l : List UInt8} {k : Nat} (h : k < l.length) : l.drop k = l.getD k 0 :: l.drop (k + 1) := by
  rw [List.drop_eq_getElem_cons h]; simp [List.getD_eq_getElem?_getD, h]
set_option maxHeartbeats 1000000 in
theorem read_c (l : List UInt8) (z mk : UInt8) (b o cap : Nat) (R : Nat × Bool) (w : World) (hne : z.toNat ≠ mk.toNat) (h0 : 0 < l.length) (hz : w.cell? ⟨b, o + (l.length - 1), none⟩ = some (.int .u8 (z.toNat : Int))) (hcell : ∀ i, i < l.length → w.cell? ⟨b, o + i, none⟩ = some (.int .u8 ((l.getD i 0).toNat : Int))) (hc : l.length ≤ cap) (h63 : cap ≤ 2 ^ 63 - 1) (HR : Hid (R = numOf l false)) :
    Calls Tryd.prog 53 #[.slice (some ⟨b, o, none⟩) l.length cap, .int .u8 (mk.toNat : Int)] w fun e w' => e = .returned (.tuple #[.int .i64 R.1, .bool R.2]) ∧ w = w' := by
  have hzb : ((z.toNat : Int) == (mk.toNat : Int)) = false := beq_eq_false_iff_ne.2 (by omega)
  by_cases hL : l.length ≤ 2
  · go_enter Tryd.func53, Tryd.ntmps53
    go_upto_region 6 with (fail)
    go_loop [4, 5, 34] (fun n q i => q = .bool false ∧ ∃ k m : Nat, k ≤ l.length ∧ i = .int .i64 k ∧ n = .int .i64 m ∧ m < 10 ^ k ∧ valL l 0 = valL (l.drop k) m) (fun _ _ i => l.length - (intOf i).toNat)
    case atStart => exact ⟨rfl, 0, 0, Nat.zero_le _, rfl, rfl, by decide, rfl⟩
    case round =>
      obtain ⟨rfl, k, m, hk, rfl, rfl, hm, hv⟩ := hrel
      have hm2 : m < 100 := Nat.lt_of_lt_of_le hm (Nat.le_trans (Nat.pow_le_pow_right (by omega) (show k ≤ 2 by omega)) (by decide))
      by_cases hlt : k < l.length
      · obtain ⟨x, hxl⟩ : ∃ x, x = l.getD k 0 := ⟨_, rfl⟩
        have hck : w.cell? ⟨b, o + k, none⟩ = some (.int .u8 (x.toNat : Int)) := by rw [hxl]; exact hcell k hlt
        have h256 := x.toNat_lt
        rw [drop_at hlt, ← hxl] at hv
        by_cases hx : 48 ≤ x.toNat ∧ x.toNat ≤ 57
        · have hv' : valL l 0 = valL (l.drop (k + 1)) (10 * m + (x.toNat - 48)) := by rw [hv, valL, if_pos hx]
          obtain ⟨hx1, hx2⟩ := hx
          have hm10 : 10 * m + (x.toNat - 48) < 10 ^ (k + 1) := by rw [Nat.pow_succ]; omega
          obtain ⟨y, hy⟩ : ∃ y, x.toNat = y + 48 := ⟨x.toNat - 48, by omega⟩
          rw [hy] at hck hv' hm10 hx2
          clear hx1 h256 hv hxl hcell hm
          have hy9 : y ≤ 9 := by omega
          go_wp2

          have hm11 : 10 * m + y < 10 ^ (k + 1) := by simpa using hm10
          first
            | exact ⟨⟨rfl, k + 1, 10 * m + y, by omega, by go_num, by go_num, by simpa using hm10, by simpa using hv'⟩, by simp [intOf]; omega⟩
            | exact ⟨⟨.int .i64 ((10 * m + y : Nat) : Int), .bool false, _, .int .i64 ((k + 1 : Nat) : Int), ⟨rfl, k + 1, by omega, rfl, 10 * m + y, rfl, hm11, rfl⟩, by go_num, rfl, rfl, by go_num⟩, by simp [intOf]; omega⟩
        · have hbad := Lib.hid (numOf_bad (l := l) (b := false) (by rw [hv, valL, if_neg hx]))
          clear hv hxl hcell
          by_cases h48 : x.toNat < 48
          · clear hx
            go_wp2
            go_ret2
            exact ⟨by rw [HR.out, hbad.out]; rfl, rfl⟩
          · have h57 : 57 < x.toNat := by omega
            clear hx
            go_wp2
            go_ret2
            exact ⟨by rw [HR.out, hbad.out]; rfl, rfl⟩
      · have hke : k = l.length := by omega
        have hok : Hid (numOf l false = (m, false && decide (0 < m))) := numOf_ok hL (by rw [hv, hke, List.drop_length]; rfl)
        clear hke hv
        by_cases hm0 : 0 < m
        · go_wp2
          go_ret2
          exact ⟨by rw [HR.out, hok.out, decide_eq_true hm0]; rfl, rfl⟩
        · go_wp2
          go_ret2
          exact ⟨by rw [HR.out, hok.out, decide_eq_false hm0]; rfl, rfl⟩
  · have hR' : Hid (R = (0, false)) := by rw [HR.out]; exact numOf_long (by omega)
    go_enter Tryd.func53, Tryd.ntmps53
    go_wp2
    go_ret2
    exact ⟨by rw [hR'.out]; rfl, rfl⟩
theorem getD_snoc {l : List UInt8} {x : UInt8} {i : Nat} (h : i < l.length) : (l ++ [x]).getD i 0 = l.getD i 0 := by simp [List.getD_eq_getElem?_getD, List.getElem?_append_left h]
set_option maxHeartbeats 1000000 in
theorem read_b (l : List UInt8) (mk : UInt8) (b o cap n : Nat) (R : Nat × Bool) (w : World) (hn : n = l.length + 1) (hz : w.cell? ⟨b, o + l.length, none⟩ = some (.int .u8 (mk.toNat : Int))) (hcell : ∀ i, i < l.length → w.cell? ⟨b, o + i, none⟩ = some (.int .u8 ((l.getD i 0).toNat : Int))) (hc : n ≤ cap) (h63 : cap ≤ 2 ^ 63 - 1) (HR : Hid (R = numOf l true)) :
    Calls Tryd.prog 53 #[.slice (some ⟨b, o, none⟩) n cap, .int .u8 (mk.toNat : Int)] w fun e w' => e = .returned (.tuple #[.int .i64 R.1, .bool R.2]) ∧ w = w' := by
  have hn1 : n - 1 = l.length := by omega
  have hn2 : ((n : Int) - 1).toNat = l.length := by omega
  by_cases hL : l.length ≤ 2
  · go_enter Tryd.func53, Tryd.ntmps53
    go_upto_region 6 with (fail)
    go_loop [4, 5, 34] (fun n q i => q = .bool true ∧ ∃ k m : Nat, k ≤ l.length ∧ i = .int .i64 k ∧ n = .int .i64 m ∧ m < 10 ^ k ∧ valL l 0 = valL (l.drop k) m) (fun _ _ i => l.length - (intOf i).toNat)
    case atStart => exact ⟨rfl, 0, 0, Nat.zero_le _, rfl, rfl, by decide, rfl⟩
    case round =>
      obtain ⟨rfl, k, m, hk, rfl, rfl, hm, hv⟩ := hrel
      have hm2 : m < 100 := Nat.lt_of_lt_of_le hm (Nat.le_trans (Nat.pow_le_pow_right (by omega) (show k ≤ 2 by omega)) (by decide))
      by_cases hlt : k < l.length
      · obtain ⟨x, hxl⟩ : ∃ x, x = l.getD k 0 := ⟨_, rfl⟩
        have hck : w.cell? ⟨b, o + k, none⟩ = some (.int .u8 (x.toNat : Int)) := by rw [hxl]; exact hcell k hlt
        have h256 := x.toNat_lt
        rw [drop_at hlt, ← hxl] at hv
        by_cases hx : 48 ≤ x.toNat ∧ x.toNat ≤ 57
        · have hv' : valL l 0 = valL (l.drop (k + 1)) (10 * m + (x.toNat - 48)) := by rw [hv, valL, if_pos hx]
          obtain ⟨hx1, hx2⟩ := hx
          have hm10 : 10 * m + (x.toNat - 48) < 10 ^ (k + 1) := by rw [Nat.pow_succ]; omega
          obtain ⟨y, hy⟩ : ∃ y, x.toNat = y + 48 := ⟨x.toNat - 48, by omega⟩
          rw [hy] at hck hv' hm10 hx2
          clear hx1 h256 hv hxl hcell hm
          have hy9 : y ≤ 9 := by omega
          go_wp2

          have hm11 : 10 * m + y < 10 ^ (k + 1) := by simpa using hm10
          first
            | exact ⟨⟨rfl, k + 1, 10 * m + y, by omega, by go_num, by go_num, by simpa using hm10, by simpa using hv'⟩, by simp [intOf]; omega⟩
            | exact ⟨⟨.int .i64 ((10 * m + y : Nat) : Int), .bool true, _, .int .i64 ((k + 1 : Nat) : Int), ⟨rfl, k + 1, by omega, rfl, 10 * m + y, rfl, hm11, rfl⟩, by go_num, rfl, rfl, by go_num⟩, by simp [intOf]; omega⟩
        · have hbad := Lib.hid (numOf_bad (l := l) (b := true) (by rw [hv, valL, if_neg hx]))
          clear hv hxl hcell
          by_cases h48 : x.toNat < 48
          · clear hx
            go_wp2
            go_ret2
            exact ⟨by rw [HR.out, hbad.out]; rfl, rfl⟩
          · have h57 : 57 < x.toNat := by omega
            clear hx
            go_wp2
            go_ret2
            exact ⟨by rw [HR.out, hbad.out]; rfl, rfl⟩
      · have hke : k = l.length := by omega
        have hok : Hid (numOf l true = (m, true && decide (0 < m))) := numOf_ok hL (by rw [hv, hke, List.drop_length]; rfl)
        clear hke hv
        by_cases hm0 : 0 < m
        · go_wp2
          go_ret2
          exact ⟨by rw [HR.out, hok.out, decide_eq_true hm0]; rfl, rfl⟩
        · go_wp2
          go_ret2
          exact ⟨by rw [HR.out, hok.out, decide_eq_false hm0]; rfl, rfl⟩
  · have hR' : Hid (R = (0, false)) := by rw [HR.out]; exact numOf_long (by omega)
    go_enter Tryd.func53, Tryd.ntmps53
    go_wp2
    go_ret2
    exact ⟨by rw [hR'.out]; rfl, rfl⟩
set_option maxHeartbeats 1000000 in
theorem read_a (A : Option Addr) (cap : Nat) (mk : UInt8) (w : World) :
    Calls Tryd.prog 53 #[.slice A 0 cap, .int .u8 (mk.toNat : Int)] w fun e w' => e = .returned (.tuple #[.int .i64 0, .bool false]) ∧ w = w' := by
  go_enter Tryd.func53, Tryd.ntmps53
  go_upto_region 6 with (fail)
  go_loop [4, 5, 34] (fun n q i => q = .bool false ∧ i = .int .i64 0 ∧ n = .int .i64 0) (fun _ _ i => 0 - (intOf i).toNat)
  case atStart => exact ⟨rfl, rfl, rfl⟩
  case round =>
    obtain ⟨rfl, rfl, rfl⟩ := hrel
    go_wp2
    go_ret2
    exact ⟨rfl, rfl⟩
theorem read_any (l : List UInt8) (mk : UInt8) (A : Option Addr) (cap : Nat) (w : World) (hA : BsAt w A l) (hc : l.length ≤ cap) (h63 : cap ≤ maxLen) :
    Calls Tryd.prog 53 #[.slice A l.length cap, .int .u8 (mk.toNat : Int)] w fun e w' => e = .returned (.tuple #[.int .i64 (readL l mk).1, .bool (readL l mk).2]) ∧ w = w' := by
  have h63' : cap ≤ 2 ^ 63 - 1 := h63
  rcases List.eq_nil_or_concat l with rfl | ⟨l, z, rfl⟩
  · exact read_a A cap mk w
  · rw [List.concat_eq_append] at *
    cases A with
    | none => exact absurd hA (by simp [BsAt])
    | some a =>
      obtain ⟨b, o, rfl, hb, hcell⟩ := hA
      have hlast : (l ++ [z]).getD l.length 0 = z := by simp [List.getD_eq_getElem?_getD]
      have hz := hcell l.length (by simp)
      rw [hlast] at hz
      by_cases hzm : z = mk
      · subst hzm
        have := read_b l z b o cap (l ++ [z]).length (readL (l ++ [z]) z) w (by simp) hz (fun i hi => by rw [hcell i (by simp; omega), getD_snoc hi]) hc h63' (by unfold Hid readL; rw [List.getLast?_append]; simp)
        exact this
      · have hn : z.toNat ≠ mk.toNat := fun h => hzm (UInt8.toNat_inj.1 h)
        exact read_c (l ++ [z]) z mk b o cap (readL (l ++ [z]) mk) w hn (by simp) (by simpa using hz) hcell hc h63' (by unfold Hid readL; rw [List.getLast?_append]; simp [hzm])
end Go.Proofs.YthmjpbafbohelaaDoor

namespace Go.Proofs.YthmjpbafbohelaaDoor
open Go Go.RowKit
attribute [local go_sem] gv_yes

theorem Held.set {W : World} {b : Nat} {t : TypeId} {cs : Array Value} (h : Held W b t cs) (i : Nat) (v : Value) : Held (W.setCell ⟨b, i, none⟩ v) b t (cs.setIfInBounds i v) := by
  unfold Held at h ⊢
  simp [World.setCell, Array.getElem?_modify, h]
def Tr.val (t : Tr) : Value := .agg #[.int .i64 t.d, .bool t.more, .int .i64 t.m, .bool t.s, .string t.nm, .int .i64 t.af, .string t.kg]
def zTr : Tr := ⟨0, false, 0, false, ⟨#[]⟩, 0, ⟨#[]⟩⟩
def isPlus (x : UInt8) : Bool := x == 43
def nameL (l : List UInt8) : ByteArray := if l.dropWhile isPlus = [45] then ⟨#[]⟩ else ⟨(l.dropWhile isPlus).toArray⟩
def candL (l : List UInt8) : Option Tr :=
  if (cutL l 47).2.2 && (cutL (cutL l 47).2.1 47).2.2 then
    some ⟨(readL (cutL l 47).1 43).1, (readL (cutL l 47).1 43).2, (readL (cutL (cutL l 47).2.1 47).1 98).1, (readL (cutL (cutL l 47).2.1 47).1 98).2,
      nameL (cutL (cutL (cutL l 47).2.1 47).2.1 64).1, ((cutL (cutL (cutL l 47).2.1 47).2.1 64).1.takeWhile isPlus).length, ⟨(cutL (cutL (cutL l 47).2.1 47).2.1 64).2.1.toArray⟩⟩
  else none
def parseS (s : ByteArray) : Option Tr := if 65536 < s.size then none else (candL s.data.toList).filter fun t => t.ok && decide (textS t = s)
def parseV (s : ByteArray) : Tr := (parseS s).getD zTr
def parseE (s : ByteArray) : Int := if (parseS s).isSome then 0 else 5
theorem bytes_ext (w : World) (e : TypeId) (s : ByteArray) : Ext w (Lib.bytesWorld w e s) :=
  ⟨rfl, rfl, rfl, by rw [Lib.bytesWorld_size]; omega, fun k hk => Lib.bytesWorld_at_old w e s k hk⟩
theorem bytes_at (w : World) (e : TypeId) (s : ByteArray) : BsAt (Lib.bytesWorld w e s) (some ⟨w.heap.size, 0, none⟩) s.data.toList :=
  ⟨w.heap.size, 0, rfl, by rw [Lib.bytesWorld_size]; omega, fun i hi => by rw [Nat.zero_add, Lib.bytesWorld_cell w e s i (by simpa using hi)]⟩
theorem plus_at : ∀ {l : List UInt8} {k : Nat}, k ≤ l.length → (∀ i, i < k → l.getD i 0 = 43) → (k = l.length ∨ l.getD k 0 ≠ 43) → (l.takeWhile isPlus).length = k ∧ l.dropWhile isPlus = l.drop k
  | [], k, hk, _, _ => by
    have : k = 0 := by simpa using hk
    subst this
    exact ⟨rfl, rfl⟩
  | x :: l, 0, _, _, hs => by
    rcases hs with h | h
    · simp at h
    · have hx : isPlus x = false := by simp [isPlus]; simpa using h
      simp [List.takeWhile, List.dropWhile, hx]
  | x :: l, k + 1, hk, h0, hs => by
    have hx : isPlus x = true := by simp [isPlus]; simpa using h0 0 (by omega)
    have := @plus_at l k (by simpa using hk) (fun i hi => by simpa using h0 (i + 1) (by omega)) (hs.imp (fun h => by simpa using h) (fun h => by simpa using h))
    simp [List.takeWhile, List.dropWhile, hx, this.1, this.2]
theorem parse_cand {s : ByteArray} {l1 r1 l2 r2 l3 r3 : List UInt8} {b3 d1 d2 : Bool} {n1 n2 k : Nat} (h : s.size ≤ 65536) (e1 : cutL s.data.toList 47 = (l1, r1, true)) (e2 : cutL r1 47 = (l2, r2, true)) (e3 : cutL r2 64 = (l3, r3, b3)) (i1 : readL l1 43 = (n1, d1)) (i2 : readL l2 98 = (n2, d2))
    (hk : k ≤ l3.length) (h0 : ∀ i, i < k → l3.getD i 0 = 43) (hs : k = l3.length ∨ l3.getD k 0 ≠ 43) {nm : ByteArray} (hnm : nm = if l3.drop k = [45] then ⟨#[]⟩ else ⟨(l3.drop k).toArray⟩) {T : Tr} (hT : T = ⟨n1, d1, n2, d2, nm, k, ⟨r3.toArray⟩⟩) :
    parseS s = if T.ok && decide (textS T = s) then some T else none := by
  obtain ⟨p1, p2⟩ := plus_at hk h0 hs
  have : candL s.data.toList = some T := by
    unfold candL nameL
    simp only [e1, e2, e3, i1, i2, p1, p2]
    rw [hT, hnm]; rfl
  unfold parseS
  rw [if_neg (by omega), this, Option.filter_some]
def lenV : Value → Nat
  | .slice _ n _ => n
  | _ => 0
theorem cut_one {s : ByteArray} {l r : List UInt8} {b : Bool} (h : s.size ≤ 65536) (e1 : cutL s.data.toList 47 = (l, r, b)) (W : World) {n cap : Nat} (hn : n = W.heap.size) (hc : cap = grownCap W s.size 0 5) :
    Calls Tryd.prog 52 #[.slice (some ⟨n, 0, none⟩) s.size cap, .int .u8 47] (Lib.bytesWorld W 5 s) fun e w' =>
      ∃ B C m n, e = .returned (.tuple #[.slice B l.length m, .slice C r.length n, .bool b]) ∧ BsAt (Lib.bytesWorld W 5 s) B l ∧ BsAt (Lib.bytesWorld W 5 s) C r ∧ l.length ≤ m ∧ m ≤ maxLen ∧ r.length ≤ n ∧ n ≤ maxLen ∧ Ext (Lib.bytesWorld W 5 s) w' := by
  subst hn; subst hc
  have := cut_any s.data.toList 47 (some ⟨W.heap.size, 0, none⟩) (grownCap W s.size 0 5) _ _ (bytes_at W 5 s) (bytes_at W 5 s) (grownCap_ge W s.size 0 5) (grownCap_le_maxLen W s.size 0 5 (by unfold maxLen; omega))
  rw [e1] at this
  exact this
theorem cut_more {l0 l r : List UInt8} {x : UInt8} {z : Int} {b : Bool} (hz : z = x.toNat) (e1 : cutL l0 x = (l, r, b)) {A : Option Addr} {cap : Nat} {w W : World} (hA : BsAt w A l0) (hW : BsAt W A l0) (h1 : l0.length ≤ cap) (h2 : cap ≤ maxLen) :
    Calls Tryd.prog 52 #[.slice A l0.length cap, .int .u8 z] w fun e w' =>
      ∃ B C m n, e = .returned (.tuple #[.slice B l.length m, .slice C r.length n, .bool b]) ∧ BsAt W B l ∧ BsAt W C r ∧ l.length ≤ m ∧ m ≤ maxLen ∧ r.length ≤ n ∧ n ≤ maxLen ∧ Ext w w' := by
  subst hz
  have := cut_any l0 x A cap w W hA hW h1 h2
  rw [e1] at this
  exact this
theorem read_more {l : List UInt8} {x : UInt8} {z d : Int} {n : Nat} {b : Bool} (hz : z = x.toNat) (hd : d = n) (e1 : readL l x = (n, b)) {A : Option Addr} {cap : Nat} {w : World} (hA : BsAt w A l) (h1 : l.length ≤ cap) (h2 : cap ≤ maxLen) :
    Calls Tryd.prog 53 #[.slice A l.length cap, .int .u8 z] w fun e w' => e = .returned (.tuple #[.int .i64 d, .bool b]) ∧ w = w' := by
  subst hz; subst hd
  have := read_any l x A cap w hA h1 h2
  rw [e1] at this
  exact this
theorem str_of {w : World} {A : Option Addr} {l : List UInt8} (hA : BsAt w A l) (cap : Nat) : (convert 114 9 (.slice A l.length cap)).run Tryd.prog w = .ok (.string ⟨l.toArray⟩) w := by
  cases A with
  | none =>
    cases hA
    exact run_convert_bytes_nil w 114 5 (by kernel_rfl) (by kernel_rfl) 0 cap 9 (by kernel_rfl)
  | some a =>
    obtain ⟨b, o, rfl, hb, hc⟩ := hA
    refine run_convert_bytes_back w 114 9 5 ⟨b, o, none⟩ cap l (by kernel_rfl) (by kernel_rfl) (by kernel_rfl) (fun j hj => ?_)
    have := hc j hj
    rw [show (⟨b, o, none⟩ : Addr).add j = ⟨b, o + j, none⟩ from by unfold Addr.add; split <;> simp_all, this]
    simp [List.getD_eq_getElem?_getD, hj]
theorem z47 : (47 : Int) = ((47 : UInt8).toNat : Int) := rfl
theorem z43 : (43 : Int) = ((43 : UInt8).toNat : Int) := rfl
theorem z98 : (98 : Int) = ((98 : UInt8).toNat : Int) := rfl
theorem z64 : (64 : Int) = ((64 : UInt8).toNat : Int) := rfl
theorem frozen7 {W : World} {b : Nat} {t : TypeId} {cs : Array Value} (h : Held W b t cs) : W.frozen? ⟨b, 0, none⟩ = false ∧ W.frozen? ⟨b, 1, none⟩ = false ∧ W.frozen? ⟨b, 2, none⟩ = false ∧ W.frozen? ⟨b, 3, none⟩ = false ∧ W.frozen? ⟨b, 4, none⟩ = false ∧ W.frozen? ⟨b, 5, none⟩ = false ∧ W.frozen? ⟨b, 6, none⟩ = false :=
  ⟨h.frozen 0, h.frozen 1, h.frozen 2, h.frozen 3, h.frozen 4, h.frozen 5, h.frozen 6⟩
theorem seven_set {W : World} {b : Nat} {t : TypeId} {v0 v1 v2 v3 v4 v5 v6 : Value} (h : Held W b t #[v0, v1, v2, v3, v4, v5, v6]) (u0 u1 u2 u3 u4 u5 u6 : Value) :
    Held (((((((W.setCell ⟨b, 0, none⟩ u0).setCell ⟨b, 1, none⟩ u1).setCell ⟨b, 2, none⟩ u2).setCell ⟨b, 3, none⟩ u3).setCell ⟨b, 4, none⟩ u4).setCell ⟨b, 5, none⟩ u5).setCell ⟨b, 6, none⟩ u6) b t #[u0, u1, u2, u3, u4, u5, u6] ∧
    ∀ wd, Ext wd W → wd.heap.size ≤ b → Ext wd (((((((W.setCell ⟨b, 0, none⟩ u0).setCell ⟨b, 1, none⟩ u1).setCell ⟨b, 2, none⟩ u2).setCell ⟨b, 3, none⟩ u3).setCell ⟨b, 4, none⟩ u4).setCell ⟨b, 5, none⟩ u5).setCell ⟨b, 6, none⟩ u6) :=
  ⟨by unfold Held at h ⊢; simp [World.setCell, Array.getElem?_modify, h], fun _ e h1 => ((((((e.setCell h1 _).setCell h1 _).setCell h1 _).setCell h1 _).setCell h1 _).setCell h1 _).setCell h1 _⟩
theorem four7 {W : World} {b : Nat} {t : TypeId} {v0 v1 v2 v3 v4 v5 v6 : Value} (h : Held W b t #[v0, v1, v2, v3, v4, v5, v6]) (u0 u1 u2 u3 : Value) :
    Held ((((W.setCell ⟨b, 0, none⟩ u0).setCell ⟨b, 1, none⟩ u1).setCell ⟨b, 2, none⟩ u2).setCell ⟨b, 3, none⟩ u3) b t #[u0, u1, u2, u3, v4, v5, v6] ∧
    ∀ wd, Ext wd W → wd.heap.size ≤ b → Ext wd ((((W.setCell ⟨b, 0, none⟩ u0).setCell ⟨b, 1, none⟩ u1).setCell ⟨b, 2, none⟩ u2).setCell ⟨b, 3, none⟩ u3) :=
  ⟨by unfold Held at h ⊢; simp [World.setCell, Array.getElem?_modify, h], fun _ e h1 => (((e.setCell h1 _).setCell h1 _).setCell h1 _).setCell h1 _⟩
theorem set7_6 {W : World} {b : Nat} {t : TypeId} {v0 v1 v2 v3 v4 v5 v6 : Value} (h : Held W b t #[v0, v1, v2, v3, v4, v5, v6]) (u : Value) : Held (W.setCell ⟨b, 6, none⟩ u) b t #[v0, v1, v2, v3, v4, v5, u] := by unfold Held at h ⊢; simp [World.setCell, Array.getElem?_modify, h]
theorem set7_5 {W : World} {b : Nat} {t : TypeId} {v0 v1 v2 v3 v4 v5 v6 : Value} (h : Held W b t #[v0, v1, v2, v3, v4, v5, v6]) (u : Value) : Held (W.setCell ⟨b, 5, none⟩ u) b t #[v0, v1, v2, v3, v4, u, v6] := by unfold Held at h ⊢; simp [World.setCell, Array.getElem?_modify, h]
theorem set7_4 {W : World} {b : Nat} {t : TypeId} {v0 v1 v2 v3 v4 v5 v6 : Value} (h : Held W b t #[v0, v1, v2, v3, v4, v5, v6]) (u : Value) : Held (W.setCell ⟨b, 4, none⟩ u) b t #[v0, v1, v2, v3, u, v5, v6] := by unfold Held at h ⊢; simp [World.setCell, Array.getElem?_modify, h]
set_option maxHeartbeats 1000000 in
theorem parse_no (s : ByteArray) (w : World) (h : s.size ≤ 65536) {l1 r1 l2 r2 : List UInt8} {b1 b2 : Bool} (e1 : cutL s.data.toList 47 = (l1, r1, b1)) (e2 : cutL r1 47 = (l2, r2, b2)) (hb : (b1 && b2) = false) :
    Calls Tryd.prog 15 #[.string s] w fun e w' => e = .returned (.tuple #[zTr.val, .int .i64 5]) ∧ Ext w w' := by
  have hcv := fun w => Lib.run_convert_string_bytes (P := Tryd.prog) w 9 114 5 s (u := .string) (by kernel_rfl) (by kernel_rfl) (by kernel_rfl)
  go_enter Tryd.func15, Tryd.ntmps15
  go_upto_region 4 with (go_at_call 52; (with_reducible refine Calls.mono (cut_one h e1 _ (by simp) rfl) ?_); rintro e wq ⟨B1, C1, m1, n1, rfl, hB1, hC1, hm1, hm1', hn1, hn1', hq⟩)
  have hbw := bytes_ext (w.alloc (.cells #[.int .i64 0, .bool false, .int .i64 0, .bool false, .string ⟨#[]⟩, .int .i64 0, .string ⟨#[]⟩] 34)) 5 s
  have hz1 : Held wq w.heap.size 34 #[.int .i64 0, .bool false, .int .i64 0, .bool false, .string ⟨#[]⟩, .int .i64 0, .string ⟨#[]⟩] := ((Held.new w _ _).ext hbw).ext hq
  have hE1 : Ext w wq := (((Ext.refl w).alloc _).trans hbw).trans hq
  replace hB1 := hB1.ext hq
  replace hC1 := hC1.ext hq
  clear hq hbw hcv
  go_upto_region 5 with (go_at_call 52; (with_reducible refine Calls.mono (cut_more z47 e2 hC1 hC1 hn1 hn1') ?_); rintro e w2 ⟨B2, C2, m2, n2, rfl, hB2, hC2, hm2, hm2', hn2, hn2', h2⟩)
  have hz2 := hz1.ext h2
  have hE2 := hE1.trans h2
  replace hB1 := hB1.ext h2
  replace hB2 := hB2.ext h2
  replace hC2 := hC2.ext h2
  clear h2 hz1 hE1 hC1
  have l0 := hz2.lt
  obtain ⟨f0, f1, f2, f3, f4, f5, f6⟩ := frozen7 hz2
  obtain ⟨t0, t1, t2, t3, t4, t5, t6⟩ := hz2.c7
  cases b1
  · go_wp2
    obtain ⟨hs, gE⟩ := seven_set hz2 (.int .i64 0) (.bool false) (.int .i64 0) (.bool false) (.string ⟨#[]⟩) (.int .i64 0) (.string ⟨#[]⟩)
    obtain ⟨q0, q1, q2, q3, q4, q5, q6⟩ := hs.c7
    refine bodyPost_ret (v := .tuple #[zTr.val, .int .i64 5]) (by simp [results, Tryd.results15, go_sem, q0, q1, q2, q3, q4, q5, q6, zTr, Tr.val]) rfl ⟨rfl, gE w hE2 (Nat.le_refl _)⟩
  · cases b2
    · go_wp2
      obtain ⟨hs, gE⟩ := seven_set hz2 (.int .i64 0) (.bool false) (.int .i64 0) (.bool false) (.string ⟨#[]⟩) (.int .i64 0) (.string ⟨#[]⟩)
      obtain ⟨q0, q1, q2, q3, q4, q5, q6⟩ := hs.c7
      refine bodyPost_ret (v := .tuple #[zTr.val, .int .i64 5]) (by simp [results, Tryd.results15, go_sem, q0, q1, q2, q3, q4, q5, q6, zTr, Tr.val]) rfl ⟨rfl, gE w hE2 (Nat.le_refl _)⟩
    · cases hb
set_option maxRecDepth 100000 in
set_option maxHeartbeats 4000000 in
theorem parse_yes (s : ByteArray) (w : World) (h : s.size ≤ 65536) {l1 r1 l2 r2 l3 r3 : List UInt8} {b3 d1 d2 : Bool} {n1 n2 : Nat} (e1 : cutL s.data.toList 47 = (l1, r1, true)) (e2 : cutL r1 47 = (l2, r2, true)) (e3 : cutL r2 64 = (l3, r3, b3)) (i1 : readL l1 43 = (n1, d1)) (i2 : readL l2 98 = (n2, d2)) :
    Calls Tryd.prog 15 #[.string s] w fun e w' => e = .returned (.tuple #[(parseV s).val, .int .i64 (parseE s)]) ∧ Ext w w' := by
  have hcv := fun w => Lib.run_convert_string_bytes (P := Tryd.prog) w 9 114 5 s (u := .string) (by kernel_rfl) (by kernel_rfl) (by kernel_rfl)
  go_enter Tryd.func15, Tryd.ntmps15
  go_upto_region 4 with (go_at_call 52; (with_reducible refine Calls.mono (cut_one h e1 _ (by simp) rfl) ?_); rintro e wq ⟨B1, C1, x1, y1, rfl, hB1, hC1, hm1, hm1', hn1, hn1', hq⟩)
  have hbw := bytes_ext (w.alloc (.cells #[.int .i64 0, .bool false, .int .i64 0, .bool false, .string ⟨#[]⟩, .int .i64 0, .string ⟨#[]⟩] 34)) 5 s
  have hz1 : Held wq w.heap.size 34 #[.int .i64 0, .bool false, .int .i64 0, .bool false, .string ⟨#[]⟩, .int .i64 0, .string ⟨#[]⟩] := ((Held.new w _ _).ext hbw).ext hq
  have hE1 : Ext w wq := (((Ext.refl w).alloc _).trans hbw).trans hq
  replace hB1 := hB1.ext hq
  replace hC1 := hC1.ext hq
  clear hq hbw hcv
  go_upto_region 5 with (go_at_call 52; (with_reducible refine Calls.mono (cut_more z47 e2 hC1 hC1 hn1 hn1') ?_); rintro e w2 ⟨B2, C2, x2, y2, rfl, hB2, hC2, hm2, hm2', hn2, hn2', h2⟩)
  have hz2 := hz1.ext h2
  have hE2 := hE1.trans h2
  replace hB1 := hB1.ext h2
  replace hB2 := hB2.ext h2
  replace hC2 := hC2.ext h2
  clear h2 hz1 hE1 hC1
  have l0 := hz2.lt
  obtain ⟨f0, f1, f2, f3, f4, f5, f6⟩ := frozen7 hz2
  obtain ⟨t0, t1, t2, t3, t4, t5, t6⟩ := hz2.c7
  go_upto_region 8 with (fail)
  obtain ⟨wb, hwb⟩ : ∃ wb, wb = w2.alloc (.cells #[.int .i64 0, .bool false, .int .i64 0, .bool false, .string ⟨#[]⟩, .int .i64 0, .string ⟨#[]⟩] 34) := ⟨_, rfl⟩
  rw [← hwb]
  have hE3 : Ext w2 wb := by rw [hwb]; exact (Ext.refl _).alloc _
  have hbx : Held wb w2.heap.size 34 #[.int .i64 0, .bool false, .int .i64 0, .bool false, .string ⟨#[]⟩, .int .i64 0, .string ⟨#[]⟩] := by rw [hwb]; exact Held.new _ _ _
  clear hwb t0 t1 t2 t3 t4 t5 t6 f0 f1 f2 f3 f4 f5 f6
  obtain ⟨f0, f1, f2, f3, f4, f5, f6⟩ := frozen7 hbx
  obtain ⟨t0, t1, t2, t3, t4, t5, t6⟩ := hbx.c7
  have lb := hbx.lt
  go_upto_region 10 with (first | (go_at_call 53; (with_reducible refine Calls.mono (read_more z43 rfl i1 (hB1.ext hE3) hm1 hm1') ?_); rintro e w' ⟨rfl, rfl⟩) | (go_at_call 53; (with_reducible refine Calls.mono (read_more z98 rfl i2 (hB2.ext ((hE3.setCell (Nat.le_refl _) _).setCell (Nat.le_refl _) _)) hm2 hm2') ?_); rintro e w' ⟨rfl, rfl⟩))
  obtain ⟨hc7, gE⟩ := four7 hbx (.int .i64 n1) (.bool d1) (.int .i64 n2) (.bool d2)
  replace gE := gE w2 hE3 (Nat.le_refl _)
  clear f0 f1 f2 f3 f4 f5 f6 t0 t1 t2 t3 t4 t5 t6
  generalize hwc : World.setCell _ _ (Value.bool d2) = wc at *
  have lc := hc7.lt
  clear hwc hbx lb hE3 wb
  go_upto_region 11 with (go_at_call 52; (with_reducible refine Calls.mono (cut_more z64 e3 (hC2.ext gE) hC2 hn2 hn2') ?_); rintro e wd ⟨B3, C3, x3, y3, rfl, hB3, hC3, hm3, hm3', hn3, hn3', h3⟩)
  have hd7 := hc7.ext h3
  have hEd := Ext.trans gE h3
  have hcv := str_of (hC3.ext hEd) y3
  obtain ⟨f0, f1, f2, f3, f4, f5, f6⟩ := frozen7 hd7
  obtain ⟨t0, t1, t2, t3, t4, t5, t6⟩ := hd7.c7
  have ld := hd7.lt
  clear h3 hc7 gE lc
  go_upto_region 12 with (fail)
  have he7 := set7_6 hd7 (.string ⟨r3.toArray⟩)
  have hEe := hEd.setCell (p := ⟨w2.heap.size, 6, none⟩) (Nat.le_refl _) (.string ⟨r3.toArray⟩)
  clear hcv t0 t1 t2 t3 t4 t5 t6 f0 f1 f2 f3 f4 f5 f6 ld hd7 hEd
  go_loopw [11] (fun v wr => ∃ (k : Nat) (A : Option Addr) (cap n : Nat), k ≤ l3.length ∧ n = l3.length - k ∧ v = .slice A n cap ∧ BsAt w2 A (l3.drop k) ∧ n ≤ cap ∧ cap ≤ maxLen ∧ (∀ i, i < k → l3.getD i 0 = 43) ∧ Held wr w2.heap.size 34 #[.int .i64 n1, .bool d1, .int .i64 n2, .bool d2, .string ⟨#[]⟩, .int .i64 k, .string ⟨r3.toArray⟩] ∧ Ext w2 wr) (fun v _ => lenV v)
  case atStart => exact ⟨0, B3, x3, l3.length, Nat.zero_le _, rfl, rfl, hB3, hm3, hm3', (fun i hi => absurd hi (by omega)), he7, hEe⟩
  case round =>
    have hL63 : l3.length ≤ 9223372036854775807 := Nat.le_trans hm3 (Nat.le_trans hm3' (by decide))
    clear he7 hEe hm3 hm3' hB3
    obtain ⟨k, A, cap, n, hk, hn, rfl, hA, hcap, hcap', hp, hr7, hEr⟩ := hrel
    obtain ⟨wo, rfl⟩ : ∃ wo : World, wo = wr := ⟨_, rfl⟩
    have l2 := hr7.lt
    have HN := Lib.hid hn
    by_cases hlt : 0 < n
    · cases A with
      | none => have hz : l3.drop k = [] := hA; rw [List.drop_eq_nil_iff] at hz; omega
      | some a =>
        obtain ⟨b, o, rfl, hb, hcell⟩ := hA
        obtain ⟨x, hxl⟩ : ∃ x, x = l3.getD k 0 := ⟨_, rfl⟩
        have hBs : BsAt w2 (some ⟨b, o, none⟩) (l3.drop k) := ⟨b, o, rfl, hb, hcell⟩
        have hck : w2.cell? ⟨b, o, none⟩ = some (.int .u8 (x.toNat : Int)) := by
          have := hcell 0 (by rw [List.length_drop]; omega)
          rw [Nat.add_zero] at this
          rw [this, hxl]; simp [List.getD_eq_getElem?_getD]
        have hcw : wo.cell? ⟨b, o, none⟩ = some (.int .u8 (x.toNat : Int)) := by rw [hEr.cell (p := ⟨b, o, none⟩) hb]; exact hck
        clear hcell hck
        by_cases hx : x = 43
        · have hp' : ∀ i, i < k + 1 → l3.getD i 0 = 43 := fun i hi => by
            by_cases h : i = k
            · subst h; rw [← hxl]; exact hx
            · exact hp i (by omega)
          have hx' : ((x.toNat : Int) == 43) = true := by rw [hx]; rfl
          have hcw' : wo.cell? ⟨b, o, none⟩ = some (.int .u8 43) := by rw [hcw, hx]; rfl
          have f5 := hr7.frozen 5
          have t5 := hr7.c7.2.2.2.2.2.1
          have hs7 := set7_5 hr7 (.int .i64 ((k + 1 : Nat) : Int))
          have hEs := hEr.setCell (p := ⟨w2.heap.size, 5, none⟩) (Nat.le_refl _) (.int .i64 ((k + 1 : Nat) : Int))
          have hBd := hBs.drop 1
          rw [List.drop_drop] at hBd
          have hk1 : k + 1 ≤ 9223372036854775807 := by omega
          clear hxl hcw hx hx' hp hn
          go_wp2
          have hn := HN.out
          have hbA : BsAt w2 (if cap = 1 then some ⟨b, o, none⟩ else some ⟨b, o + 1, none⟩) (l3.drop (k + 1)) := by
            split
            · rw [List.drop_eq_nil_of_le (by omega)]; simpa using hBs.take 0
            · exact hBd
          exact ⟨⟨k + 1, _, _, _, by omega, rfl, by rw [hn, Nat.sub_sub], hbA, by omega, by omega, hp', hs7, hEs⟩, by simp only [lenV]; omega⟩
        · have hst : Hid (k = l3.length ∨ l3.getD k 0 ≠ 43) := .inr (by rw [← hxl]; exact hx)
          have hx' : ((x.toNat : Int) == 43) = false := beq_eq_false_iff_ne.2 (fun h => hx (UInt8.toNat_inj.1 (by show x.toNat = 43; omega)))
          have hcv : (convert 114 9 (.slice (some ⟨b, o, none⟩) n cap)).run Tryd.prog wo = .ok (.string ⟨(l3.drop k).toArray⟩) wo := by
            have := str_of (hBs.ext hEr) cap
            rwa [List.length_drop, ← hn] at this
          clear hxl hx hn
          generalize (x.toNat : Int) = z at *
          by_cases hd : l3.drop k = [45]
          · have hnm : Hid ((⟨#[]⟩ : ByteArray) = if l3.drop k = [45] then ⟨#[]⟩ else ⟨(l3.drop k).toArray⟩) := by rw [if_pos hd]; rfl
            rw [hd] at hcv
            go_upto_region 17 with (fail)
            have hf7 := hr7
            have hEf := hEr
            obtain ⟨T, hT⟩ : ∃ T : Tr, T = ⟨n1, d1, n2, d2, ⟨#[]⟩, k, ⟨r3.toArray⟩⟩ := ⟨_, rfl⟩
            have HR := parse_cand h e1 e2 e3 i1 i2 hk hp hst.out hnm.out hT
            have hvT : ∀ w, Calls Tryd.prog 50 #[.agg #[.int .i64 n1, .bool d1, .int .i64 n2, .bool d2, .string ⟨#[]⟩, .int .i64 k, .string ⟨r3.toArray⟩]] w fun e w' => e = .returned (.bool T.ok) ∧ Ext w w' := by rw [hT]; exact fun w => validTrace_any _ w
            have htT : T.ok = true → ∀ w, Calls Tryd.prog 51 #[.agg #[.int .i64 n1, .bool d1, .int .i64 n2, .bool d2, .string ⟨#[]⟩, .int .i64 k, .string ⟨r3.toArray⟩]] w fun e w' => e = .returned (.string (textS T)) ∧ Ext w w' := by rw [hT]; exact fun hk w => text_any _ w (ok_bds hk)
            replace hT := Lib.hid hT
            have lf := hf7.lt
            obtain ⟨t0, t1, t2, t3, t4, t5, t6⟩ := hf7.c7
            clear hp hd hk hst hnm
            cases hok : T.ok
            · rw [hok] at hvT HR
              replace HR := Lib.hid HR
              clear htT
              go_upto_region 18 with (go_at_call 50; (with_reducible refine Calls.mono (hvT _) ?_); rintro e wg ⟨rfl, hg⟩; obtain ⟨t0, t1, t2, t3, t4, t5, t6⟩ := (hf7.ext hg).c7; have lg := (hf7.ext hg).lt)
              have hz3 := (hz2.ext hEf).ext hg
              obtain ⟨z0, z1, z2, z3, z4, z5, z6⟩ := hz3.c7
              obtain ⟨f0, f1, f2, f3, f4, f5, f6⟩ := frozen7 hz3
              go_wp2
              obtain ⟨hs, gE⟩ := seven_set hz3 (.int .i64 0) (.bool false) (.int .i64 0) (.bool false) (.string ⟨#[]⟩) (.int .i64 0) (.string ⟨#[]⟩)
              obtain ⟨q0, q1, q2, q3, q4, q5, q6⟩ := hs.c7
              refine bodyPost_ret (v := .tuple #[.agg #[.int .i64 0, .bool false, .int .i64 0, .bool false, .string ⟨#[]⟩, .int .i64 0, .string ⟨#[]⟩], .int .i64 5]) (by simp [results, Tryd.results15, go_sem, q0, q1, q2, q3, q4, q5, q6]) rfl ⟨by unfold parseV parseE; rw [HR.out]; rfl, gE w (Ext.trans hE2 (Ext.trans hEf hg)) (Nat.le_refl _)⟩
            · replace htT := htT hok
              rw [hok] at hvT HR
              by_cases hts : textS T = s
              · have hbe : ((textS T).toList == s.toList) = true := by rw [hts]; exact beq_self_eq_true _
                rw [hts] at htT HR hbe
                replace HR := Lib.hid (show parseS s = some T by rw [HR]; simp)
                clear hts hok
                go_upto_region 19 with (first | (go_at_call 50; (with_reducible refine Calls.mono (hvT _) ?_); rintro e wg ⟨rfl, hg⟩; obtain ⟨t0, t1, t2, t3, t4, t5, t6⟩ := (hf7.ext hg).c7; have lg := (hf7.ext hg).lt) | (go_at_call 51; (with_reducible refine Calls.mono (htT _) ?_); rintro e wh ⟨rfl, hh⟩; have hh7 := (hf7.ext hg).ext hh; obtain ⟨u0, u1, u2, u3, u4, u5, u6⟩ := hh7.c7; have lh := hh7.lt; have hz3 := ((hz2.ext hEf).ext hg).ext hh; obtain ⟨z0, z1, z2, z3, z4, z5, z6⟩ := hz3.c7; obtain ⟨f0, f1, f2, f3, f4, f5, f6⟩ := frozen7 hz3))
                go_wp2
                obtain ⟨hs, gE⟩ := seven_set hz3 (.int .i64 n1) (.bool d1) (.int .i64 n2) (.bool d2) (.string ⟨#[]⟩) (.int .i64 k) (.string ⟨r3.toArray⟩)
                obtain ⟨q0, q1, q2, q3, q4, q5, q6⟩ := hs.c7
                refine bodyPost_ret (v := .tuple #[.agg #[.int .i64 n1, .bool d1, .int .i64 n2, .bool d2, .string ⟨#[]⟩, .int .i64 k, .string ⟨r3.toArray⟩], .int .i64 0]) (by simp [results, Tryd.results15, go_sem, q0, q1, q2, q3, q4, q5, q6]) rfl ⟨by unfold parseV parseE; rw [HR.out, hT.out]; rfl, gE w (Ext.trans hE2 (Ext.trans (Ext.trans hEf hg) hh)) (Nat.le_refl _)⟩
              · have hbe : ((textS T).toList == s.toList) = false := by rw [Go.ByteArray.toList_eq, Go.ByteArray.toList_eq]; exact beq_eq_false_iff_ne.2 (fun e => hts (ByteArray.ext (Array.toList_inj.1 e)))
                replace HR := Lib.hid (show parseS s = none by rw [HR]; simp [hts])
                generalize textS T = tx at *
                clear hts hok hT
                go_upto_region 18 with (first | (go_at_call 50; (with_reducible refine Calls.mono (hvT _) ?_); rintro e wg ⟨rfl, hg⟩; obtain ⟨t0, t1, t2, t3, t4, t5, t6⟩ := (hf7.ext hg).c7; have lg := (hf7.ext hg).lt) | (go_at_call 51; (with_reducible refine Calls.mono (htT _) ?_); rintro e wh ⟨rfl, hh⟩; have hh7 := (hf7.ext hg).ext hh; obtain ⟨u0, u1, u2, u3, u4, u5, u6⟩ := hh7.c7; have lh := hh7.lt; have hz3 := ((hz2.ext hEf).ext hg).ext hh; obtain ⟨z0, z1, z2, z3, z4, z5, z6⟩ := hz3.c7; obtain ⟨f0, f1, f2, f3, f4, f5, f6⟩ := frozen7 hz3))
                go_wp2
                obtain ⟨hs, gE⟩ := seven_set hz3 (.int .i64 0) (.bool false) (.int .i64 0) (.bool false) (.string ⟨#[]⟩) (.int .i64 0) (.string ⟨#[]⟩)
                obtain ⟨q0, q1, q2, q3, q4, q5, q6⟩ := hs.c7
                refine bodyPost_ret (v := .tuple #[.agg #[.int .i64 0, .bool false, .int .i64 0, .bool false, .string ⟨#[]⟩, .int .i64 0, .string ⟨#[]⟩], .int .i64 5]) (by simp [results, Tryd.results15, go_sem, q0, q1, q2, q3, q4, q5, q6]) rfl ⟨by unfold parseV parseE; rw [HR.out]; rfl, gE w (Ext.trans hE2 (Ext.trans (Ext.trans hEf hg) hh)) (Nat.le_refl _)⟩
          · have hxf : ((⟨(l3.drop k).toArray⟩ : ByteArray).toList == [45]) = false := by rw [Go.ByteArray.toList_eq]; exact beq_eq_false_iff_ne.2 hd
            obtain ⟨X, hX⟩ : ∃ X : ByteArray, X = ⟨(l3.drop k).toArray⟩ := ⟨_, rfl⟩
            have hnm : Hid (X = if l3.drop k = [45] then ⟨#[]⟩ else ⟨(l3.drop k).toArray⟩) := by rw [if_neg hd]; exact hX
            rw [← hX] at hcv hxf
            clear hX
            have f4 := hr7.frozen 4
            have t4 := hr7.c7.2.2.2.2.1
            go_upto_region 17 with (fail)
            have hf7 := set7_4 hr7 (.string X)
            have hEf := hEr.setCell (p := ⟨w2.heap.size, 4, none⟩) (Nat.le_refl _) (.string X)
            clear f4 t4
            generalize World.setCell wo _ _ = wf at *
            obtain ⟨T, hT⟩ : ∃ T : Tr, T = ⟨n1, d1, n2, d2, X, k, ⟨r3.toArray⟩⟩ := ⟨_, rfl⟩
            have HR := parse_cand h e1 e2 e3 i1 i2 hk hp hst.out hnm.out hT
            have hvT : ∀ w, Calls Tryd.prog 50 #[.agg #[.int .i64 n1, .bool d1, .int .i64 n2, .bool d2, .string X, .int .i64 k, .string ⟨r3.toArray⟩]] w fun e w' => e = .returned (.bool T.ok) ∧ Ext w w' := by rw [hT]; exact fun w => validTrace_any _ w
            have htT : T.ok = true → ∀ w, Calls Tryd.prog 51 #[.agg #[.int .i64 n1, .bool d1, .int .i64 n2, .bool d2, .string X, .int .i64 k, .string ⟨r3.toArray⟩]] w fun e w' => e = .returned (.string (textS T)) ∧ Ext w w' := by rw [hT]; exact fun hk w => text_any _ w (ok_bds hk)
            replace hT := Lib.hid hT
            have lf := hf7.lt
            obtain ⟨t0, t1, t2, t3, t4, t5, t6⟩ := hf7.c7
            clear hp hd hk hst hnm
            cases hok : T.ok
            · rw [hok] at hvT HR
              replace HR := Lib.hid HR
              clear htT
              go_upto_region 18 with (go_at_call 50; (with_reducible refine Calls.mono (hvT _) ?_); rintro e wg ⟨rfl, hg⟩; obtain ⟨t0, t1, t2, t3, t4, t5, t6⟩ := (hf7.ext hg).c7; have lg := (hf7.ext hg).lt)
              have hz3 := (hz2.ext hEf).ext hg
              obtain ⟨z0, z1, z2, z3, z4, z5, z6⟩ := hz3.c7
              obtain ⟨f0, f1, f2, f3, f4, f5, f6⟩ := frozen7 hz3
              go_wp2
              obtain ⟨hs, gE⟩ := seven_set hz3 (.int .i64 0) (.bool false) (.int .i64 0) (.bool false) (.string ⟨#[]⟩) (.int .i64 0) (.string ⟨#[]⟩)
              obtain ⟨q0, q1, q2, q3, q4, q5, q6⟩ := hs.c7
              refine bodyPost_ret (v := .tuple #[.agg #[.int .i64 0, .bool false, .int .i64 0, .bool false, .string ⟨#[]⟩, .int .i64 0, .string ⟨#[]⟩], .int .i64 5]) (by simp [results, Tryd.results15, go_sem, q0, q1, q2, q3, q4, q5, q6]) rfl ⟨by unfold parseV parseE; rw [HR.out]; rfl, gE w (Ext.trans hE2 (Ext.trans hEf hg)) (Nat.le_refl _)⟩
            · replace htT := htT hok
              rw [hok] at hvT HR
              by_cases hts : textS T = s
              · have hbe : ((textS T).toList == s.toList) = true := by rw [hts]; exact beq_self_eq_true _
                rw [hts] at htT HR hbe
                replace HR := Lib.hid (show parseS s = some T by rw [HR]; simp)
                clear hts hok
                go_upto_region 19 with (first | (go_at_call 50; (with_reducible refine Calls.mono (hvT _) ?_); rintro e wg ⟨rfl, hg⟩; obtain ⟨t0, t1, t2, t3, t4, t5, t6⟩ := (hf7.ext hg).c7; have lg := (hf7.ext hg).lt) | (go_at_call 51; (with_reducible refine Calls.mono (htT _) ?_); rintro e wh ⟨rfl, hh⟩; have hh7 := (hf7.ext hg).ext hh; obtain ⟨u0, u1, u2, u3, u4, u5, u6⟩ := hh7.c7; have lh := hh7.lt; have hz3 := ((hz2.ext hEf).ext hg).ext hh; obtain ⟨z0, z1, z2, z3, z4, z5, z6⟩ := hz3.c7; obtain ⟨f0, f1, f2, f3, f4, f5, f6⟩ := frozen7 hz3))
                go_wp2
                obtain ⟨hs, gE⟩ := seven_set hz3 (.int .i64 n1) (.bool d1) (.int .i64 n2) (.bool d2) (.string X) (.int .i64 k) (.string ⟨r3.toArray⟩)
                obtain ⟨q0, q1, q2, q3, q4, q5, q6⟩ := hs.c7
                refine bodyPost_ret (v := .tuple #[.agg #[.int .i64 n1, .bool d1, .int .i64 n2, .bool d2, .string X, .int .i64 k, .string ⟨r3.toArray⟩], .int .i64 0]) (by simp [results, Tryd.results15, go_sem, q0, q1, q2, q3, q4, q5, q6]) rfl ⟨by unfold parseV parseE; rw [HR.out, hT.out]; rfl, gE w (Ext.trans hE2 (Ext.trans (Ext.trans hEf hg) hh)) (Nat.le_refl _)⟩
              · have hbe : ((textS T).toList == s.toList) = false := by rw [Go.ByteArray.toList_eq, Go.ByteArray.toList_eq]; exact beq_eq_false_iff_ne.2 (fun e => hts (ByteArray.ext (Array.toList_inj.1 e)))
                replace HR := Lib.hid (show parseS s = none by rw [HR]; simp [hts])
                generalize textS T = tx at *
                clear hts hok hT
                go_upto_region 18 with (first | (go_at_call 50; (with_reducible refine Calls.mono (hvT _) ?_); rintro e wg ⟨rfl, hg⟩; obtain ⟨t0, t1, t2, t3, t4, t5, t6⟩ := (hf7.ext hg).c7; have lg := (hf7.ext hg).lt) | (go_at_call 51; (with_reducible refine Calls.mono (htT _) ?_); rintro e wh ⟨rfl, hh⟩; have hh7 := (hf7.ext hg).ext hh; obtain ⟨u0, u1, u2, u3, u4, u5, u6⟩ := hh7.c7; have lh := hh7.lt; have hz3 := ((hz2.ext hEf).ext hg).ext hh; obtain ⟨z0, z1, z2, z3, z4, z5, z6⟩ := hz3.c7; obtain ⟨f0, f1, f2, f3, f4, f5, f6⟩ := frozen7 hz3))
                go_wp2
                obtain ⟨hs, gE⟩ := seven_set hz3 (.int .i64 0) (.bool false) (.int .i64 0) (.bool false) (.string ⟨#[]⟩) (.int .i64 0) (.string ⟨#[]⟩)
                obtain ⟨q0, q1, q2, q3, q4, q5, q6⟩ := hs.c7
                refine bodyPost_ret (v := .tuple #[.agg #[.int .i64 0, .bool false, .int .i64 0, .bool false, .string ⟨#[]⟩, .int .i64 0, .string ⟨#[]⟩], .int .i64 5]) (by simp [results, Tryd.results15, go_sem, q0, q1, q2, q3, q4, q5, q6]) rfl ⟨by unfold parseV parseE; rw [HR.out]; rfl, gE w (Ext.trans hE2 (Ext.trans (Ext.trans hEf hg) hh)) (Nat.le_refl _)⟩
    · obtain rfl : n = 0 := by omega
      have hst : Hid (k = l3.length ∨ l3.getD k 0 ≠ 43) := .inl (by omega)
      have hcv : (convert 114 9 (.slice A 0 cap)).run Tryd.prog wo = .ok (.string ⟨(l3.drop k).toArray⟩) wo := by
        have := str_of (hA.ext hEr) cap
        rwa [List.length_drop, ← hn] at this
      clear hn
      by_cases hd : l3.drop k = [45]
      · have hnm : Hid ((⟨#[]⟩ : ByteArray) = if l3.drop k = [45] then ⟨#[]⟩ else ⟨(l3.drop k).toArray⟩) := by rw [if_pos hd]; rfl
        rw [hd] at hcv
        go_upto_region 17 with (fail)
        have hf7 := hr7
        have hEf := hEr
        obtain ⟨T, hT⟩ : ∃ T : Tr, T = ⟨n1, d1, n2, d2, ⟨#[]⟩, k, ⟨r3.toArray⟩⟩ := ⟨_, rfl⟩
        have HR := parse_cand h e1 e2 e3 i1 i2 hk hp hst.out hnm.out hT
        have hvT : ∀ w, Calls Tryd.prog 50 #[.agg #[.int .i64 n1, .bool d1, .int .i64 n2, .bool d2, .string ⟨#[]⟩, .int .i64 k, .string ⟨r3.toArray⟩]] w fun e w' => e = .returned (.bool T.ok) ∧ Ext w w' := by rw [hT]; exact fun w => validTrace_any _ w
        have htT : T.ok = true → ∀ w, Calls Tryd.prog 51 #[.agg #[.int .i64 n1, .bool d1, .int .i64 n2, .bool d2, .string ⟨#[]⟩, .int .i64 k, .string ⟨r3.toArray⟩]] w fun e w' => e = .returned (.string (textS T)) ∧ Ext w w' := by rw [hT]; exact fun hk w => text_any _ w (ok_bds hk)
        replace hT := Lib.hid hT
        have lf := hf7.lt
        obtain ⟨t0, t1, t2, t3, t4, t5, t6⟩ := hf7.c7
        clear hp hd hk hst hnm
        cases hok : T.ok
        · rw [hok] at hvT HR
          replace HR := Lib.hid HR
          clear htT
          go_upto_region 18 with (go_at_call 50; (with_reducible refine Calls.mono (hvT _) ?_); rintro e wg ⟨rfl, hg⟩; obtain ⟨t0, t1, t2, t3, t4, t5, t6⟩ := (hf7.ext hg).c7; have lg := (hf7.ext hg).lt)
          have hz3 := (hz2.ext hEf).ext hg
          obtain ⟨z0, z1, z2, z3, z4, z5, z6⟩ := hz3.c7
          obtain ⟨f0, f1, f2, f3, f4, f5, f6⟩ := frozen7 hz3
          go_wp2
          obtain ⟨hs, gE⟩ := seven_set hz3 (.int .i64 0) (.bool false) (.int .i64 0) (.bool false) (.string ⟨#[]⟩) (.int .i64 0) (.string ⟨#[]⟩)
          obtain ⟨q0, q1, q2, q3, q4, q5, q6⟩ := hs.c7
          refine bodyPost_ret (v := .tuple #[.agg #[.int .i64 0, .bool false, .int .i64 0, .bool false, .string ⟨#[]⟩, .int .i64 0, .string ⟨#[]⟩], .int .i64 5]) (by simp [results, Tryd.results15, go_sem, q0, q1, q2, q3, q4, q5, q6]) rfl ⟨by unfold parseV parseE; rw [HR.out]; rfl, gE w (Ext.trans hE2 (Ext.trans hEf hg)) (Nat.le_refl _)⟩
        · replace htT := htT hok
          rw [hok] at hvT HR
          by_cases hts : textS T = s
          · have hbe : ((textS T).toList == s.toList) = true := by rw [hts]; exact beq_self_eq_true _
            rw [hts] at htT HR hbe
            replace HR := Lib.hid (show parseS s = some T by rw [HR]; simp)
            clear hts hok
            go_upto_region 19 with (first | (go_at_call 50; (with_reducible refine Calls.mono (hvT _) ?_); rintro e wg ⟨rfl, hg⟩; obtain ⟨t0, t1, t2, t3, t4, t5, t6⟩ := (hf7.ext hg).c7; have lg := (hf7.ext hg).lt) | (go_at_call 51; (with_reducible refine Calls.mono (htT _) ?_); rintro e wh ⟨rfl, hh⟩; have hh7 := (hf7.ext hg).ext hh; obtain ⟨u0, u1, u2, u3, u4, u5, u6⟩ := hh7.c7; have lh := hh7.lt; have hz3 := ((hz2.ext hEf).ext hg).ext hh; obtain ⟨z0, z1, z2, z3, z4, z5, z6⟩ := hz3.c7; obtain ⟨f0, f1, f2, f3, f4, f5, f6⟩ := frozen7 hz3))
            go_wp2
            obtain ⟨hs, gE⟩ := seven_set hz3 (.int .i64 n1) (.bool d1) (.int .i64 n2) (.bool d2) (.string ⟨#[]⟩) (.int .i64 k) (.string ⟨r3.toArray⟩)
            obtain ⟨q0, q1, q2, q3, q4, q5, q6⟩ := hs.c7
            refine bodyPost_ret (v := .tuple #[.agg #[.int .i64 n1, .bool d1, .int .i64 n2, .bool d2, .string ⟨#[]⟩, .int .i64 k, .string ⟨r3.toArray⟩], .int .i64 0]) (by simp [results, Tryd.results15, go_sem, q0, q1, q2, q3, q4, q5, q6]) rfl ⟨by unfold parseV parseE; rw [HR.out, hT.out]; rfl, gE w (Ext.trans hE2 (Ext.trans (Ext.trans hEf hg) hh)) (Nat.le_refl _)⟩
          · have hbe : ((textS T).toList == s.toList) = false := by rw [Go.ByteArray.toList_eq, Go.ByteArray.toList_eq]; exact beq_eq_false_iff_ne.2 (fun e => hts (ByteArray.ext (Array.toList_inj.1 e)))
            replace HR := Lib.hid (show parseS s = none by rw [HR]; simp [hts])
            generalize textS T = tx at *
            clear hts hok hT
            go_upto_region 18 with (first | (go_at_call 50; (with_reducible refine Calls.mono (hvT _) ?_); rintro e wg ⟨rfl, hg⟩; obtain ⟨t0, t1, t2, t3, t4, t5, t6⟩ := (hf7.ext hg).c7; have lg := (hf7.ext hg).lt) | (go_at_call 51; (with_reducible refine Calls.mono (htT _) ?_); rintro e wh ⟨rfl, hh⟩; have hh7 := (hf7.ext hg).ext hh; obtain ⟨u0, u1, u2, u3, u4, u5, u6⟩ := hh7.c7; have lh := hh7.lt; have hz3 := ((hz2.ext hEf).ext hg).ext hh; obtain ⟨z0, z1, z2, z3, z4, z5, z6⟩ := hz3.c7; obtain ⟨f0, f1, f2, f3, f4, f5, f6⟩ := frozen7 hz3))
            go_wp2
            obtain ⟨hs, gE⟩ := seven_set hz3 (.int .i64 0) (.bool false) (.int .i64 0) (.bool false) (.string ⟨#[]⟩) (.int .i64 0) (.string ⟨#[]⟩)
            obtain ⟨q0, q1, q2, q3, q4, q5, q6⟩ := hs.c7
            refine bodyPost_ret (v := .tuple #[.agg #[.int .i64 0, .bool false, .int .i64 0, .bool false, .string ⟨#[]⟩, .int .i64 0, .string ⟨#[]⟩], .int .i64 5]) (by simp [results, Tryd.results15, go_sem, q0, q1, q2, q3, q4, q5, q6]) rfl ⟨by unfold parseV parseE; rw [HR.out]; rfl, gE w (Ext.trans hE2 (Ext.trans (Ext.trans hEf hg) hh)) (Nat.le_refl _)⟩
      · have hxf : ((⟨(l3.drop k).toArray⟩ : ByteArray).toList == [45]) = false := by rw [Go.ByteArray.toList_eq]; exact beq_eq_false_iff_ne.2 hd
        obtain ⟨X, hX⟩ : ∃ X : ByteArray, X = ⟨(l3.drop k).toArray⟩ := ⟨_, rfl⟩
        have hnm : Hid (X = if l3.drop k = [45] then ⟨#[]⟩ else ⟨(l3.drop k).toArray⟩) := by rw [if_neg hd]; exact hX
        rw [← hX] at hcv hxf
        clear hX
        have f4 := hr7.frozen 4
        have t4 := hr7.c7.2.2.2.2.1
        go_upto_region 17 with (fail)
        have hf7 := set7_4 hr7 (.string X)
        have hEf := hEr.setCell (p := ⟨w2.heap.size, 4, none⟩) (Nat.le_refl _) (.string X)
        clear f4 t4
        generalize World.setCell wo _ _ = wf at *
        obtain ⟨T, hT⟩ : ∃ T : Tr, T = ⟨n1, d1, n2, d2, X, k, ⟨r3.toArray⟩⟩ := ⟨_, rfl⟩
        have HR := parse_cand h e1 e2 e3 i1 i2 hk hp hst.out hnm.out hT
        have hvT : ∀ w, Calls Tryd.prog 50 #[.agg #[.int .i64 n1, .bool d1, .int .i64 n2, .bool d2, .string X, .int .i64 k, .string ⟨r3.toArray⟩]] w fun e w' => e = .returned (.bool T.ok) ∧ Ext w w' := by rw [hT]; exact fun w => validTrace_any _ w
        have htT : T.ok = true → ∀ w, Calls Tryd.prog 51 #[.agg #[.int .i64 n1, .bool d1, .int .i64 n2, .bool d2, .string X, .int .i64 k, .string ⟨r3.toArray⟩]] w fun e w' => e = .returned (.string (textS T)) ∧ Ext w w' := by rw [hT]; exact fun hk w => text_any _ w (ok_bds hk)
        replace hT := Lib.hid hT
        have lf := hf7.lt
        obtain ⟨t0, t1, t2, t3, t4, t5, t6⟩ := hf7.c7
        clear hp hd hk hst hnm
        cases hok : T.ok
        · rw [hok] at hvT HR
          replace HR := Lib.hid HR
          clear htT
          go_upto_region 18 with (go_at_call 50; (with_reducible refine Calls.mono (hvT _) ?_); rintro e wg ⟨rfl, hg⟩; obtain ⟨t0, t1, t2, t3, t4, t5, t6⟩ := (hf7.ext hg).c7; have lg := (hf7.ext hg).lt)
          have hz3 := (hz2.ext hEf).ext hg
          obtain ⟨z0, z1, z2, z3, z4, z5, z6⟩ := hz3.c7
          obtain ⟨f0, f1, f2, f3, f4, f5, f6⟩ := frozen7 hz3
          go_wp2
          obtain ⟨hs, gE⟩ := seven_set hz3 (.int .i64 0) (.bool false) (.int .i64 0) (.bool false) (.string ⟨#[]⟩) (.int .i64 0) (.string ⟨#[]⟩)
          obtain ⟨q0, q1, q2, q3, q4, q5, q6⟩ := hs.c7
          refine bodyPost_ret (v := .tuple #[.agg #[.int .i64 0, .bool false, .int .i64 0, .bool false, .string ⟨#[]⟩, .int .i64 0, .string ⟨#[]⟩], .int .i64 5]) (by simp [results, Tryd.results15, go_sem, q0, q1, q2, q3, q4, q5, q6]) rfl ⟨by unfold parseV parseE; rw [HR.out]; rfl, gE w (Ext.trans hE2 (Ext.trans hEf hg)) (Nat.le_refl _)⟩
        · replace htT := htT hok
          rw [hok] at hvT HR
          by_cases hts : textS T = s
          · have hbe : ((textS T).toList == s.toList) = true := by rw [hts]; exact beq_self_eq_true _
            rw [hts] at htT HR hbe
            replace HR := Lib.hid (show parseS s = some T by rw [HR]; simp)
            clear hts hok
            go_upto_region 19 with (first | (go_at_call 50; (with_reducible refine Calls.mono (hvT _) ?_); rintro e wg ⟨rfl, hg⟩; obtain ⟨t0, t1, t2, t3, t4, t5, t6⟩ := (hf7.ext hg).c7; have lg := (hf7.ext hg).lt) | (go_at_call 51; (with_reducible refine Calls.mono (htT _) ?_); rintro e wh ⟨rfl, hh⟩; have hh7 := (hf7.ext hg).ext hh; obtain ⟨u0, u1, u2, u3, u4, u5, u6⟩ := hh7.c7; have lh := hh7.lt; have hz3 := ((hz2.ext hEf).ext hg).ext hh; obtain ⟨z0, z1, z2, z3, z4, z5, z6⟩ := hz3.c7; obtain ⟨f0, f1, f2, f3, f4, f5, f6⟩ := frozen7 hz3))
            go_wp2
            obtain ⟨hs, gE⟩ := seven_set hz3 (.int .i64 n1) (.bool d1) (.int .i64 n2) (.bool d2) (.string X) (.int .i64 k) (.string ⟨r3.toArray⟩)
            obtain ⟨q0, q1, q2, q3, q4, q5, q6⟩ := hs.c7
            refine bodyPost_ret (v := .tuple #[.agg #[.int .i64 n1, .bool d1, .int .i64 n2, .bool d2, .string X, .int .i64 k, .string ⟨r3.toArray⟩], .int .i64 0]) (by simp [results, Tryd.results15, go_sem, q0, q1, q2, q3, q4, q5, q6]) rfl ⟨by unfold parseV parseE; rw [HR.out, hT.out]; rfl, gE w (Ext.trans hE2 (Ext.trans (Ext.trans hEf hg) hh)) (Nat.le_refl _)⟩
          · have hbe : ((textS T).toList == s.toList) = false := by rw [Go.ByteArray.toList_eq, Go.ByteArray.toList_eq]; exact beq_eq_false_iff_ne.2 (fun e => hts (ByteArray.ext (Array.toList_inj.1 e)))
            replace HR := Lib.hid (show parseS s = none by rw [HR]; simp [hts])
            generalize textS T = tx at *
            clear hts hok hT
            go_upto_region 18 with (first | (go_at_call 50; (with_reducible refine Calls.mono (hvT _) ?_); rintro e wg ⟨rfl, hg⟩; obtain ⟨t0, t1, t2, t3, t4, t5, t6⟩ := (hf7.ext hg).c7; have lg := (hf7.ext hg).lt) | (go_at_call 51; (with_reducible refine Calls.mono (htT _) ?_); rintro e wh ⟨rfl, hh⟩; have hh7 := (hf7.ext hg).ext hh; obtain ⟨u0, u1, u2, u3, u4, u5, u6⟩ := hh7.c7; have lh := hh7.lt; have hz3 := ((hz2.ext hEf).ext hg).ext hh; obtain ⟨z0, z1, z2, z3, z4, z5, z6⟩ := hz3.c7; obtain ⟨f0, f1, f2, f3, f4, f5, f6⟩ := frozen7 hz3))
            go_wp2
            obtain ⟨hs, gE⟩ := seven_set hz3 (.int .i64 0) (.bool false) (.int .i64 0) (.bool false) (.string ⟨#[]⟩) (.int .i64 0) (.string ⟨#[]⟩)
            obtain ⟨q0, q1, q2, q3, q4, q5, q6⟩ := hs.c7
            refine bodyPost_ret (v := .tuple #[.agg #[.int .i64 0, .bool false, .int .i64 0, .bool false, .string ⟨#[]⟩, .int .i64 0, .string ⟨#[]⟩], .int .i64 5]) (by simp [results, Tryd.results15, go_sem, q0, q1, q2, q3, q4, q5, q6]) rfl ⟨by unfold parseV parseE; rw [HR.out]; rfl, gE w (Ext.trans hE2 (Ext.trans (Ext.trans hEf hg) hh)) (Nat.le_refl _)⟩
theorem parse_long (s : ByteArray) (w : World) (h : 65536 < s.size) (h63 : s.size ≤ 9223372036854775807) :
    Calls Tryd.prog 15 #[.string s] w fun e w' => e = .returned (.tuple #[zTr.val, .int .i64 5]) ∧ Ext w w' := by
  go_enter Tryd.func15, Tryd.ntmps15
  go_wp2
  refine bodyPost_ret (v := .tuple #[zTr.val, .int .i64 5]) (by simp [results, Tryd.results15, go_sem, zTr, Tr.val]) rfl ⟨rfl, (by repeat (first | exact Ext.refl _ | (refine Ext.alloc ?_ _) | (refine Ext.trans ?_ (by assumption))))⟩
theorem parseX_any (s : ByteArray) (w : World) (h63 : s.size ≤ 9223372036854775807) :
    Calls Tryd.prog 15 #[.string s] w fun e w' => e = .returned (.tuple #[(parseV s).val, .int .i64 (parseE s)]) ∧ Ext w w' := by
  by_cases h : 65536 < s.size
  · have hn : parseS s = none := if_pos h
    have := parse_long s w h h63
    unfold parseV parseE
    rw [hn]
    exact this
  · have h : s.size ≤ 65536 := by omega
    obtain ⟨⟨l1, r1, b1⟩, e1⟩ : ∃ x, cutL s.data.toList 47 = x := ⟨_, rfl⟩
    obtain ⟨⟨l2, r2, b2⟩, e2⟩ : ∃ x, cutL r1 47 = x := ⟨_, rfl⟩
    cases hb : (b1 && b2)
    · have hn : parseS s = none := by
        unfold parseS candL
        simp only [e1, e2, hb]
        rw [if_neg (by omega)]
        rfl
      have := parse_no s w h e1 e2 hb
      unfold parseV parseE
      rw [hn]
      exact this
    · rw [Bool.and_eq_true] at hb
      obtain ⟨rfl, rfl⟩ := hb
      obtain ⟨⟨l3, r3, b3⟩, e3⟩ : ∃ x, cutL r2 64 = x := ⟨_, rfl⟩
      obtain ⟨⟨n1, d1⟩, i1⟩ : ∃ x, readL l1 43 = x := ⟨_, rfl⟩
      obtain ⟨⟨n2, d2⟩, i2⟩ : ∃ x, readL l2 98 = x := ⟨_, rfl⟩
      exact parse_yes s w h e1 e2 e3 i1 i2
end Go.Proofs.YthmjpbafbohelaaDoor

namespace Go.Proofs.YthmjpbafbohelaaDoor
open Go Go.RowKit

def sWall : ByteArray := ⟨#[119, 97, 108, 108]⟩
def sCanal : ByteArray := ⟨#[99, 97, 110, 97, 108]⟩
def sUr : ByteArray := ⟨#[117, 114]⟩
def sSi : ByteArray := ⟨#[115, 105]⟩
def exYr : Nat → Yr
  | 0 => ⟨0, sWall, 4095, 0⟩
  | 1 => ⟨0, sCanal, 0, 6⟩
  | _ => ⟨1, sWall, 4095, 0⟩
def exKg : Nat → ByteArray
  | 0 => sUr
  | _ => sSi
def exCal : Cal := ⟨2, exKg, 3, exYr⟩
theorem ex_chk : exCal.chk = 0 := by kernel_rfl
theorem ex_num : exCal.numV ⟨1, 6, true, 1⟩ = 535 := by kernel_rfl
theorem ex_numE : exCal.inE ⟨1, 6, true, 1⟩ = 0 := by kernel_rfl
theorem ex_at : exCal.atV 1097 = ⟨2, 12, false, 30⟩ := by kernel_rfl
theorem ex_atE : exCal.atE 1097 = 0 := by kernel_rfl
theorem ex_atE2 : exCal.atE 1098 = 8 := by kernel_rfl
theorem ex_sch : exCal.schV ⟨0, 12, false, 30⟩ ⟨1, 2, false, 1⟩ = 31 := by kernel_rfl
theorem ex_bet : exCal.betV ⟨0, 12, false, 30⟩ ⟨1, 2, false, 1⟩ = 30 := by kernel_rfl
theorem ex_in2 : exCal.in2E ⟨0, 12, false, 30⟩ ⟨1, 2, false, 1⟩ = 0 := by kernel_rfl
def t1 : ByteArray := ⟨#[49, 50, 43, 47, 45, 47, 43, 119, 97, 108, 108, 64, 117, 114]⟩
def t2 : ByteArray := ⟨#[48, 49, 47, 49, 47, 45]⟩
def t3 : ByteArray := ⟨#[50, 57, 43, 47, 49, 47, 45]⟩
def t4 : ByteArray := ⟨#[45, 47, 49, 50, 47, 119, 97, 108, 108]⟩
def t5 : ByteArray := ⟨#[45, 47, 45, 47, 99, 97, 110, 97, 108]⟩
def t6 : ByteArray := ⟨#[49, 47, 49, 47, 45]⟩
def t7 : ByteArray := ⟨#[45, 47, 45, 47, 119, 97, 108, 108, 64, 117, 114]⟩
def noS : ByteArray := ⟨#[]⟩
theorem ex_p1 : parseS t1 = some ⟨12, true, 0, false, sWall, 1, sUr⟩ := by kernel_rfl
theorem ex_p2 : parseS t2 = none := by kernel_rfl
theorem ex_p3 : parseS t3 = some ⟨29, true, 1, false, noS, 0, noS⟩ := by kernel_rfl
theorem ex_p4 : parseS t4 = some ⟨0, false, 12, false, sWall, 0, noS⟩ := by kernel_rfl
theorem ex_p5 : parseS t5 = some ⟨0, false, 0, false, sCanal, 0, noS⟩ := by kernel_rfl
theorem ex_p6 : parseS t6 = some ⟨1, false, 1, false, noS, 0, noS⟩ := by kernel_rfl
theorem ex_p7 : parseS t7 = some ⟨0, false, 0, false, sWall, 0, sUr⟩ := by kernel_rfl
theorem ex_sp : exCal.spV ⟨29, true, 1, false, noS, 0, noS⟩ = [⟨29, 30⟩, ⟨389, 389⟩, ⟨766, 767⟩] := by kernel_rfl
theorem ex_spE : exCal.spE ⟨29, true, 1, false, noS, 0, noS⟩ = 0 := by kernel_rfl
def serA : Nat → Tr
  | 0 => ⟨0, false, 12, false, sWall, 0, noS⟩
  | 1 => ⟨0, false, 0, false, sCanal, 0, noS⟩
  | _ => ⟨1, false, 1, false, noS, 0, noS⟩
def serB : Nat → Tr
  | 0 => ⟨0, false, 0, false, sCanal, 0, noS⟩
  | _ => ⟨0, false, 0, false, sWall, 0, sUr⟩
theorem ex_ser : exCal.serV serA 3 = [⟨331, 360⟩, ⟨361, 737⟩, ⟨361, 738⟩] := by kernel_rfl
theorem ex_serE : exCal.serE serA 3 = 0 := by kernel_rfl
theorem ex_serB : exCal.serE serB 2 = 73 := by kernel_rfl
end Go.Proofs.YthmjpbafbohelaaDoor

namespace Go.Proofs.YthmjpbafbohelaaDoor
open Go Go.RowKit
attribute [local go_sem] gv_yes

theorem parseE_cases (s : ByteArray) : parseE s = 0 ∨ (parseE s = 5 ∧ parseV s = zTr) := by
  unfold parseE parseV
  cases parseS s <;> simp
set_option maxHeartbeats 1000000 in
theorem lread_any (s : ByteArray) (T : Tr) (w : World) (h63 : s.size ≤ 9223372036854775807) (hT : parseV s = T) :
    Calls Tryd.prog 45 #[.string s] w fun e w' => e = .returned (.agg #[.int .i64 T.d, .bool T.more, .int .i64 T.m, .bool T.s, .string T.nm, .int .i64 T.af, .string T.kg]) ∧ Ext w w' := by
  have hp := fun w => parseX_any s w h63
  rw [hT] at hp
  rcases parseE_cases s with hE | ⟨hE, hV⟩
  · rw [hE] at hp
    replace hp : ∀ w, Calls Tryd.prog 15 #[.string s] w fun e w' => e = .returned (.tuple #[.agg #[.int .i64 T.d, .bool T.more, .int .i64 T.m, .bool T.s, .string T.nm, .int .i64 T.af, .string T.kg], .int .i64 0]) ∧ Ext w w' := hp
    clear hT hE
    go_enter Tryd.func45, Tryd.ntmps45
    go_wp2_with (go_at_call 15; (with_reducible refine Calls.mono (hp _) ?_); rintro e wq ⟨rfl, hq⟩; have hz := ((Held.new w 34 #[.int .i64 0, .bool false, .int .i64 0, .bool false, .string ⟨#[]⟩, .int .i64 0, .string ⟨#[]⟩]).ext hq); obtain ⟨z0, z1, z2, z3, z4, z5, z6⟩ := hz.c7; obtain ⟨f0, f1, f2, f3, f4, f5, f6⟩ := frozen7 hz; have lz := hz.lt)
    obtain ⟨hs, gE⟩ := seven_set hz (.int .i64 T.d) (.bool T.more) (.int .i64 T.m) (.bool T.s) (.string T.nm) (.int .i64 T.af) (.string T.kg)
    obtain ⟨q0, q1, q2, q3, q4, q5, q6⟩ := (hs.alloc (.cells #[.int .i64 T.d, .bool T.more, .int .i64 T.m, .bool T.s, .string T.nm, .int .i64 T.af, .string T.kg] 34)).c7
    refine bodyPost_ret (v := .agg #[.int .i64 T.d, .bool T.more, .int .i64 T.m, .bool T.s, .string T.nm, .int .i64 T.af, .string T.kg]) (by simp [results, Tryd.results45, go_sem, q0, q1, q2, q3, q4, q5, q6]) rfl ⟨rfl, (gE w (by repeat (first | exact Ext.refl _ | (refine Ext.alloc ?_ _) | (refine Ext.trans ?_ (by assumption)))) (Nat.le_refl _)).alloc _⟩
  · rw [hE] at hp
    rw [hT] at hV
    subst hV
    replace hp : ∀ w, Calls Tryd.prog 15 #[.string s] w fun e w' => e = .returned (.tuple #[.agg #[.int .i64 0, .bool false, .int .i64 0, .bool false, .string ⟨#[]⟩, .int .i64 0, .string ⟨#[]⟩], .int .i64 5]) ∧ Ext w w' := hp
    show Calls Tryd.prog 45 #[.string s] w fun e w' => e = .returned (.agg #[.int .i64 0, .bool false, .int .i64 0, .bool false, .string ⟨#[]⟩, .int .i64 0, .string ⟨#[]⟩]) ∧ Ext w w'
    clear hT hE
    go_enter Tryd.func45, Tryd.ntmps45
    go_wp2_with (go_at_call 15; (with_reducible refine Calls.mono (hp _) ?_); rintro e wq ⟨rfl, hq⟩; have hz := ((Held.new w 34 #[.int .i64 0, .bool false, .int .i64 0, .bool false, .string ⟨#[]⟩, .int .i64 0, .string ⟨#[]⟩]).ext hq); obtain ⟨z0, z1, z2, z3, z4, z5, z6⟩ := hz.c7; obtain ⟨f0, f1, f2, f3, f4, f5, f6⟩ := frozen7 hz; have lz := hz.lt)
    obtain ⟨hs, gE⟩ := seven_set hz (.int .i64 0) (.bool false) (.int .i64 0) (.bool false) (.string ⟨#[]⟩) (.int .i64 0) (.string ⟨#[]⟩)
    obtain ⟨q0, q1, q2, q3, q4, q5, q6⟩ := (hs.alloc (.cells #[.int .i64 0, .bool false, .int .i64 0, .bool false, .string ⟨#[]⟩, .int .i64 0, .string ⟨#[]⟩] 34)).c7
    refine bodyPost_ret (v := .agg #[.int .i64 0, .bool false, .int .i64 0, .bool false, .string ⟨#[]⟩, .int .i64 0, .string ⟨#[]⟩]) (by simp [results, Tryd.results45, go_sem, q0, q1, q2, q3, q4, q5, q6]) rfl ⟨rfl, (gE w (by repeat (first | exact Ext.refl _ | (refine Ext.alloc ?_ _) | (refine Ext.trans ?_ (by assumption)))) (Nat.le_refl _)).alloc _⟩
theorem rows_held {w : World} {b : Nat} {t : TypeId} {cs : Array Value} {n sz : Nat} {f : Nat → List Value} (h : Held w b t cs) (hf : ∀ i j v, i < n → (f i)[j]? = some v → cs[i * sz + j]? = some v) : RowsAt w (some ⟨b, 0, none⟩) n sz f :=
  fun _ => ⟨b, 0, rfl, h.lt, fun i j v hi hv => by rw [Nat.zero_add, h.cell]; exact hf i j v hi hv⟩
theorem example_any (w : World) : Calls Tryd.prog 36 #[] w fun e w' => ∃ A A' ca cb, e = .returned (.agg #[.slice A 2 ca, .slice A' 3 cb]) ∧ Ext w w' ∧ CalAt w' A ca A' cb exCal := by
  go_enter Tryd.func36, Tryd.ntmps36
  go_wp2
  refine bodyPost_ret (v := .agg #[.slice (some ⟨w.heap.size + 1, 0, none⟩) 2 2, .slice (some ⟨w.heap.size + 1 + 1, 0, none⟩) 3 3]) (by simp [results, Tryd.results36, go_sem]) rfl ⟨_, _, _, _, rfl, (by repeat (first | exact Ext.refl _ | (refine Ext.alloc ?_ _) | (refine Ext.trans ?_ (by assumption)))), ⟨?_, ?_, by decide, by decide, by decide, by decide⟩⟩
  · refine rows_held (t := 9) (cs := #[.string sUr, .string sSi]) (by repeat (first | (refine Held.at _ _ _ _ ?_; (simp; done)) | refine Held.alloc ?_ _)) ?_
    intro i j v hi hv
    have hi : i < 2 := hi
    have hj : j < 1 := (List.getElem?_eq_some_iff.1 hv).1
    rw [← hv]
    have : i = 0 ∨ i = 1 := by omega
    obtain rfl : j = 0 := by omega
    rcases this with rfl | rfl <;> rfl
  · refine rows_held (t := 110) (cs := #[.int .i64 0, .string sWall, .int .i64 4095, .int .i64 0, .int .i64 0, .string sCanal, .int .i64 0, .int .i64 6, .int .i64 1, .string sWall, .int .i64 4095, .int .i64 0]) (by repeat (first | (refine Held.at _ _ _ _ ?_; (simp; done)) | refine Held.alloc ?_ _)) ?_
    intro i j v hi hv
    have hi : i < 3 := hi
    have hj : j < 4 := (List.getElem?_eq_some_iff.1 hv).1
    rw [← hv]
    have h1 : i = 0 ∨ i = 1 ∨ i = 2 := by omega
    have h2 : j = 0 ∨ j = 1 ∨ j = 2 ∨ j = 3 := by omega
    rcases h1 with rfl | rfl | rfl <;> rcases h2 with rfl | rfl | rfl | rfl <;> rfl
end Go.Proofs.YthmjpbafbohelaaDoor

namespace Go.Proofs.YthmjpbafbohelaaDoor
open Go Go.RowKit
attribute [local go_sem] gv_yes
attribute [local go_sem high] neq_span

def zSp : Sp := ⟨0, 0⟩
theorem sp_same {l m : List Sp} {k : Nat} (h : l.length = m.length) (hk : l.length ≤ k) (hp : ∀ i, i < k → l.getD i zSp = m.getD i zSp) : l = m := by
  apply List.ext_getElem h
  intro i h1 h2
  have := hp i (by omega)
  simpa [List.getD_eq_getElem?_getD, h1, h2] using this
theorem span_get {w : World} {A : Option Addr} {l : List Sp} (h : RowsAt w A l.length 2 (fun i => (l.getD i ⟨0, 0⟩).cells)) {k : Nat} (hk : k < l.length) :
    ∃ b o, A = some ⟨b, o, none⟩ ∧ b < w.heap.size ∧ w.cell? ⟨b, o + k * 2, none⟩ = some (.int .i64 (l.getD k zSp).a) ∧ w.cell? ⟨b, o + k * 2 + 1, none⟩ = some (.int .i64 (l.getD k zSp).b) := by
  obtain ⟨b, o, hA, hb, hc⟩ := h (by omega)
  exact ⟨b, o, hA, hb, hc k 0 _ hk rfl, hc k 1 _ hk rfl⟩
set_option maxHeartbeats 1000000 in
theorem same_any (v v' : Value) (l m : List Sp) (w : World) (h1 : SpansAt w v l) (h2 : SpansAt w v' m) :
    Calls Tryd.prog 47 #[v, v'] w fun e w' => e = .returned (.bool (decide (l = m))) ∧ Ext w w' := by
  obtain ⟨A, ca, rfl, hA, hca, hca'⟩ := h1
  obtain ⟨B, cb, rfl, hB, hcb, hcb'⟩ := h2
  by_cases hn : l.length = m.length
  · have H := Lib.hid hn
    generalize hnl : l.length = n at hca hA
    have hnm : m.length = n := by omega
    rw [hnm] at hcb hB
    rw [hnm]
    have HL := Lib.hid hnl
    have HM := Lib.hid hnm
    have h63 : n ≤ 9223372036854775807 := Nat.le_trans hca (Nat.le_trans hca' (by decide))
    clear hn hnl hnm
    go_enter Tryd.func47, Tryd.ntmps47
    go_wp2
    go_loopw [5] (fun i wr => ∃ k : Nat, k ≤ n ∧ i = .int .i64 k ∧ (∀ i, i < k → l.getD i zSp = m.getD i zSp) ∧ Ext w wr) (fun i _ => n - (intOf i).toNat)
    case atStart => exact ⟨0, Nat.zero_le _, rfl, (fun i hi => absurd hi (by omega)), Ext.refl _⟩
    case round =>
      obtain ⟨k, hk, rfl, hp, hE⟩ := hrel
      obtain ⟨wo, rfl⟩ : ∃ wo : World, wo = wr := ⟨_, rfl⟩
      obtain ⟨hcwo, hfwo, hzwo⟩ := Ext.rules hE
      try simp only [World.size_alloc] at hzwo
      obtain ⟨hcbwo, hfbwo, hzbwo⟩ := Ext.rules (show Ext w wo from (by repeat (first | exact Ext.refl _ | (refine Ext.alloc ?_ _) | (refine Ext.trans ?_ (by assumption)))))
      clear hcwo hfwo
      by_cases hlt : k < n
      · obtain ⟨b, o, rfl, hb, c0, c1⟩ := span_get (l := l) (by rw [HL.out]; exact hA) (k := k) (by rw [HL.out]; exact hlt)
        obtain ⟨b', o', rfl, hb', d0, d1⟩ := span_get (l := m) (by rw [HM.out]; exact hB) (k := k) (by rw [HM.out]; exact hlt)
        obtain ⟨x, hx⟩ : ∃ x, x = l.getD k zSp := ⟨_, rfl⟩
        obtain ⟨y, hy⟩ : ∃ y, y = m.getD k zSp := ⟨_, rfl⟩
        rw [← hx] at c0 c1
        rw [← hy] at d0 d1
        by_cases hxy : x = y
        · have hp' : ∀ i, i < k + 1 → l.getD i zSp = m.getD i zSp := fun i hi => by
            by_cases h : i = k
            · subst h; rw [← hx, ← hy]; exact hxy
            · exact hp i (by omega)
          subst hxy
          clear hx hy hp
          go_upto_region 6 with (fail)
          refine wp_region_xw w mixed (by kernel_rfl) (by repeat (first | exact Ext.refl _ | (refine Ext.alloc ?_ _) | (refine Ext.trans ?_ (by assumption)))) ?_
          intro hne hrx hry
          try simp only []
          try simp only [List.append_eq, List.cons_append, List.nil_append]
          skip
          repeat (first
            | go_big_quiet_skip
            | (go_big_quiet_want; go_big_quiet_op; go_big_quiet_on))
          clear hne hry hrx
          refine wpQuiet_nil ?_
          intro wn hwn
          obtain ⟨hcwn, hfwn, hzwn⟩ := Ext.rules hwn
          try simp only [World.size_alloc] at hzwn
          obtain ⟨hcbwn, hfbwn, hzbwn⟩ := Ext.rules (show Ext w wn from (by repeat (first | exact Ext.refl _ | (refine Ext.alloc ?_ _) | (refine Ext.trans ?_ (by assumption)))))
          clear hcwn hfwn
          go_wp2
          exact ⟨⟨k + 1, by omega, by go_num, hp', (by repeat (first | exact Ext.refl _ | (refine Ext.alloc ?_ _) | (refine Ext.trans ?_ (by assumption))))⟩, by simp [intOf]; omega⟩
        · have hR : Hid (l ≠ m) := fun e => hxy (by rw [hx, hy, e])
          have h : (x.a == y.a) = false ∨ ((x.a == y.a) = true ∧ (x.b == y.b) = false) := by
            obtain ⟨xa, xb⟩ := x
            obtain ⟨ya, yb⟩ := y
            simp only [Sp.mk.injEq] at hxy
            simp only [beq_iff_eq, beq_eq_false_iff_ne]
            by_cases h : xa = ya
            · exact .inr ⟨h, fun e => hxy ⟨h, e⟩⟩
            · exact .inl h
          clear hxy hx hy hp
          rcases h with h1 | ⟨h1, h2⟩
          · go_upto_region 6 with (fail)
            refine wp_region_xw w mixed (by kernel_rfl) (by repeat (first | exact Ext.refl _ | (refine Ext.alloc ?_ _) | (refine Ext.trans ?_ (by assumption)))) ?_
            intro hne hrx hry
            try simp only []
            try simp only [List.append_eq, List.cons_append, List.nil_append]
            skip
            repeat (first
              | go_big_quiet_skip
              | (go_big_quiet_want; go_big_quiet_op; go_big_quiet_on))
            clear hne hry hrx
            refine wpQuiet_nil ?_
            intro wn hwn
            obtain ⟨hcwn, hfwn, hzwn⟩ := Ext.rules hwn
            try simp only [World.size_alloc] at hzwn
            obtain ⟨hcbwn, hfbwn, hzbwn⟩ := Ext.rules (show Ext w wn from (by repeat (first | exact Ext.refl _ | (refine Ext.alloc ?_ _) | (refine Ext.trans ?_ (by assumption)))))
            clear hcwn hfwn
            go_wp2
            go_ret
            exact ⟨by rw [decide_eq_false hR.out]; rfl, (by repeat (first | exact Ext.refl _ | (refine Ext.alloc ?_ _) | (refine Ext.trans ?_ (by assumption))))⟩
          · go_upto_region 6 with (fail)
            refine wp_region_xw w mixed (by kernel_rfl) (by repeat (first | exact Ext.refl _ | (refine Ext.alloc ?_ _) | (refine Ext.trans ?_ (by assumption)))) ?_
            intro hne hrx hry
            try simp only []
            try simp only [List.append_eq, List.cons_append, List.nil_append]
            skip
            repeat (first
              | go_big_quiet_skip
              | (go_big_quiet_want; go_big_quiet_op; go_big_quiet_on))
            clear hne hry hrx
            refine wpQuiet_nil ?_
            intro wn hwn
            obtain ⟨hcwn, hfwn, hzwn⟩ := Ext.rules hwn
            try simp only [World.size_alloc] at hzwn
            obtain ⟨hcbwn, hfbwn, hzbwn⟩ := Ext.rules (show Ext w wn from (by repeat (first | exact Ext.refl _ | (refine Ext.alloc ?_ _) | (refine Ext.trans ?_ (by assumption)))))
            clear hcwn hfwn
            go_wp2
            go_ret
            exact ⟨by rw [decide_eq_false hR.out]; rfl, (by repeat (first | exact Ext.refl _ | (refine Ext.alloc ?_ _) | (refine Ext.trans ?_ (by assumption))))⟩
      · have hR : Hid (l = m) := sp_same H.out (k := k) (by have := HL.out; omega) hp
        go_wp2
        go_ret
        exact ⟨by rw [decide_eq_true hR.out]; rfl, (by repeat (first | exact Ext.refl _ | (refine Ext.alloc ?_ _) | (refine Ext.trans ?_ (by assumption))))⟩
  · have hR : Hid (l ≠ m) := fun e => hn (by rw [e])
    have hne : ((l.length : Int) == (m.length : Int)) = false := beq_eq_false_iff_ne.2 (by omega)
    clear hn
    go_enter Tryd.func47, Tryd.ntmps47
    go_wp2
    go_ret
    exact ⟨by rw [decide_eq_false hR.out]; rfl, (by repeat (first | exact Ext.refl _ | (refine Ext.alloc ?_ _) | (refine Ext.trans ?_ (by assumption))))⟩
end Go.Proofs.YthmjpbafbohelaaDoor

namespace Go.Proofs.YthmjpbafbohelaaDoor
open Go Go.RowKit

/-- A post-condition with another one for the way on. -/
def midQ (Q : Exit → Act → World → Prop) (R : Act → World → Prop) : Exit → Act → World → Prop
  | .normal, a, w => R a w
  | e, a, w => Q e a w
section
variable {P : Program} {ops : Array Oper} {md : Region.Mode} {C : World → Prop}
theorem midQ_other {Q : Exit → Act → World → Prop} {R : Act → World → Prop} {e : Exit} {a : Act} {w : World} (he : e ≠ .normal) (h : midQ Q R e a w) : Q e a w := by
  cases e <;> first | exact absurd rfl he | exact h
theorem wp_monoQ {Q Q' : Exit → Act → World → Prop} (hQ : ∀ e a w, e ≠ .normal → Q e a w → Q' e a w) {o : Oper} {a : Act} {w : World} {K K' : Act → World → Prop} (h : ∀ a w, K a w → K' a w)
    (hh : o.wp P a w K Q) : o.wp P a w K' Q' := by
  have hL : LetsOut Q → LetsOut Q' := fun ⟨a, w, h⟩ => ⟨a, w, hQ _ _ _ (by simp) h⟩
  unfold Oper.wp at *
  generalize (execOp a.eval o).run P w = r at *
  cases r with
  | ok n w' =>
    cases n <;> simp only [Oper.upon] at hh ⊢ <;>
      first
        | exact h _ _ hh
        | exact Calls.mono hh (fun e w'' he => by cases e <;> first | exact h _ _ he | exact hL he | exact hQ _ _ _ (by simp) he)
        | exact Rows.mono hh (fun _ _ he => h _ _ he)
        | exact hh
  | halt x w' => cases x <;> simp only [Oper.upon] at hh ⊢ <;> first | exact hQ _ _ _ (by simp) hh | exact hh
def seqLex (md : Region.Mode) (ops : Array Oper) (r : Nat) : Nat → Nat → Array Bool → Bool
  | 0, k, L => Region.lexFrom md ops r k L
  | m + 1, k, L => decide (Region.ready md ops L = [k]) && seqLex md ops r m (k + 1) (L.setIfInBounds k true)
def lexHd (md : Region.Mode) (ops : Array Oper) (F : Array Bool → Bool) : Nat → Nat → Array Bool → Bool
  | 0, _, L => F L
  | f + 1, k, L => (Region.ready md ops L).contains k && Region.free md ops L k && lexHd md ops F f (k + 1) (L.setIfInBounds k true)
def chain2 (md : Region.Mode) (ops : Array Oper) (n : Nat) : Bool :=
  (List.range ops.size).all fun t => decide (t ≤ n) || (List.range t).any fun s => decide (n ≤ s) && Region.waitsFor md ops t s
theorem tail_waits2 {n : Nat} {listed : Array Bool} (hs : Region.sinkB md ops n = true) (hc : chain2 md ops n = true) (inv : HeadInv md ops n listed) :
    ∀ (d i : Nat), n - i = d → i < n → listed.getD i true = false → ∀ t, n ≤ t → t ∉ Region.ready md ops listed := by
  intro d
  induction d using Nat.strongRecOn with
  | _ d ih =>
    intro i hd hi hun t ht hr
    obtain ⟨_, ot, hot, hall⟩ := mem_ready.1 hr
    have htlt : t < ops.size := (Array.getElem?_eq_some_iff.1 hot).1
    by_cases htn : t = n
    · subst htn
      have h1 := List.all_eq_true.1 hs i (List.mem_range.2 hi)
      obtain ⟨j, hj, hj2⟩ := List.any_eq_true.1 h1
      simp only [Bool.and_eq_true, decide_eq_true_eq] at hj2
      obtain ⟨oj, hoj, e, he, hb, hon⟩ := Region.waitsFor_spec hj2.2
      have hjle : j ≤ t := by have := List.mem_range.1 hj; omega
      by_cases hjt : j = t
      · subst hjt
        have : oj = ot := Option.some.inj (hoj.symm.trans hot)
        subst this
        have h2 := hall e he hb
        rw [hon, getD_both hun] at h2
        cases h2
      · cases hl : listed.getD j false with
        | true =>
          have h2 := inv.closed j oj hoj hl e he hb
          rw [hon, getD_both hun] at h2
          cases h2
        | false =>
          have hjlt : j < listed.size := by rw [inv.size]; omega
          exact ih (t - j) (by omega) j rfl (by omega) (getD_in hjlt hl) t (Nat.le_refl _) hr
    · have h1 := List.all_eq_true.1 hc t (List.mem_range.2 htlt)
      simp only [Bool.or_eq_true, decide_eq_true_eq] at h1
      rcases h1 with h1 | h1
      · omega
      · obtain ⟨s, hs1, hs2⟩ := List.any_eq_true.1 h1
        simp only [Bool.and_eq_true, decide_eq_true_eq] at hs2
        obtain ⟨o2, ho2, e, he, hb, hon⟩ := Region.waitsFor_spec hs2.2
        have : o2 = ot := Option.some.inj (ho2.symm.trans hot)
        subst this
        have h2 := hall e he hb
        have hst := List.mem_range.1 hs1
        rw [hon, getD_both (inv.tail s hs2.1 (by omega))] at h2
        cases h2
theorem headAny_first2 {n i : Nat} {oi : Oper} {v : Value} {L : Array Bool → Act → Prop} (hi : ops[i]? = some oi) (hsel : ∀ (j : Nat) (o : Oper) cs b, ops[j]? = some o → o.op ≠ .select cs b)
    (hs : Region.sinkB md ops n = true) (hc : chain2 md ops n = true) (hin : i < n) (hdone : ∀ listed a, L listed a → ∀ j ∈ Region.ready md ops listed, n ≤ j) :
    ∀ (f : Nat) (listed : Array Bool) (a : Act), HeadInv md ops n listed →
      (∀ j oj, ops[j]? = some oj → j ≠ i → listed.getD j true = false → (∀ e ∈ oj.after, Region.binds md e = true → e.on ≠ i) → oi.apart ops oj = true) →
      i ∈ Region.ready md ops listed → YieldsIn P ops C oi v a →
      headAny P md ops C n L f (listed.setIfInBounds i true) (a.put oi.dst v) → headAny P md ops C n L (f + 1) listed a := by
  intro f
  induction f with
  | zero =>
    intro listed a inv _ hr hy H
    refine ⟨List.ne_nil_of_mem hr, fun j hj => ?_⟩
    have hjn : j < n := Nat.lt_of_not_le fun h => tail_waits2 hs hc inv _ i rfl hin (mem_ready.1 hr).1 j h hj
    refine ⟨hjn, ?_⟩
    by_cases hji : j = i
    · subst hji; exact hy.qOp hi H
    · exact absurd (hdone _ _ H j (ready_mono hj hji)) (by omega)
  | succ f ih =>
    intro listed a inv hfree hr hy H
    refine ⟨List.ne_nil_of_mem hr, fun j hj => ?_⟩
    have hjn : j < n := Nat.lt_of_not_le fun h => tail_waits2 hs hc inv _ i rfl hin (mem_ready.1 hr).1 j h hj
    refine ⟨hjn, ?_⟩
    by_cases hji : j = i
    · subst hji; exact hy.qOp hi H
    · obtain ⟨hjun, oj, hoj, hall⟩ := mem_ready.1 hj
      have hnot : ∀ e ∈ oj.after, Region.binds md e = true → e.on ≠ i := fun e he hb heq => by
        have h1 := hall e he hb
        rw [heq, getD_both (mem_ready.1 hr).1] at h1
        cases h1
      have h2 := qOp_put hoj (hfree j oj hoj hji hjun hnot) (fun cs b => hsel i oi cs b hi) (fun cs b => hsel j oj cs b hoj) hy (H.2 j (ready_mono hj hji)).2
      refine qOp_mono (fun a' h3 => ih (listed.setIfInBounds j true) a' (inv.set hj hjn) (fun k ok hk hki hun hno => hfree k ok hk hki ?_ hno) (ready_mono hr (Ne.symm hji)) h3.1 ?_) h2
      · by_cases hjk : j = k
        · subst hjk; exact hjun
        · rwa [getD_set_ne true hjk] at hun
      · rw [Array.setIfInBounds_comm _ _ hji]; exact h3.2

def midB (ops : Array Oper) (n m : Nat) : Bool :=
  Region.noSelect ops && decide (n + (m + 1) ≤ ops.size) && Region.sinkB .any ops n && chain2 .any ops n && lexHd .any ops (seqLex .any ops (ops.size - (n + (m + 1))) (m + 1) n) n 0 (Array.replicate ops.size false)
theorem seqLex_ready {r m k : Nat} {L : Array Bool} (h : seqLex md ops r (m + 1) k L = true) : ∀ j ∈ Region.ready md ops L, k ≤ j := by
  simp only [seqLex, Bool.and_eq_true, decide_eq_true_eq] at h
  intro j hj
  rw [h.1] at hj
  have : j = k := by simpa using hj
  omega
theorem headAny_lexF {n : Nat} {F : Array Bool → Bool} {Lq : Act → Prop} (hF : ∀ L, F L = true → ∀ j ∈ Region.ready md ops L, n ≤ j) (hsel : Region.noSelect ops = true) (hs : Region.sinkB md ops n = true) (hc : chain2 md ops n = true) :
    ∀ (l : List Oper) (k : Nat) (listed : Array Bool) (a : Act), (∀ j, j < l.length → l[j]? = ops[k + j]?) → k + l.length = n → HeadInv md ops n listed →
    lexHd md ops F l.length k listed = true → wpQuiet P ops C Lq l a → headAny P md ops C n (fun listed' a' => F listed' = true ∧ Lq a') l.length listed a
  | [], k, listed, a, _, hk, _, hB, h => by
    obtain rfl : k = n := by simpa using hk
    exact ⟨by simpa [lexHd] using hB, h⟩
  | o :: l, k, listed, a, hl, hk, inv, hB, h => by
    have h0 : ops[k]? = some o := by simpa using (hl 0 (by simp)).symm
    simp only [List.length_cons, lexHd, Bool.and_eq_true] at hB
    obtain ⟨⟨hr, hf⟩, hB'⟩ := hB
    have hkn : k < n := by simp only [List.length_cons] at hk; omega
    have hr' : k ∈ Region.ready md ops listed := by simpa using hr
    have hst : qOp P ops C k (wpQuiet P ops C Lq l) a := by unfold qOp; simp only [h0]; exact h
    obtain ⟨v, hy, hK⟩ := yieldsIn_of_qOp h0 hst
    exact headAny_first2 h0 (Region.noSelect_spec hsel) hs hc hkn (fun listed' a' hL => hF _ hL.1) l.length listed a inv (Region.free_spec h0 hf) hr' hy
      (headAny_lexF hF hsel hs hc l (k + 1) _ _ (fun j hj => by have := hl (j + 1) (by simp; omega); simpa [Nat.add_assoc, Nat.add_comm 1 j] using this) (by simp only [List.length_cons] at hk; omega) (inv.set hr' hkn) hB' hK)
theorem wpAny_of_mid {Q : Exit → Act → World → Prop} (hs : Region.noSelect ops = true) (l2 : List Oper) : ∀ (l : List Oper) (k : Nat) (listed : Array Bool) (a : Act) (w : World), (∀ j, j < l.length → l[j]? = ops[k + j]?) → (∀ j, l2[j]? = ops[k + l.length + j]?) →
    seqLex md ops l2.length l.length k listed = true → wpList P ops (midQ Q (fun a2 w2 => wpQuiet P ops (fun w' => w' = w2) (fun a3 => Q .normal a3 w2) l2 a2)) l a w → wpAny P md ops Q (l.length + l2.length) listed a w
  | [], k, listed, a, w, _, hl2, hB, h => by
    have hB' : Region.lexFrom md ops l2.length k listed = true := hB
    have h' : wpQuiet P ops (fun w' => w' = w) (fun a3 => Q .normal a3 w) l2 a := h
    have := wpAnyQ_lex (C := fun w' => w' = w) hs l2 k listed a (fun j => by simpa using hl2 j) hB' h'
    rw [List.length_nil, Nat.zero_add]
    exact wpAny_of_quiet (C := fun w' => w' = w) (fun a' w' hw' h => by cases hw'; exact h) _ _ _ _ rfl this
  | o :: l, k, listed, a, w, hl, hl2, hB, h => by
    have h0 : ops[k]? = some o := by simpa using (hl 0 (by simp)).symm
    simp only [List.length_cons, seqLex, Bool.and_eq_true, decide_eq_true_eq] at hB
    rw [show (o :: l).length + l2.length = (l.length + l2.length) + 1 by simp only [List.length_cons]; omega]
    refine ⟨fun h1 => (by rw [hB.1] at h1; cases h1), fun i hi => ?_⟩
    rw [hB.1] at hi
    have hik : i = k := by simpa using hi
    subst hik
    have hK : ∀ a' w', wpList P ops (midQ Q (fun a2 w2 => wpQuiet P ops (fun w' => w' = w2) (fun a3 => Q .normal a3 w2) l2 a2)) l a' w' → wpAny P md ops Q (l.length + l2.length) (listed.setIfInBounds i true) a' w' := fun a' w' h' =>
      wpAny_of_mid hs l2 l (i + 1) _ a' w' (fun j hj => by have := hl (j + 1) (by simp; omega); simpa [Nat.add_assoc, Nat.add_comm 1 j] using this) (fun j => by have := hl2 j; simpa [Nat.add_assoc, Nat.add_comm, Nat.add_left_comm] using this) hB.2 h'
    unfold wpOp
    simp only [h0]
    unfold wpList at h
    split
    · rename_i hw
      rw [if_pos hw] at h
      rcases h with h | ⟨h1, h2⟩
      · exact .inl (wp_monoQ (fun e a w he => midQ_other he) hK h)
      · exact .inr ⟨h1, by obtain ⟨a0, w0, h3⟩ := h2; exact ⟨a0, w0, midQ_other (by simp) h3⟩⟩
    · rename_i hw
      rw [if_neg hw] at h
      exact hK _ _ h
end
theorem wp_region_xm {P : Program} {id : Nat} {Q : Exit → Act → World → Prop} {a : Act} {w : World} {l : List Oper} (n m : Nat) (w₀ : World) (hm : P.follows .mixedOrders = true) (hB : midB l.toArray n m = true) (he : Ext w₀ w)
    (h : Nonempty (XW w) → (∀ (u : XW w) b o, b < w.heap.size → u.w.cell? ⟨b, o, none⟩ = w.cell? ⟨b, o, none⟩) → (∀ (u : XW w) b o, b < w₀.heap.size → u.w.cell? ⟨b, o, none⟩ = w₀.cell? ⟨b, o, none⟩) →
      wpQuiet P l.toArray (fun w' => ∃ u : XW w, w' = u.w) (fun a' => ∀ w', Ext w w' → wpList P l.toArray (midQ Q (fun a2 w2 => wpQuiet P l.toArray (fun w' => w' = w2) (fun a3 => Q .normal a3 w2) (l.drop (n + (m + 1))) a2)) ((l.drop n).take (m + 1)) a' w') (l.take n) a) : (Code.region id l.toArray true).wp P Q a w := by
  have H := h (XW.some w) (fun u => u.cell) (fun u => u.from he)
  simp only [midB, Bool.and_eq_true, decide_eq_true_eq] at hB
  obtain ⟨⟨⟨⟨hsel, hn⟩, hs⟩, hc⟩, hlex⟩ := hB
  have hsz : l.toArray.size = l.length := by simp
  have htl : (l.take n).length = n := by rw [List.length_take]; omega
  have hml : ((l.drop n).take (m + 1)).length = m + 1 := by rw [List.length_take, List.length_drop]; omega
  have hrl : (l.drop (n + (m + 1))).length = l.toArray.size - (n + (m + 1)) := by rw [List.length_drop, hsz]
  have hh := headAny_lexF (md := .any) (n := n) (F := seqLex .any l.toArray (l.toArray.size - (n + (m + 1))) (m + 1) n) (fun L hL => seqLex_ready hL) hsel hs hc (l.take n) 0 (Array.replicate l.toArray.size false) a (fun j hj => by
    have hj' : j < n := by rw [htl] at hj; exact hj
    simp [hj']) (by simpa using htl) (headInv0 _ _ _) (by rw [htl]; exact hlex) H
  rw [htl] at hh
  refine wp_region_any hm ?_
  have := wpAny_of_headAny (Q' := Q) (g := ((l.drop n).take (m + 1)).length + (l.drop (n + (m + 1))).length) (fun listed a' w' hw' hL => by
    obtain ⟨u, rfl⟩ := hw'
    refine wpAny_of_mid (md := .any) hsel (l.drop (n + (m + 1))) ((l.drop n).take (m + 1)) n listed a' u.w (fun j hj => ?_) (fun j => ?_) ?_ (hL.2 _ u.e)
    · rw [hml] at hj
      simp [List.getElem?_drop, hj]
    · rw [hml]; simp [List.getElem?_drop]
    · rw [hml, hrl]; exact hL.1) _ _ _ { w with drawn := w.drawn + 1 } (XW.drawn w) hh
  rw [show n + (((l.drop n).take (m + 1)).length + (l.drop (n + (m + 1))).length) = l.toArray.size by rw [hml, hrl]; omega] at this
  exact this
end Go.Proofs.YthmjpbafbohelaaDoor


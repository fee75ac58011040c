/- Walks of the program's functions and plain facts, packed; proved: the lemmas below; no conditions but those that each states. -/
import Derived.Test.YtlnjeklmkjgidaaDoorT5
import Derived.Laws.AppendOwn
namespace Go.Proofs.YtlnjeklmkjgidaaDoor
open Go Go.RowKit
attribute [local go_sem] gv_yes

def valL : List UInt8 → Nat → Option Nat
  | [], n => some n
  | x :: l, n => if 48 ≤ x.toNat ∧ x.toNat ≤ 57 then valL l (10 * n + (x.toNat - 48)) else none
def numOf (l : List UInt8) (b : Bool) : Nat × Bool :=
  if 2 < l.length then (0, false) else match valL l 0 with
  | none => (0, false)
  | some n => (n, b && decide (0 < n))
def readL (l : List UInt8) (m : UInt8) : Nat × Bool := if l.getLast? = some m then numOf l.dropLast true else numOf l false
theorem numOf_long {l : List UInt8} {b : Bool} (h : 2 < l.length) : numOf l b = (0, false) := if_pos h
theorem numOf_bad {l : List UInt8} {b : Bool} (h : valL l 0 = none) : numOf l b = (0, false) := by unfold numOf; rw [h]; split <;> rfl
theorem numOf_ok {l : List UInt8} {b : Bool} {n : Nat} (h : l.length ≤ 2) (h1 : valL l 0 = some n) : numOf l b = (n, b && decide (0 < n)) := by unfold numOf; rw [h1, if_neg (by omega)]
theorem drop_at {l : List UInt8} {k : Nat} (h : k < l.length) : l.drop k = l.getD k 0 :: l.drop (k + 1) := by
  rw [List.drop_eq_getElem_cons h]; simp [List.getD_eq_getElem?_getD, h]
set_option maxHeartbeats 1000000 in
theorem read_c (l : List UInt8) (z mk : UInt8) (b o cap : Nat) (R : Nat × Bool) (w : World) (hne : z.toNat ≠ mk.toNat) (h0 : 0 < l.length) (hz : w.cell? ⟨b, o + (l.length - 1), none⟩ = some (.int .u8 (z.toNat : Int))) (hcell : ∀ i, i < l.length → w.cell? ⟨b, o + i, none⟩ = some (.int .u8 ((l.getD i 0).toNat : Int))) (hc : l.length ≤ cap) (h63 : cap ≤ 2 ^ 63 - 1) (HR : Hid (R = numOf l false)) :
    Calls Tryd.prog 53 #[.slice (some ⟨b, o, none⟩) l.length cap, .int .u8 (mk.toNat : Int)] w fun e w' => e = .returned (.tuple #[.int .i64 R.1, .bool R.2]) ∧ w = w' := by
  have hzb : ((z.toNat : Int) == (mk.toNat : Int)) = false := beq_eq_false_iff_ne.2 (by omega)
  by_cases hL : l.length ≤ 2
  · go_enter Tryd.func53, Tryd.ntmps53
    go_upto_region 6 with (fail)
    go_loop [4, 5, 34] (fun n q i => q = .bool false ∧ ∃ k m : Nat, k ≤ l.length ∧ i = .int .i64 k ∧ n = .int .i64 m ∧ m < 10 ^ k ∧ valL l 0 = valL (l.drop k) m) (fun _ _ i => l.length - (intOf i).toNat)
    case atStart => exact ⟨rfl, 0, 0, Nat.zero_le _, rfl, rfl, by decide, rfl⟩
    case round =>
      obtain ⟨rfl, k, m, hk, rfl, rfl, hm, hv⟩ := hrel
      have hm2 : m < 100 := Nat.lt_of_lt_of_le hm (Nat.le_trans (Nat.pow_le_pow_right (by omega) (show k ≤ 2 by omega)) (by decide))
      by_cases hlt : k < l.length
      · obtain ⟨x, hxl⟩ : ∃ x, x = l.getD k 0 := ⟨_, rfl⟩
        have hck : w.cell? ⟨b, o + k, none⟩ = some (.int .u8 (x.toNat : Int)) := by rw [hxl]; exact hcell k hlt
        have h256 := x.toNat_lt
        rw [drop_at hlt, ← hxl] at hv
        by_cases hx : 48 ≤ x.toNat ∧ x.toNat ≤ 57
        · have hv' : valL l 0 = valL (l.drop (k + 1)) (10 * m + (x.toNat - 48)) := by rw [hv, valL, if_pos hx]
          obtain ⟨hx1, hx2⟩ := hx
          have hm10 : 10 * m + (x.toNat - 48) < 10 ^ (k + 1) := by rw [Nat.pow_succ]; omega
          obtain ⟨y, hy⟩ : ∃ y, x.toNat = y + 48 := ⟨x.toNat - 48, by omega⟩
          rw [hy] at hck hv' hm10 hx2
          clear hx1 h256 hv hxl hcell hm
          have hy9 : y ≤ 9 := by omega
          go_wp2

          have hm11 : 10 * m + y < 10 ^ (k + 1) := by simpa using hm10
          first
            | exact ⟨⟨rfl, k + 1, 10 * m + y, by omega, by go_num, by go_num, by simpa using hm10, by simpa using hv'⟩, by simp [intOf]; omega⟩
            | exact ⟨⟨.int .i64 ((10 * m + y : Nat) : Int), .bool false, _, .int .i64 ((k + 1 : Nat) : Int), ⟨rfl, k + 1, by omega, rfl, 10 * m + y, rfl, hm11, rfl⟩, by go_num, rfl, rfl, by go_num⟩, by simp [intOf]; omega⟩
        · have hbad := Lib.hid (numOf_bad (l := l) (b := false) (by rw [hv, valL, if_neg hx]))
          clear hv hxl hcell
          by_cases h48 : x.toNat < 48
          · clear hx
            go_wp2
            go_ret2
            exact ⟨by rw [HR.out, hbad.out]; rfl, rfl⟩
          · have h57 : 57 < x.toNat := by omega
            clear hx
            go_wp2
            go_ret2
            exact ⟨by rw [HR.out, hbad.out]; rfl, rfl⟩
      · have hke : k = l.length := by omega
        have hok : Hid (numOf l false = (m, false && decide (0 < m))) := numOf_ok hL (by rw [hv, hke, List.drop_length]; rfl)
        clear hke hv
        by_cases hm0 : 0 < m
        · go_wp2
          go_ret2
          exact ⟨by rw [HR.out, hok.out, decide_eq_true hm0]; rfl, rfl⟩
        · go_wp2
          go_ret2
          exact ⟨by rw [HR.out, hok.out, decide_eq_false hm0]; rfl, rfl⟩
  · have hR' : Hid (R = (0, false)) := by rw [HR.out]; exact numOf_long (by omega)
    go_enter Tryd.func53, Tryd.ntmps53
    go_wp2
    go_ret2
    exact ⟨by rw [hR'.out]; rfl, rfl⟩
theorem getD_snoc {l : List UInt8} {x : UInt8} {i : Nat} (h : i < l.length) : (l ++ [x]).getD i 0 = l.getD i 0 := by simp [List.getD_eq_getElem?_getD, List.getElem?_append_left h]
set_option maxHeartbeats 1000000 in
theorem read_b (l : List UInt8) (mk : UInt8) (b o cap n : Nat) (R : Nat × Bool) (w : World) (hn : n = l.length + 1) (hz : w.cell? ⟨b, o + l.length, none⟩ = some (.int .u8 (mk.toNat : Int))) (hcell : ∀ i, i < l.length → w.cell? ⟨b, o + i, none⟩ = some (.int .u8 ((l.getD i 0).toNat : Int))) (hc : n ≤ cap) (h63 : cap ≤ 2 ^ 63 - 1) (HR : Hid (R = numOf l true)) :
    Calls Tryd.prog 53 #[.slice (some ⟨b, o, none⟩) n cap, .int .u8 (mk.toNat : Int)] w fun e w' => e = .returned (.tuple #[.int .i64 R.1, .bool R.2]) ∧ w = w' := by
  have hn1 : n - 1 = l.length := by omega
  have hn2 : ((n : Int) - 1).toNat = l.length := by omega
  by_cases hL : l.length ≤ 2
  · go_enter Tryd.func53, Tryd.ntmps53
    go_upto_region 6 with (fail)
    go_loop [4, 5, 34] (fun n q i => q = .bool true ∧ ∃ k m : Nat, k ≤ l.length ∧ i = .int .i64 k ∧ n = .int .i64 m ∧ m < 10 ^ k ∧ valL l 0 = valL (l.drop k) m) (fun _ _ i => l.length - (intOf i).toNat)
    case atStart => exact ⟨rfl, 0, 0, Nat.zero_le _, rfl, rfl, by decide, rfl⟩
    case round =>
      obtain ⟨rfl, k, m, hk, rfl, rfl, hm, hv⟩ := hrel
      have hm2 : m < 100 := Nat.lt_of_lt_of_le hm (Nat.le_trans (Nat.pow_le_pow_right (by omega) (show k ≤ 2 by omega)) (by decide))
      by_cases hlt : k < l.length
      · obtain ⟨x, hxl⟩ : ∃ x, x = l.getD k 0 := ⟨_, rfl⟩
        have hck : w.cell? ⟨b, o + k, none⟩ = some (.int .u8 (x.toNat : Int)) := by rw [hxl]; exact hcell k hlt
        have h256 := x.toNat_lt
        rw [drop_at hlt, ← hxl] at hv
        by_cases hx : 48 ≤ x.toNat ∧ x.toNat ≤ 57
        · have hv' : valL l 0 = valL (l.drop (k + 1)) (10 * m + (x.toNat - 48)) := by rw [hv, valL, if_pos hx]
          obtain ⟨hx1, hx2⟩ := hx
          have hm10 : 10 * m + (x.toNat - 48) < 10 ^ (k + 1) := by rw [Nat.pow_succ]; omega
          obtain ⟨y, hy⟩ : ∃ y, x.toNat = y + 48 := ⟨x.toNat - 48, by omega⟩
          rw [hy] at hck hv' hm10 hx2
          clear hx1 h256 hv hxl hcell hm
          have hy9 : y ≤ 9 := by omega
          go_wp2

          have hm11 : 10 * m + y < 10 ^ (k + 1) := by simpa using hm10
          first
            | exact ⟨⟨rfl, k + 1, 10 * m + y, by omega, by go_num, by go_num, by simpa using hm10, by simpa using hv'⟩, by simp [intOf]; omega⟩
            | exact ⟨⟨.int .i64 ((10 * m + y : Nat) : Int), .bool true, _, .int .i64 ((k + 1 : Nat) : Int), ⟨rfl, k + 1, by omega, rfl, 10 * m + y, rfl, hm11, rfl⟩, by go_num, rfl, rfl, by go_num⟩, by simp [intOf]; omega⟩
        · have hbad := Lib.hid (numOf_bad (l := l) (b := true) (by rw [hv, valL, if_neg hx]))
          clear hv hxl hcell
          by_cases h48 : x.toNat < 48
          · clear hx
            go_wp2
            go_ret2
            exact ⟨by rw [HR.out, hbad.out]; rfl, rfl⟩
          · have h57 : 57 < x.toNat := by omega
            clear hx
            go_wp2
            go_ret2
            exact ⟨by rw [HR.out, hbad.out]; rfl, rfl⟩
      · have hke : k = l.length := by omega
        have hok : Hid (numOf l true = (m, true && decide (0 < m))) := numOf_ok hL (by rw [hv, hke, List.drop_length]; rfl)
        clear hke hv
        by_cases hm0 : 0 < m
        · go_wp2
          go_ret2
          exact ⟨by rw [HR.out, hok.out, decide_eq_true hm0]; rfl, rfl⟩
        · go_wp2
          go_ret2
          exact ⟨by rw [HR.out, hok.out, decide_eq_false hm0]; rfl, rfl⟩
  · have hR' : Hid (R = (0, false)) := by rw [HR.out]; exact numOf_long (by omega)
    go_enter Tryd.func53, Tryd.ntmps53
    go_wp2
    go_ret2
    exact ⟨by rw [hR'.out]; rfl, rfl⟩
set_option maxHeartbeats 1000000 in
theorem read_a (A : Option Addr) (cap : Nat) (mk : UInt8) (w : World) :
    Calls Tryd.prog 53 #[.slice A 0 cap, .int .u8 (mk.toNat : Int)] w fun e w' => e = .returned (.tuple #[.int .i64 0, .bool false]) ∧ w = w' := by
  go_enter Tryd.func53, Tryd.ntmps53
  go_upto_region 6 with (fail)
  go_loop [4, 5, 34] (fun n q i => q = .bool false ∧ i = .int .i64 0 ∧ n = .int .i64 0) (fun _ _ i => 0 - (intOf i).toNat)
  case atStart => exact ⟨rfl, rfl, rfl⟩
  case round =>
    obtain ⟨rfl, rfl, rfl⟩ := hrel
    go_wp2
    go_ret2
    exact ⟨rfl, rfl⟩
theorem read_any (l : List UInt8) (mk : UInt8) (A : Option Addr) (cap : Nat) (w : World) (hA : BsAt w A l) (hc : l.length ≤ cap) (h63 : cap ≤ maxLen) :
    Calls Tryd.prog 53 #[.slice A l.length cap, .int .u8 (mk.toNat : Int)] w fun e w' => e = .returned (.tuple #[.int .i64 (readL l mk).1, .bool (readL l mk).2]) ∧ w = w' := by
  have h63' : cap ≤ 2 ^ 63 - 1 := h63
  rcases List.eq_nil_or_concat l with rfl | ⟨l, z, rfl⟩
  · exact read_a A cap mk w
  · rw [List.concat_eq_append] at *
    cases A with
    | none => exact absurd hA (by simp [BsAt])
    | some a =>
      obtain ⟨b, o, rfl, hb, hcell⟩ := hA
      have hlast : (l ++ [z]).getD l.length 0 = z := by simp [List.getD_eq_getElem?_getD]
      have hz := hcell l.length (by simp)
      rw [hlast] at hz
      by_cases hzm : z = mk
      · subst hzm
        have := read_b l z b o cap (l ++ [z]).length (readL (l ++ [z]) z) w (by simp) hz (fun i hi => by rw [hcell i (by simp; omega), getD_snoc hi]) hc h63' (by unfold Hid readL; rw [List.getLast?_append]; simp)
        exact this
      · have hn : z.toNat ≠ mk.toNat := fun h => hzm (UInt8.toNat_inj.1 h)
        exact read_c (l ++ [z]) z mk b o cap (readL (l ++ [z]) mk) w hn (by simp) (by simpa using hz) hcell hc h63' (by unfold Hid readL; rw [List.getLast?_append]; simp [hzm])
end Go.Proofs.YtlnjeklmkjgidaaDoor

namespace Go.Proofs.YtlnjeklmkjgidaaDoor
open Go Go.RowKit
attribute [local go_sem] gv_yes

theorem Held.set {W : World} {b : Nat} {t : TypeId} {cs : Array Value} (h : Held W b t cs) (i : Nat) (v : Value) : Held (W.setCell ⟨b, i, none⟩ v) b t (cs.setIfInBounds i v) := by
  unfold Held at h ⊢
  simp [World.setCell, Array.getElem?_modify, h]
def Tr.val (t : Tr) : Value := .agg #[.int .i64 t.d, .bool t.more, .int .i64 t.m, .bool t.s, .string t.nm, .int .i64 t.af, .string t.kg]
def zTr : Tr := ⟨0, false, 0, false, ⟨#[]⟩, 0, ⟨#[]⟩⟩
def isPlus (x : UInt8) : Bool := x == 43
def nameL (l : List UInt8) : ByteArray := if l.dropWhile isPlus = [45] then ⟨#[]⟩ else ⟨(l.dropWhile isPlus).toArray⟩
def candL (l : List UInt8) : Option Tr :=
  if (cutL l 47).2.2 && (cutL (cutL l 47).2.1 47).2.2 then
    some ⟨(readL (cutL l 47).1 43).1, (readL (cutL l 47).1 43).2, (readL (cutL (cutL l 47).2.1 47).1 98).1, (readL (cutL (cutL l 47).2.1 47).1 98).2,
      nameL (cutL (cutL (cutL l 47).2.1 47).2.1 64).1, ((cutL (cutL (cutL l 47).2.1 47).2.1 64).1.takeWhile isPlus).length, ⟨(cutL (cutL (cutL l 47).2.1 47).2.1 64).2.1.toArray⟩⟩
  else none
def parseS (s : ByteArray) : Option Tr := if 65536 < s.size then none else (candL s.data.toList).filter fun t => t.ok && decide (textS t = s)
def parseV (s : ByteArray) : Tr := (parseS s).getD zTr
def parseE (s : ByteArray) : Int := if (parseS s).isSome then 0 else 5
theorem bytes_ext (w : World) (e : TypeId) (s : ByteArray) : Ext w (Lib.bytesWorld w e s) :=
  ⟨rfl, rfl, rfl, by rw [Lib.bytesWorld_size]; omega, fun k hk => Lib.bytesWorld_at_old w e s k hk⟩
theorem bytes_at (w : World) (e : TypeId) (s : ByteArray) : BsAt (Lib.bytesWorld w e s) (some ⟨w.heap.size, 0, none⟩) s.data.toList :=
  ⟨w.heap.size, 0, rfl, by rw [Lib.bytesWorld_size]; omega, fun i hi => by rw [Nat.zero_add, Lib.bytesWorld_cell w e s i (by simpa using hi)]⟩
theorem plus_at : ∀ {l : List UInt8} {k : Nat}, k ≤ l.length → (∀ i, i < k → l.getD i 0 = 43) → (k = l.length ∨ l.getD k 0 ≠ 43) → (l.takeWhile isPlus).length = k ∧ l.dropWhile isPlus = l.drop k
  | [], k, hk, _, _ => by
    have : k = 0 := by simpa using hk
    subst this
    exact ⟨rfl, rfl⟩
  | x :: l, 0, _, _, hs => by
    rcases hs with h | h
    · simp at h
    · have hx : isPlus x = false := by simp [isPlus]; simpa using h
      simp [List.takeWhile, List.dropWhile, hx]
  | x :: l, k + 1, hk, h0, hs => by
    have hx : isPlus x = true := by simp [isPlus]; simpa using h0 0 (by omega)
    have := @plus_at l k (by simpa using hk) (fun i hi => by simpa using h0 (i + 1) (by omega)) (hs.imp (fun h => by simpa using h) (fun h => by simpa using h))
    simp [List.takeWhile, List.dropWhile, hx, this.1, this.2]
theorem parse_cand {s : ByteArray} {l1 r1 l2 r2 l3 r3 : List UInt8} {b3 d1 d2 : Bool} {n1 n2 k : Nat} (h : s.size ≤ 65536) (e1 : cutL s.data.toList 47 = (l1, r1, true)) (e2 : cutL r1 47 = (l2, r2, true)) (e3 : cutL r2 64 = (l3, r3, b3)) (i1 : readL l1 43 = (n1, d1)) (i2 : readL l2 98 = (n2, d2))
    (hk : k ≤ l3.length) (h0 : ∀ i, i < k → l3.getD i 0 = 43) (hs : k = l3.length ∨ l3.getD k 0 ≠ 43) {nm : ByteArray} (hnm : nm = if l3.drop k = [45] then ⟨#[]⟩ else ⟨(l3.drop k).toArray⟩) {T : Tr} (hT : T = ⟨n1, d1, n2, d2, nm, k, ⟨r3.toArray⟩⟩) :
    parseS s = if T.ok && decide (textS T = s) then some T else none := by
  obtain ⟨p1, p2⟩ := plus_at hk h0 hs
  have : candL s.data.toList = some T := by
    unfold candL nameL
    simp only [e1, e2, e3, i1, i2, p1, p2]
    rw [hT, hnm]; rfl
  unfold parseS
  rw [if_neg (by omega), this, Option.filter_some]
def lenV : Value → Nat
  | .slice _ n _ => n
  | _ => 0
theorem cut_one {s : ByteArray} {l r : List UInt8} {b : Bool} (h : s.size ≤ 65536) (e1 : cutL s.data.toList 47 = (l, r, b)) (W : World) {n cap : Nat} (hn : n = W.heap.size) (hc : cap = grownCap W s.size 0 5) :
    Calls Tryd.prog 52 #[.slice (some ⟨n, 0, none⟩) s.size cap, .int .u8 47] (Lib.bytesWorld W 5 s) fun e w' =>
      ∃ B C m n, e = .returned (.tuple #[.slice B l.length m, .slice C r.length n, .bool b]) ∧ BsAt (Lib.bytesWorld W 5 s) B l ∧ BsAt (Lib.bytesWorld W 5 s) C r ∧ l.length ≤ m ∧ m ≤ maxLen ∧ r.length ≤ n ∧ n ≤ maxLen ∧ Ext (Lib.bytesWorld W 5 s) w' := by
  subst hn; subst hc
  have := cut_any s.data.toList 47 (some ⟨W.heap.size, 0, none⟩) (grownCap W s.size 0 5) _ _ (bytes_at W 5 s) (bytes_at W 5 s) (grownCap_ge W s.size 0 5) (grownCap_le_maxLen W s.size 0 5 (by unfold maxLen; omega))
  rw [e1] at this
  exact this
theorem cut_more {l0 l r : List UInt8} {x : UInt8} {z : Int} {b : Bool} (hz : z = x.toNat) (e1 : cutL l0 x = (l, r, b)) {A : Option Addr} {cap : Nat} {w W : World} (hA : BsAt w A l0) (hW : BsAt W A l0) (h1 : l0.length ≤ cap) (h2 : cap ≤ maxLen) :
    Calls Tryd.prog 52 #[.slice A l0.length cap, .int .u8 z] w fun e w' =>
      ∃ B C m n, e = .returned (.tuple #[.slice B l.length m, .slice C r.length n, .bool b]) ∧ BsAt W B l ∧ BsAt W C r ∧ l.length ≤ m ∧ m ≤ maxLen ∧ r.length ≤ n ∧ n ≤ maxLen ∧ Ext w w' := by
  subst hz
  have := cut_any l0 x A cap w W hA hW h1 h2
  rw [e1] at this
  exact this
theorem read_more {l : List UInt8} {x : UInt8} {z d : Int} {n : Nat} {b : Bool} (hz : z = x.toNat) (hd : d = n) (e1 : readL l x = (n, b)) {A : Option Addr} {cap : Nat} {w : World} (hA : BsAt w A l) (h1 : l.length ≤ cap) (h2 : cap ≤ maxLen) :
    Calls Tryd.prog 53 #[.slice A l.length cap, .int .u8 z] w fun e w' => e = .returned (.tuple #[.int .i64 d, .bool b]) ∧ w = w' := by
  subst hz; subst hd
  have := read_any l x A cap w hA h1 h2
  rw [e1] at this
  exact this
theorem str_of {w : World} {A : Option Addr} {l : List UInt8} (hA : BsAt w A l) (cap : Nat) : (convert 114 9 (.slice A l.length cap)).run Tryd.prog w = .ok (.string ⟨l.toArray⟩) w := by
  cases A with
  | none =>
    cases hA
    exact run_convert_bytes_nil w 114 5 (by kernel_rfl) (by kernel_rfl) 0 cap 9 (by kernel_rfl)
  | some a =>
    obtain ⟨b, o, rfl, hb, hc⟩ := hA
    refine run_convert_bytes_back w 114 9 5 ⟨b, o, none⟩ cap l (by kernel_rfl) (by kernel_rfl) (by kernel_rfl) (fun j hj => ?_)
    have := hc j hj
    rw [show (⟨b, o, none⟩ : Addr).add j = ⟨b, o + j, none⟩ from by unfold Addr.add; split <;> simp_all, this]
    simp [List.getD_eq_getElem?_getD, hj]
theorem z47 : (47 : Int) = ((47 : UInt8).toNat : Int) := rfl
theorem z43 : (43 : Int) = ((43 : UInt8).toNat : Int) := rfl
theorem z98 : (98 : Int) = ((98 : UInt8).toNat : Int) := rfl
theorem z64 : (64 : Int) = ((64 : UInt8).toNat : Int) := rfl
theorem frozen7 {W : World} {b : Nat} {t : TypeId} {cs : Array Value} (h : Held W b t cs) : W.frozen? ⟨b, 0, none⟩ = false ∧ W.frozen? ⟨b, 1, none⟩ = false ∧ W.frozen? ⟨b, 2, none⟩ = false ∧ W.frozen? ⟨b, 3, none⟩ = false ∧ W.frozen? ⟨b, 4, none⟩ = false ∧ W.frozen? ⟨b, 5, none⟩ = false ∧ W.frozen? ⟨b, 6, none⟩ = false :=
  ⟨h.frozen 0, h.frozen 1, h.frozen 2, h.frozen 3, h.frozen 4, h.frozen 5, h.frozen 6⟩
theorem seven_set {W : World} {b : Nat} {t : TypeId} {v0 v1 v2 v3 v4 v5 v6 : Value} (h : Held W b t #[v0, v1, v2, v3, v4, v5, v6]) (u0 u1 u2 u3 u4 u5 u6 : Value) :
    Held (((((((W.setCell ⟨b, 0, none⟩ u0).setCell ⟨b, 1, none⟩ u1).setCell ⟨b, 2, none⟩ u2).setCell ⟨b, 3, none⟩ u3).setCell ⟨b, 4, none⟩ u4).setCell ⟨b, 5, none⟩ u5).setCell ⟨b, 6, none⟩ u6) b t #[u0, u1, u2, u3, u4, u5, u6] ∧
    ∀ wd, Ext wd W → wd.heap.size ≤ b → Ext wd (((((((W.setCell ⟨b, 0, none⟩ u0).setCell ⟨b, 1, none⟩ u1).setCell ⟨b, 2, none⟩ u2).setCell ⟨b, 3, none⟩ u3).setCell ⟨b, 4, none⟩ u4).setCell ⟨b, 5, none⟩ u5).setCell ⟨b, 6, none⟩ u6) :=
  ⟨by unfold Held at h ⊢; simp [World.setCell, Array.getElem?_modify, h], fun _ e h1 => ((((((e.setCell h1 _).setCell h1 _).setCell h1 _).setCell h1 _).setCell h1 _).setCell h1 _).setCell h1 _⟩
theorem four7 {W : World} {b : Nat} {t : TypeId} {v0 v1 v2 v3 v4 v5 v6 : Value} (h : Held W b t #[v0, v1, v2, v3, v4, v5, v6]) (u0 u1 u2 u3 : Value) :
    Held ((((W.setCell ⟨b, 0, none⟩ u0).setCell ⟨b, 1, none⟩ u1).setCell ⟨b, 2, none⟩ u2).setCell ⟨b, 3, none⟩ u3) b t #[u0, u1, u2, u3, v4, v5, v6] ∧
    ∀ wd, Ext wd W → wd.heap.size ≤ b → Ext wd ((((W.setCell ⟨b, 0, none⟩ u0).setCell ⟨b, 1, none⟩ u1).setCell ⟨b, 2, none⟩ u2).setCell ⟨b, 3, none⟩ u3) :=
  ⟨by unfold Held at h ⊢; simp [World.setCell, Array.getElem?_modify, h], fun _ e h1 => (((e.setCell h1 _).setCell h1 _).setCell h1 _).setCell h1 _⟩
theorem set7_6 {W : World} {b : Nat} {t : TypeId} {v0 v1 v2 v3 v4 v5 v6 : Value} (h : Held W b t #[v0, v1, v2, v3, v4, v5, v6]) (u : Value) : Held (W.setCell ⟨b, 6, none⟩ u) b t #[v0, v1, v2, v3, v4, v5, u] := by unfold Held at h ⊢; simp [World.setCell, Array.getElem?_modify, h]
theorem set7_5 {W : World} {b : Nat} {t : TypeId} {v0 v1 v2 v3 v4 v5 v6 : Value} (h : Held W b t #[v0, v1, v2, v3, v4, v5, v6]) (u : Value) : Held (W.setCell ⟨b, 5, none⟩ u) b t #[v0, v1, v2, v3, v4, u, v6] := by unfold Held at h ⊢; simp [World.setCell, Array.getElem?_modify, h]
theorem set7_4 {W : World} {b : Nat} {t : TypeId} {v0 v1 v2 v3 v4 v5 v6 : Value} (h : Held W b t #[v0, v1, v2, v3, v4, v5, v6]) (u : Value) : Held (W.setCell ⟨b, 4, none⟩ u) b t #[v0, v1, v2, v3, u, v5, v6] := by unfold Held at h ⊢; simp [World.setCell, Array.getElem?_modify, h]
set_option maxHeartbeats 1000000 in
theorem parse_no (s : ByteArray) (w : World) (h : s.size ≤ 65536) {l1 r1 l2 r2 : List UInt8} {b1 b2 : Bool} (e1 : cutL s.data.toList 47 = (l1, r1, b1)) (e2 : cutL r1 47 = (l2, r2, b2)) (hb : (b1 && b2) = false) :
    Calls Tryd.prog 15 #[.string s] w fun e w' => e = .returned (.tuple #[zTr.val, .int .i64 5]) ∧ Ext w w' := by
  have hcv := fun w => Lib.run_convert_string_bytes (P := Tryd.prog) w 9 114 5 s (u := .string) (by kernel_rfl) (by kernel_rfl) (by kernel_rfl)
  go_enter Tryd.func15, Tryd.ntmps15
  go_upto_region 4 with (go_at_call 52; (with_reducible refine Calls.mono (cut_one h e1 _ (by simp) rfl) ?_); rintro e wq ⟨B1, C1, m1, n1, rfl, hB1, hC1, hm1, hm1', hn1, hn1', hq⟩)
  have hbw := bytes_ext (w.alloc (.cells #[.int .i64 0, .bool false, .int .i64 0, .bool false, .string ⟨#[]⟩, .int .i64 0, .string ⟨#[]⟩] 34)) 5 s
  have hz1 : Held wq w.heap.size 34 #[.int .i64 0, .bool false, .int .i64 0, .bool false, .string ⟨#[]⟩, .int .i64 0, .string ⟨#[]⟩] := ((Held.new w _ _).ext hbw).ext hq
  have hE1 : Ext w wq := (((Ext.refl w).alloc _).trans hbw).trans hq
  replace hB1 := hB1.ext hq
  replace hC1 := hC1.ext hq
  clear hq hbw hcv
  go_upto_region 5 with (go_at_call 52; (with_reducible refine Calls.mono (cut_more z47 e2 hC1 hC1 hn1 hn1') ?_); rintro e w2 ⟨B2, C2, m2, n2, rfl, hB2, hC2, hm2, hm2', hn2, hn2', h2⟩)
  have hz2 := hz1.ext h2
  have hE2 := hE1.trans h2
  replace hB1 := hB1.ext h2
  replace hB2 := hB2.ext h2
  replace hC2 := hC2.ext h2
  clear h2 hz1 hE1 hC1
  have l0 := hz2.lt
  obtain ⟨f0, f1, f2, f3, f4, f5, f6⟩ := frozen7 hz2
  obtain ⟨t0, t1, t2, t3, t4, t5, t6⟩ := hz2.c7
  cases b1
  · go_wp2
    obtain ⟨hs, gE⟩ := seven_set hz2 (.int .i64 0) (.bool false) (.int .i64 0) (.bool false) (.string ⟨#[]⟩) (.int .i64 0) (.string ⟨#[]⟩)
    obtain ⟨q0, q1, q2, q3, q4, q5, q6⟩ := hs.c7
    refine bodyPost_ret (v := .tuple #[zTr.val, .int .i64 5]) (by simp [results, Tryd.results15, go_sem, q0, q1, q2, q3, q4, q5, q6, zTr, Tr.val]) rfl ⟨rfl, gE w hE2 (Nat.le_refl _)⟩
  · cases b2
    · go_wp2
      obtain ⟨hs, gE⟩ := seven_set hz2 (.int .i64 0) (.bool false) (.int .i64 0) (.bool false) (.string ⟨#[]⟩) (.int .i64 0) (.string ⟨#[]⟩)
      obtain ⟨q0, q1, q2, q3, q4, q5, q6⟩ := hs.c7
      refine bodyPost_ret (v := .tuple #[zTr.val, .int .i64 5]) (by simp [results, Tryd.results15, go_sem, q0, q1, q2, q3, q4, q5, q6, zTr, Tr.val]) rfl ⟨rfl, gE w hE2 (Nat.le_refl _)⟩
    · cases hb
set_option maxRecDepth 100000 in
set_option maxHeartbeats 4000000 in
theorem parse_yes (s : ByteArray) (w : World) (h : s.size ≤ 65536) {l1 r1 l2 r2 l3 r3 : List UInt8} {b3 d1 d2 : Bool} {n1 n2 : Nat} (e1 : cutL s.data.toList 47 = (l1, r1, true)) (e2 : cutL r1 47 = (l2, r2, true)) (e3 : cutL r2 64 = (l3, r3, b3)) (i1 : readL l1 43 = (n1, d1)) (i2 : readL l2 98 = (n2, d2)) :
    Calls Tryd.prog 15 #[.string s] w fun e w' => e = .returned (.tuple #[(parseV s).val, .int .i64 (parseE s)]) ∧ Ext w w' := by
  have hcv := fun w => Lib.run_convert_string_bytes (P := Tryd.prog) w 9 114 5 s (u := .string) (by kernel_rfl) (by kernel_rfl) (by kernel_rfl)
  go_enter Tryd.func15, Tryd.ntmps15
  go_upto_region 4 with (go_at_call 52; (with_reducible refine Calls.mono (cut_one h e1 _ (by simp) rfl) ?_); rintro e wq ⟨B1, C1, x1, y1, rfl, hB1, hC1, hm1, hm1', hn1, hn1', hq⟩)
  have hbw := bytes_ext (w.alloc (.cells #[.int .i64 0, .bool false, .int .i64 0, .bool false, .string ⟨#[]⟩, .int .i64 0, .string ⟨#[]⟩] 34)) 5 s
  have hz1 : Held wq w.heap.size 34 #[.int .i64 0, .bool false, .int .i64 0, .bool false, .string ⟨#[]⟩, .int .i64 0, .string ⟨#[]⟩] := ((Held.new w _ _).ext hbw).ext hq
  have hE1 : Ext w wq := (((Ext.refl w).alloc _).trans hbw).trans hq
  replace hB1 := hB1.ext hq
  replace hC1 := hC1.ext hq
  clear hq hbw hcv
  go_upto_region 5 with (go_at_call 52; (with_reducible refine Calls.mono (cut_more z47 e2 hC1 hC1 hn1 hn1') ?_); rintro e w2 ⟨B2, C2, x2, y2, rfl, hB2, hC2, hm2, hm2', hn2, hn2', h2⟩)
  have hz2 := hz1.ext h2
  have hE2 := hE1.trans h2
  replace hB1 := hB1.ext h2
  replace hB2 := hB2.ext h2
  replace hC2 := hC2.ext h2
  clear h2 hz1 hE1 hC1
  have l0 := hz2.lt
  obtain ⟨f0, f1, f2, f3, f4, f5, f6⟩ := frozen7 hz2
  obtain ⟨t0, t1, t2, t3, t4, t5, t6⟩ := hz2.c7
  go_upto_region 8 with (fail)
  obtain ⟨wb, hwb⟩ : ∃ wb, wb = w2.alloc (.cells #[.int .i64 0, .bool false, .int .i64 0, .bool false, .string ⟨#[]⟩, .int .i64 0, .string ⟨#[]⟩] 34) := ⟨_, rfl⟩
  rw [← hwb]
  have hE3 : Ext w2 wb := by rw [hwb]; exact (Ext.refl _).alloc _
  have hbx : Held wb w2.heap.size 34 #[.int .i64 0, .bool false, .int .i64 0, .bool false, .string ⟨#[]⟩, .int .i64 0, .string ⟨#[]⟩] := by rw [hwb]; exact Held.new _ _ _
  clear hwb t0 t1 t2 t3 t4 t5 t6 f0 f1 f2 f3 f4 f5 f6
  obtain ⟨f0, f1, f2, f3, f4, f5, f6⟩ := frozen7 hbx
  obtain ⟨t0, t1, t2, t3, t4, t5, t6⟩ := hbx.c7
  have lb := hbx.lt
  go_upto_region 10 with (first | (go_at_call 53; (with_reducible refine Calls.mono (read_more z43 rfl i1 (hB1.ext hE3) hm1 hm1') ?_); rintro e w' ⟨rfl, rfl⟩) | (go_at_call 53; (with_reducible refine Calls.mono (read_more z98 rfl i2 (hB2.ext ((hE3.setCell (Nat.le_refl _) _).setCell (Nat.le_refl _) _)) hm2 hm2') ?_); rintro e w' ⟨rfl, rfl⟩))
  obtain ⟨hc7, gE⟩ := four7 hbx (.int .i64 n1) (.bool d1) (.int .i64 n2) (.bool d2)
  replace gE := gE w2 hE3 (Nat.le_refl _)
  clear f0 f1 f2 f3 f4 f5 f6 t0 t1 t2 t3 t4 t5 t6
  generalize hwc : World.setCell _ _ (Value.bool d2) = wc at *
  have lc := hc7.lt
  clear hwc hbx lb hE3 wb
  go_upto_region 11 with (go_at_call 52; (with_reducible refine Calls.mono (cut_more z64 e3 (hC2.ext gE) hC2 hn2 hn2') ?_); rintro e wd ⟨B3, C3, x3, y3, rfl, hB3, hC3, hm3, hm3', hn3, hn3', h3⟩)
  have hd7 := hc7.ext h3
  have hEd := Ext.trans gE h3
  have hcv := str_of (hC3.ext hEd) y3
  obtain ⟨f0, f1, f2, f3, f4, f5, f6⟩ := frozen7 hd7
  obtain ⟨t0, t1, t2, t3, t4, t5, t6⟩ := hd7.c7
  have ld := hd7.lt
  clear h3 hc7 gE lc
  go_upto_region 12 with (fail)
  have he7 := set7_6 hd7 (.string ⟨r3.toArray⟩)
  have hEe := hEd.setCell (p := ⟨w2.heap.size, 6, none⟩) (Nat.le_refl _) (.string ⟨r3.toArray⟩)
  clear hcv t0 t1 t2 t3 t4 t5 t6 f0 f1 f2 f3 f4 f5 f6 ld hd7 hEd
  go_loopw [11] (fun v wr => ∃ (k : Nat) (A : Option Addr) (cap n : Nat), k ≤ l3.length ∧ n = l3.length - k ∧ v = .slice A n cap ∧ BsAt w2 A (l3.drop k) ∧ n ≤ cap ∧ cap ≤ maxLen ∧ (∀ i, i < k → l3.getD i 0 = 43) ∧ Held wr w2.heap.size 34 #[.int .i64 n1, .bool d1, .int .i64 n2, .bool d2, .string ⟨#[]⟩, .int .i64 k, .string ⟨r3.toArray⟩] ∧ Ext w2 wr) (fun v _ => lenV v)
  case atStart => exact ⟨0, B3, x3, l3.length, Nat.zero_le _, rfl, rfl, hB3, hm3, hm3', (fun i hi => absurd hi (by omega)), he7, hEe⟩
  case round =>
    have hL63 : l3.length ≤ 9223372036854775807 := Nat.le_trans hm3 (Nat.le_trans hm3' (by decide))
    clear he7 hEe hm3 hm3' hB3
    obtain ⟨k, A, cap, n, hk, hn, rfl, hA, hcap, hcap', hp, hr7, hEr⟩ := hrel
    obtain ⟨wo, rfl⟩ : ∃ wo : World, wo = wr := ⟨_, rfl⟩
    have l2 := hr7.lt
    have HN := Lib.hid hn
    by_cases hlt : 0 < n
    · cases A with
      | none => have hz : l3.drop k = [] := hA; rw [List.drop_eq_nil_iff] at hz; omega
      | some a =>
        obtain ⟨b, o, rfl, hb, hcell⟩ := hA
        obtain ⟨x, hxl⟩ : ∃ x, x = l3.getD k 0 := ⟨_, rfl⟩
        have hBs : BsAt w2 (some ⟨b, o, none⟩) (l3.drop k) := ⟨b, o, rfl, hb, hcell⟩
        have hck : w2.cell? ⟨b, o, none⟩ = some (.int .u8 (x.toNat : Int)) := by
          have := hcell 0 (by rw [List.length_drop]; omega)
          rw [Nat.add_zero] at this
          rw [this, hxl]; simp [List.getD_eq_getElem?_getD]
        have hcw : wo.cell? ⟨b, o, none⟩ = some (.int .u8 (x.toNat : Int)) := by rw [hEr.cell (p := ⟨b, o, none⟩) hb]; exact hck
        clear hcell hck
        by_cases hx : x = 43
        · have hp' : ∀ i, i < k + 1 → l3.getD i 0 = 43 := fun i hi => by
            by_cases h : i = k
            · subst h; rw [← hxl]; exact hx
            · exact hp i (by omega)
          have hx' : ((x.toNat : Int) == 43) = true := by rw [hx]; rfl
          have hcw' : wo.cell? ⟨b, o, none⟩ = some (.int .u8 43) := by rw [hcw, hx]; rfl
          have f5 := hr7.frozen 5
          have t5 := hr7.c7.2.2.2.2.2.1
          have hs7 := set7_5 hr7 (.int .i64 ((k + 1 : Nat) : Int))
          have hEs := hEr.setCell (p := ⟨w2.heap.size, 5, none⟩) (Nat.le_refl _) (.int .i64 ((k + 1 : Nat) : Int))
          have hBd := hBs.drop 1
          rw [List.drop_drop] at hBd
          have hk1 : k + 1 ≤ 9223372036854775807 := by omega
          clear hxl hcw hx hx' hp hn
          go_wp2
          have hn := HN.out
          have hbA : BsAt w2 (if cap = 1 then some ⟨b, o, none⟩ else some ⟨b, o + 1, none⟩) (l3.drop (k + 1)) := by
            split
            · rw [List.drop_eq_nil_of_le (by omega)]; simpa using hBs.take 0
            · exact hBd
          exact ⟨⟨k + 1, _, _, _, by omega, rfl, by rw [hn, Nat.sub_sub], hbA, by omega, by omega, hp', hs7, hEs⟩, by simp only [lenV]; omega⟩
        · have hst : Hid (k = l3.length ∨ l3.getD k 0 ≠ 43) := .inr (by rw [← hxl]; exact hx)
          have hx' : ((x.toNat : Int) == 43) = false := beq_eq_false_iff_ne.2 (fun h => hx (UInt8.toNat_inj.1 (by show x.toNat = 43; omega)))
          have hcv : (convert 114 9 (.slice (some ⟨b, o, none⟩) n cap)).run Tryd.prog wo = .ok (.string ⟨(l3.drop k).toArray⟩) wo := by
            have := str_of (hBs.ext hEr) cap
            rwa [List.length_drop, ← hn] at this
          clear hxl hx hn
          generalize (x.toNat : Int) = z at *
          by_cases hd : l3.drop k = [45]
          · have hnm : Hid ((⟨#[]⟩ : ByteArray) = if l3.drop k = [45] then ⟨#[]⟩ else ⟨(l3.drop k).toArray⟩) := by rw [if_pos hd]; rfl
            rw [hd] at hcv
            go_upto_region 17 with (fail)
            have hf7 := hr7
            have hEf := hEr
            obtain ⟨T, hT⟩ : ∃ T : Tr, T = ⟨n1, d1, n2, d2, ⟨#[]⟩, k, ⟨r3.toArray⟩⟩ := ⟨_, rfl⟩
            have HR := parse_cand h e1 e2 e3 i1 i2 hk hp hst.out hnm.out hT
            have hvT : ∀ w, Calls Tryd.prog 50 #[.agg #[.int .i64 n1, .bool d1, .int .i64 n2, .bool d2, .string ⟨#[]⟩, .int .i64 k, .string ⟨r3.toArray⟩]] w fun e w' => e = .returned (.bool T.ok) ∧ Ext w w' := by rw [hT]; exact fun w => validTrace_any _ w
            have htT : T.ok = true → ∀ w, Calls Tryd.prog 51 #[.agg #[.int .i64 n1, .bool d1, .int .i64 n2, .bool d2, .string ⟨#[]⟩, .int .i64 k, .string ⟨r3.toArray⟩]] w fun e w' => e = .returned (.string (textS T)) ∧ Ext w w' := by rw [hT]; exact fun hk w => text_any _ w (ok_bds hk)
            replace hT := Lib.hid hT
            have lf := hf7.lt
            obtain ⟨t0, t1, t2, t3, t4, t5, t6⟩ := hf7.c7
            clear hp hd hk hst hnm
            cases hok : T.ok
            · rw [hok] at hvT HR
              replace HR := Lib.hid HR
              clear htT
              go_upto_region 18 with (go_at_call 50; (with_reducible refine Calls.mono (hvT _) ?_); rintro e wg ⟨rfl, hg⟩; obtain ⟨t0, t1, t2, t3, t4, t5, t6⟩ := (hf7.ext hg).c7; have lg := (hf7.ext hg).lt)
              have hz3 := (hz2.ext hEf).ext hg
              obtain ⟨z0, z1, z2, z3, z4, z5, z6⟩ := hz3.c7
              obtain ⟨f0, f1, f2, f3, f4, f5, f6⟩ := frozen7 hz3
              go_wp2
              obtain ⟨hs, gE⟩ := seven_set hz3 (.int .i64 0) (.bool false) (.int .i64 0) (.bool false) (.string ⟨#[]⟩) (.int .i64 0) (.string ⟨#[]⟩)
              obtain ⟨q0, q1, q2, q3, q4, q5, q6⟩ := hs.c7
              refine bodyPost_ret (v := .tuple #[.agg #[.int .i64 0, .bool false, .int .i64 0, .bool false, .string ⟨#[]⟩, .int .i64 0, .string ⟨#[]⟩], .int .i64 5]) (by simp [results, Tryd.results15, go_sem, q0, q1, q2, q3, q4, q5, q6]) rfl ⟨by unfold parseV parseE; rw [HR.out]; rfl, gE w (Ext.trans hE2 (Ext.trans hEf hg)) (Nat.le_refl _)⟩
            · replace htT := htT hok
              rw [hok] at hvT HR
              by_cases hts : textS T = s
              · have hbe : ((textS T).toList == s.toList) = true := by rw [hts]; exact beq_self_eq_true _
                rw [hts] at htT HR hbe
                replace HR := Lib.hid (show parseS s = some T by rw [HR]; simp)
                clear hts hok
                go_upto_region 19 with (first | (go_at_call 50; (with_reducible refine Calls.mono (hvT _) ?_); rintro e wg ⟨rfl, hg⟩; obtain ⟨t0, t1, t2, t3, t4, t5, t6⟩ := (hf7.ext hg).c7; have lg := (hf7.ext hg).lt) | (go_at_call 51; (with_reducible refine Calls.mono (htT _) ?_); rintro e wh ⟨rfl, hh⟩; have hh7 := (hf7.ext hg).ext hh; obtain ⟨u0, u1, u2, u3, u4, u5, u6⟩ := hh7.c7; have lh := hh7.lt; have hz3 := ((hz2.ext hEf).ext hg).ext hh; obtain ⟨z0, z1, z2, z3, z4, z5, z6⟩ := hz3.c7; obtain ⟨f0, f1, f2, f3, f4, f5, f6⟩ := frozen7 hz3))
                go_wp2
                obtain ⟨hs, gE⟩ := seven_set hz3 (.int .i64 n1) (.bool d1) (.int .i64 n2) (.bool d2) (.string ⟨#[]⟩) (.int .i64 k) (.string ⟨r3.toArray⟩)
                obtain ⟨q0, q1, q2, q3, q4, q5, q6⟩ := hs.c7
                refine bodyPost_ret (v := .tuple #[.agg #[.int .i64 n1, .bool d1, .int .i64 n2, .bool d2, .string ⟨#[]⟩, .int .i64 k, .string ⟨r3.toArray⟩], .int .i64 0]) (by simp [results, Tryd.results15, go_sem, q0, q1, q2, q3, q4, q5, q6]) rfl ⟨by unfold parseV parseE; rw [HR.out, hT.out]; rfl, gE w (Ext.trans hE2 (Ext.trans (Ext.trans hEf hg) hh)) (Nat.le_refl _)⟩
              · have hbe : ((textS T).toList == s.toList) = false := by rw [Go.ByteArray.toList_eq, Go.ByteArray.toList_eq]; exact beq_eq_false_iff_ne.2 (fun e => hts (ByteArray.ext (Array.toList_inj.1 e)))
                replace HR := Lib.hid (show parseS s = none by rw [HR]; simp [hts])
                generalize textS T = tx at *
                clear hts hok hT
                go_upto_region 18 with (first | (go_at_call 50; (with_reducible refine Calls.mono (hvT _) ?_); rintro e wg ⟨rfl, hg⟩; obtain ⟨t0, t1, t2, t3, t4, t5, t6⟩ := (hf7.ext hg).c7; have lg := (hf7.ext hg).lt) | (go_at_call 51; (with_reducible refine Calls.mono (htT _) ?_); rintro e wh ⟨rfl, hh⟩; have hh7 := (hf7.ext hg).ext hh; obtain ⟨u0, u1, u2, u3, u4, u5, u6⟩ := hh7.c7; have lh := hh7.lt; have hz3 := ((hz2.ext hEf).ext hg).ext hh; obtain ⟨z0, z1, z2, z3, z4, z5, z6⟩ := hz3.c7; obtain ⟨f0, f1, f2, f3, f4, f5, f6⟩ := frozen7 hz3))
                go_wp2
                obtain ⟨hs, gE⟩ := seven_set hz3 (.int .i64 0) (.bool false) (.int .i64 0) (.bool false) (.string ⟨#[]⟩) (.int .i64 0) (.string ⟨#[]⟩)
                obtain ⟨q0, q1, q2, q3, q4, q5, q6⟩ := hs.c7
                refine bodyPost_ret (v := .tuple #[.agg #[.int .i64 0, .bool false, .int .i64 0, .bool false, .string ⟨#[]⟩, .int .i64 0, .string ⟨#[]⟩], .int .i64 5]) (by simp [results, Tryd.results15, go_sem, q0, q1, q2, q3, q4, q5, q6]) rfl ⟨by unfold parseV parseE; rw [HR.out]; rfl, gE w (Ext.trans hE2 (Ext.trans (Ext.trans hEf hg) hh)) (Nat.le_refl _)⟩
          · have hxf : ((⟨(l3.drop k).toArray⟩ : ByteArray).toList == [45]) = false := by rw [Go.ByteArray.toList_eq]; exact beq_eq_false_iff_ne.2 hd
            obtain ⟨X, hX⟩ : ∃ X : ByteArray, X = ⟨(l3.drop k).toArray⟩ := ⟨_, rfl⟩
            have hnm : Hid (X = if l3.drop k = [45] then ⟨#[]⟩ else ⟨(l3.drop k).toArray⟩) := by rw [if_neg hd]; exact hX
            rw [← hX] at hcv hxf
            clear hX
            have f4 := hr7.frozen 4
            have t4 := hr7.c7.2.2.2.2.1
            go_upto_region 17 with (fail)
            have hf7 := set7_4 hr7 (.string X)
            have hEf := hEr.setCell (p := ⟨w2.heap.size, 4, none⟩) (Nat.le_refl _) (.string X)
            clear f4 t4
            generalize World.setCell wo _ _ = wf at *
            obtain ⟨T, hT⟩ : ∃ T : Tr, T = ⟨n1, d1, n2, d2, X, k, ⟨r3.toArray⟩⟩ := ⟨_, rfl⟩
            have HR := parse_cand h e1 e2 e3 i1 i2 hk hp hst.out hnm.out hT
            have hvT : ∀ w, Calls Tryd.prog 50 #[.agg #[.int .i64 n1, .bool d1, .int .i64 n2, .bool d2, .string X, .int .i64 k, .string ⟨r3.toArray⟩]] w fun e w' => e = .returned (.bool T.ok) ∧ Ext w w' := by rw [hT]; exact fun w => validTrace_any _ w
            have htT : T.ok = true → ∀ w, Calls Tryd.prog 51 #[.agg #[.int .i64 n1, .bool d1, .int .i64 n2, .bool d2, .string X, .int .i64 k, .string ⟨r3.toArray⟩]] w fun e w' => e = .returned (.string (textS T)) ∧ Ext w w' := by rw [hT]; exact fun hk w => text_any _ w (ok_bds hk)
            replace hT := Lib.hid hT
            have lf := hf7.lt
            obtain ⟨t0, t1, t2, t3, t4, t5, t6⟩ := hf7.c7
            clear hp hd hk hst hnm
            cases hok : T.ok
            · rw [hok] at hvT HR
              replace HR := Lib.hid HR
              clear htT
              go_upto_region 18 with (go_at_call 50; (with_reducible refine Calls.mono (hvT _) ?_); rintro e wg ⟨rfl, hg⟩; obtain ⟨t0, t1, t2, t3, t4, t5, t6⟩ := (hf7.ext hg).c7; have lg := (hf7.ext hg).lt)
              have hz3 := (hz2.ext hEf).ext hg
              obtain ⟨z0, z1, z2, z3, z4, z5, z6⟩ := hz3.c7
              obtain ⟨f0, f1, f2, f3, f4, f5, f6⟩ := frozen7 hz3
              go_wp2
              obtain ⟨hs, gE⟩ := seven_set hz3 (.int .i64 0) (.bool false) (.int .i64 0) (.bool false) (.string ⟨#[]⟩) (.int .i64 0) (.string ⟨#[]⟩)
              obtain ⟨q0, q1, q2, q3, q4, q5, q6⟩ := hs.c7
              refine bodyPost_ret (v := .tuple #[.agg #[.int .i64 0, .bool false, .int .i64 0, .bool false, .string ⟨#[]⟩, .int .i64 0, .string ⟨#[]⟩], .int .i64 5]) (by simp [results, Tryd.results15, go_sem, q0, q1, q2, q3, q4, q5, q6]) rfl ⟨by unfold parseV parseE; rw [HR.out]; rfl, gE w (Ext.trans hE2 (Ext.trans hEf hg)) (Nat.le_refl _)⟩
            · replace htT := htT hok
              rw [hok] at hvT HR
              by_cases hts : textS T = s
              · have hbe : ((textS T).toList == s.toList) = true := by rw [hts]; exact beq_self_eq_true _
                rw [hts] at htT HR hbe
                replace HR := Lib.hid (show parseS s = some T by rw [HR]; simp)
                clear hts hok
                go_upto_region 19 with (first | (go_at_call 50; (with_reducible refine Calls.mono (hvT _) ?_); rintro e wg ⟨rfl, hg⟩; obtain ⟨t0, t1, t2, t3, t4, t5, t6⟩ := (hf7.ext hg).c7; have lg := (hf7.ext hg).lt) | (go_at_call 51; (with_reducible refine Calls.mono (htT _) ?_); rintro e wh ⟨rfl, hh⟩; have hh7 := (hf7.ext hg).ext hh; obtain ⟨u0, u1, u2, u3, u4, u5, u6⟩ := hh7.c7; have lh := hh7.lt; have hz3 := ((hz2.ext hEf).ext hg).ext hh; obtain ⟨z0, z1, z2, z3, z4, z5, z6⟩ := hz3.c7; obtain ⟨f0, f1, f2, f3, f4, f5, f6⟩ := frozen7 hz3))
                go_wp2
                obtain ⟨hs, gE⟩ := seven_set hz3 (.int .i64 n1) (.bool d1) (.int .i64 n2) (.bool d2) (.string X) (.int .i64 k) (.string ⟨r3.toArray⟩)
                obtain ⟨q0, q1, q2, q3, q4, q5, q6⟩ := hs.c7
                refine bodyPost_ret (v := .tuple #[.agg #[.int .i64 n1, .bool d1, .int .i64 n2, .bool d2, .string X, .int .i64 k, .string ⟨r3.toArray⟩], .int .i64 0]) (by simp [results, Tryd.results15, go_sem, q0, q1, q2, q3, q4, q5, q6]) rfl ⟨by unfold parseV parseE; rw [HR.out, hT.out]; rfl, gE w (Ext.trans hE2 (Ext.trans (Ext.trans hEf hg) hh)) (Nat.le_refl _)⟩
              · have hbe : ((textS T).toList == s.toList) = false := by rw [Go.ByteArray.toList_eq, Go.ByteArray.toList_eq]; exact beq_eq_false_iff_ne.2 (fun e => hts (ByteArray.ext (Array.toList_inj.1 e)))
                replace HR := Lib.hid (show parseS s = none by rw [HR]; simp [hts])
                generalize textS T = tx at *
                clear hts hok hT
                go_upto_region 18 with (first | (go_at_call 50; (with_reducible refine Calls.mono (hvT _) ?_); rintro e wg ⟨rfl, hg⟩; obtain ⟨t0, t1, t2, t3, t4, t5, t6⟩ := (hf7.ext hg).c7; have lg := (hf7.ext hg).lt) | (go_at_call 51; (with_reducible refine Calls.mono (htT _) ?_); rintro e wh ⟨rfl, hh⟩; have hh7 := (hf7.ext hg).ext hh; obtain ⟨u0, u1, u2, u3, u4, u5, u6⟩ := hh7.c7; have lh := hh7.lt; have hz3 := ((hz2.ext hEf).ext hg).ext hh; obtain ⟨z0, z1, z2, z3, z4, z5, z6⟩ := hz3.c7; obtain ⟨f0, f1, f2, f3, f4, f5, f6⟩ := frozen7 hz3))
                go_wp2
                obtain ⟨hs, gE⟩ := seven_set hz3 (.int .i64 0) (.bool false) (.int .i64 0) (.bool false) (.string ⟨#[]⟩) (.int .i64 0) (.string ⟨#[]⟩)
                obtain ⟨q0, q1, q2, q3, q4, q5, q6⟩ := hs.c7
                refine bodyPost_ret (v := .tuple #[.agg #[.int .i64 0, .bool false, .int .i64 0, .bool false, .string ⟨#[]⟩, .int .i64 0, .string ⟨#[]⟩], .int .i64 5]) (by simp [results, Tryd.results15, go_sem, q0, q1, q2, q3, q4, q5, q6]) rfl ⟨by unfold parseV parseE; rw [HR.out]; rfl, gE w (Ext.trans hE2 (Ext.trans (Ext.trans hEf hg) hh)) (Nat.le_refl _)⟩
    · obtain rfl : n = 0 := by omega
      have hst : Hid (k = l3.length ∨ l3.getD k 0 ≠ 43) := .inl (by omega)
      have hcv : (convert 114 9 (.slice A 0 cap)).run Tryd.prog wo = .ok (.string ⟨(l3.drop k).toArray⟩) wo := by
        have := str_of (hA.ext hEr) cap
        rwa [List.length_drop, ← hn] at this
      clear hn
      by_cases hd : l3.drop k = [45]
      · have hnm : Hid ((⟨#[]⟩ : ByteArray) = if l3.drop k = [45] then ⟨#[]⟩ else ⟨(l3.drop k).toArray⟩) := by rw [if_pos hd]; rfl
        rw [hd] at hcv
        go_upto_region 17 with (fail)
        have hf7 := hr7
        have hEf := hEr
        obtain ⟨T, hT⟩ : ∃ T : Tr, T = ⟨n1, d1, n2, d2, ⟨#[]⟩, k, ⟨r3.toArray⟩⟩ := ⟨_, rfl⟩
        have HR := parse_cand h e1 e2 e3 i1 i2 hk hp hst.out hnm.out hT
        have hvT : ∀ w, Calls Tryd.prog 50 #[.agg #[.int .i64 n1, .bool d1, .int .i64 n2, .bool d2, .string ⟨#[]⟩, .int .i64 k, .string ⟨r3.toArray⟩]] w fun e w' => e = .returned (.bool T.ok) ∧ Ext w w' := by rw [hT]; exact fun w => validTrace_any _ w
        have htT : T.ok = true → ∀ w, Calls Tryd.prog 51 #[.agg #[.int .i64 n1, .bool d1, .int .i64 n2, .bool d2, .string ⟨#[]⟩, .int .i64 k, .string ⟨r3.toArray⟩]] w fun e w' => e = .returned (.string (textS T)) ∧ Ext w w' := by rw [hT]; exact fun hk w => text_any _ w (ok_bds hk)
        replace hT := Lib.hid hT
        have lf := hf7.lt
        obtain ⟨t0, t1, t2, t3, t4, t5, t6⟩ := hf7.c7
        clear hp hd hk hst hnm
        cases hok : T.ok
        · rw [hok] at hvT HR
          replace HR := Lib.hid HR
          clear htT
          go_upto_region 18 with (go_at_call 50; (with_reducible refine Calls.mono (hvT _) ?_); rintro e wg ⟨rfl, hg⟩; obtain ⟨t0, t1, t2, t3, t4, t5, t6⟩ := (hf7.ext hg).c7; have lg := (hf7.ext hg).lt)
          have hz3 := (hz2.ext hEf).ext hg
          obtain ⟨z0, z1, z2, z3, z4, z5, z6⟩ := hz3.c7
          obtain ⟨f0, f1, f2, f3, f4, f5, f6⟩ := frozen7 hz3
          go_wp2
          obtain ⟨hs, gE⟩ := seven_set hz3 (.int .i64 0) (.bool false) (.int .i64 0) (.bool false) (.string ⟨#[]⟩) (.int .i64 0) (.string ⟨#[]⟩)
          obtain ⟨q0, q1, q2, q3, q4, q5, q6⟩ := hs.c7
          refine bodyPost_ret (v := .tuple #[.agg #[.int .i64 0, .bool false, .int .i64 0, .bool false, .string ⟨#[]⟩, .int .i64 0, .string ⟨#[]⟩], .int .i64 5]) (by simp [results, Tryd.results15, go_sem, q0, q1, q2, q3, q4, q5, q6]) rfl ⟨by unfold parseV parseE; rw [HR.out]; rfl, gE w (Ext.trans hE2 (Ext.trans hEf hg)) (Nat.le_refl _)⟩
        · replace htT := htT hok
          rw [hok] at hvT HR
          by_cases hts : textS T = s
          · have hbe : ((textS T).toList == s.toList) = true := by rw [hts]; exact beq_self_eq_true _
            rw [hts] at htT HR hbe
            replace HR := Lib.hid (show parseS s = some T by rw [HR]; simp)
            clear hts hok
            go_upto_region 19 with (first | (go_at_call 50; (with_reducible refine Calls.mono (hvT _) ?_); rintro e wg ⟨rfl, hg⟩; obtain ⟨t0, t1, t2, t3, t4, t5, t6⟩ := (hf7.ext hg).c7; have lg := (hf7.ext hg).lt) | (go_at_call 51; (with_reducible refine Calls.mono (htT _) ?_); rintro e wh ⟨rfl, hh⟩; have hh7 := (hf7.ext hg).ext hh; obtain ⟨u0, u1, u2, u3, u4, u5, u6⟩ := hh7.c7; have lh := hh7.lt; have hz3 := ((hz2.ext hEf).ext hg).ext hh; obtain ⟨z0, z1, z2, z3, z4, z5, z6⟩ := hz3.c7; obtain ⟨f0, f1, f2, f3, f4, f5, f6⟩ := frozen7 hz3))
            go_wp2
            obtain ⟨hs, gE⟩ := seven_set hz3 (.int .i64 n1) (.bool d1) (.int .i64 n2) (.bool d2) (.string ⟨#[]⟩) (.int .i64 k) (.string ⟨r3.toArray⟩)
            obtain ⟨q0, q1, q2, q3, q4, q5, q6⟩ := hs.c7
            refine bodyPost_ret (v := .tuple #[.agg #[.int .i64 n1, .bool d1, .int .i64 n2, .bool d2, .string ⟨#[]⟩, .int .i64 k, .string ⟨r3.toArray⟩], .int .i64 0]) (by simp [results, Tryd.results15, go_sem, q0, q1, q2, q3, q4, q5, q6]) rfl ⟨by unfold parseV parseE; rw [HR.out, hT.out]; rfl, gE w (Ext.trans hE2 (Ext.trans (Ext.trans hEf hg) hh)) (Nat.le_refl _)⟩
          · have hbe : ((textS T).toList == s.toList) = false := by rw [Go.ByteArray.toList_eq, Go.ByteArray.toList_eq]; exact beq_eq_false_iff_ne.2 (fun e => hts (ByteArray.ext (Array.toList_inj.1 e)))
            replace HR := Lib.hid (show parseS s = none by rw [HR]; simp [hts])
            generalize textS T = tx at *
            clear hts hok hT
            go_upto_region 18 with (first | (go_at_call 50; (with_reducible refine Calls.mono (hvT _) ?_); rintro e wg ⟨rfl, hg⟩; obtain ⟨t0, t1, t2, t3, t4, t5, t6⟩ := (hf7.ext hg).c7; have lg := (hf7.ext hg).lt) | (go_at_call 51; (with_reducible refine Calls.mono (htT _) ?_); rintro e wh ⟨rfl, hh⟩; have hh7 := (hf7.ext hg).ext hh; obtain ⟨u0, u1, u2, u3, u4, u5, u6⟩ := hh7.c7; have lh := hh7.lt; have hz3 := ((hz2.ext hEf).ext hg).ext hh; obtain ⟨z0, z1, z2, z3, z4, z5, z6⟩ := hz3.c7; obtain ⟨f0, f1, f2, f3, f4, f5, f6⟩ := frozen7 hz3))
            go_wp2
            obtain ⟨hs, gE⟩ := seven_set hz3 (.int .i64 0) (.bool false) (.int .i64 0) (.bool false) (.string ⟨#[]⟩) (.int .i64 0) (.string ⟨#[]⟩)
            obtain ⟨q0, q1, q2, q3, q4, q5, q6⟩ := hs.c7
            refine bodyPost_ret (v := .tuple #[.agg #[.int .i64 0, .bool false, .int .i64 0, .bool false, .string ⟨#[]⟩, .int .i64 0, .string ⟨#[]⟩], .int .i64 5]) (by simp [results, Tryd.results15, go_sem, q0, q1, q2, q3, q4, q5, q6]) rfl ⟨by unfold parseV parseE; rw [HR.out]; rfl, gE w (Ext.trans hE2 (Ext.trans (Ext.trans hEf hg) hh)) (Nat.le_refl _)⟩
      · have hxf : ((⟨(l3.drop k).toArray⟩ : ByteArray).toList == [45]) = false := by rw [Go.ByteArray.toList_eq]; exact beq_eq_false_iff_ne.2 hd
        obtain ⟨X, hX⟩ : ∃ X : ByteArray, X = ⟨(l3.drop k).toArray⟩ := ⟨_, rfl⟩
        have hnm : Hid (X = if l3.drop k = [45] then ⟨#[]⟩ else ⟨(l3.drop k).toArray⟩) := by rw [if_neg hd]; exact hX
        rw [← hX] at hcv hxf
        clear hX
        have f4 := hr7.frozen 4
        have t4 := hr7.c7.2.2.2.2.1
        go_upto_region 17 with (fail)
        have hf7 := set7_4 hr7 (.string X)
        have hEf := hEr.setCell (p := ⟨w2.heap.size, 4, none⟩) (Nat.le_refl _) (.string X)
        clear f4 t4
        generalize World.setCell wo _ _ = wf at *
        obtain ⟨T, hT⟩ : ∃ T : Tr, T = ⟨n1, d1, n2, d2, X, k, ⟨r3.toArray⟩⟩ := ⟨_, rfl⟩
        have HR := parse_cand h e1 e2 e3 i1 i2 hk hp hst.out hnm.out hT
        have hvT : ∀ w, Calls Tryd.prog 50 #[.agg #[.int .i64 n1, .bool d1, .int .i64 n2, .bool d2, .string X, .int .i64 k, .string ⟨r3.toArray⟩]] w fun e w' => e = .returned (.bool T.ok) ∧ Ext w w' := by rw [hT]; exact fun w => validTrace_any _ w
        have htT : T.ok = true → ∀ w, Calls Tryd.prog 51 #[.agg #[.int .i64 n1, .bool d1, .int .i64 n2, .bool d2, .string X, .int .i64 k, .string ⟨r3.toArray⟩]] w fun e w' => e = .returned (.string (textS T)) ∧ Ext w w' := by rw [hT]; exact fun hk w => text_any _ w (ok_bds hk)
        replace hT := Lib.hid hT
        have lf := hf7.lt
        obtain ⟨t0, t1, t2, t3, t4, t5, t6⟩ := hf7.c7
        clear hp hd hk hst hnm
        cases hok : T.ok
        · rw [hok] at hvT HR
          replace HR := Lib.hid HR
          clear htT
          go_upto_region 18 with (go_at_call 50; (with_reducible refine Calls.mono (hvT _) ?_); rintro e wg ⟨rfl, hg⟩; obtain ⟨t0, t1, t2, t3, t4, t5, t6⟩ := (hf7.ext hg).c7; have lg := (hf7.ext hg).lt)
          have hz3 := (hz2.ext hEf).ext hg
          obtain ⟨z0, z1, z2, z3, z4, z5, z6⟩ := hz3.c7
          obtain ⟨f0, f1, f2, f3, f4, f5, f6⟩ := frozen7 hz3
          go_wp2
          obtain ⟨hs, gE⟩ := seven_set hz3 (.int .i64 0) (.bool false) (.int .i64 0) (.bool false) (.string ⟨#[]⟩) (.int .i64 0) (.string ⟨#[]⟩)
          obtain ⟨q0, q1, q2, q3, q4, q5, q6⟩ := hs.c7
          refine bodyPost_ret (v := .tuple #[.agg #[.int .i64 0, .bool false, .int .i64 0, .bool false, .string ⟨#[]⟩, .int .i64 0, .string ⟨#[]⟩], .int .i64 5]) (by simp [results, Tryd.results15, go_sem, q0, q1, q2, q3, q4, q5, q6]) rfl ⟨by unfold parseV parseE; rw [HR.out]; rfl, gE w (Ext.trans hE2 (Ext.trans hEf hg)) (Nat.le_refl _)⟩
        · replace htT := htT hok
          rw [hok] at hvT HR
          by_cases hts : textS T = s
          · have hbe : ((textS T).toList == s.toList) = true := by rw [hts]; exact beq_self_eq_true _
            rw [hts] at htT HR hbe
            replace HR := Lib.hid (show parseS s = some T by rw [HR]; simp)
            clear hts hok
            go_upto_region 19 with (first | (go_at_call 50; (with_reducible refine Calls.mono (hvT _) ?_); rintro e wg ⟨rfl, hg⟩; obtain ⟨t0, t1, t2, t3, t4, t5, t6⟩ := (hf7.ext hg).c7; have lg := (hf7.ext hg).lt) | (go_at_call 51; (with_reducible refine Calls.mono (htT _) ?_); rintro e wh ⟨rfl, hh⟩; have hh7 := (hf7.ext hg).ext hh; obtain ⟨u0, u1, u2, u3, u4, u5, u6⟩ := hh7.c7; have lh := hh7.lt; have hz3 := ((hz2.ext hEf).ext hg).ext hh; obtain ⟨z0, z1, z2, z3, z4, z5, z6⟩ := hz3.c7; obtain ⟨f0, f1, f2, f3, f4, f5, f6⟩ := frozen7 hz3))
            go_wp2
            obtain ⟨hs, gE⟩ := seven_set hz3 (.int .i64 n1) (.bool d1) (.int .i64 n2) (.bool d2) (.string X) (.int .i64 k) (.string ⟨r3.toArray⟩)
            obtain ⟨q0, q1, q2, q3, q4, q5, q6⟩ := hs.c7
            refine bodyPost_ret (v := .tuple #[.agg #[.int .i64 n1, .bool d1, .int .i64 n2, .bool d2, .string X, .int .i64 k, .string ⟨r3.toArray⟩], .int .i64 0]) (by simp [results, Tryd.results15, go_sem, q0, q1, q2, q3, q4, q5, q6]) rfl ⟨by unfold parseV parseE; rw [HR.out, hT.out]; rfl, gE w (Ext.trans hE2 (Ext.trans (Ext.trans hEf hg) hh)) (Nat.le_refl _)⟩
          · have hbe : ((textS T).toList == s.toList) = false := by rw [Go.ByteArray.toList_eq, Go.ByteArray.toList_eq]; exact beq_eq_false_iff_ne.2 (fun e => hts (ByteArray.ext (Array.toList_inj.1 e)))
            replace HR := Lib.hid (show parseS s = none by rw [HR]; simp [hts])
            generalize textS T = tx at *
            clear hts hok hT
            go_upto_region 18 with (first | (go_at_call 50; (with_reducible refine Calls.mono (hvT _) ?_); rintro e wg ⟨rfl, hg⟩; obtain ⟨t0, t1, t2, t3, t4, t5, t6⟩ := (hf7.ext hg).c7; have lg := (hf7.ext hg).lt) | (go_at_call 51; (with_reducible refine Calls.mono (htT _) ?_); rintro e wh ⟨rfl, hh⟩; have hh7 := (hf7.ext hg).ext hh; obtain ⟨u0, u1, u2, u3, u4, u5, u6⟩ := hh7.c7; have lh := hh7.lt; have hz3 := ((hz2.ext hEf).ext hg).ext hh; obtain ⟨z0, z1, z2, z3, z4, z5, z6⟩ := hz3.c7; obtain ⟨f0, f1, f2, f3, f4, f5, f6⟩ := frozen7 hz3))
            go_wp2
            obtain ⟨hs, gE⟩ := seven_set hz3 (.int .i64 0) (.bool false) (.int .i64 0) (.bool false) (.string ⟨#[]⟩) (.int .i64 0) (.string ⟨#[]⟩)
            obtain ⟨q0, q1, q2, q3, q4, q5, q6⟩ := hs.c7
            refine bodyPost_ret (v := .tuple #[.agg #[.int .i64 0, .bool false, .int .i64 0, .bool false, .string ⟨#[]⟩, .int .i64 0, .string ⟨#[]⟩], .int .i64 5]) (by simp [results, Tryd.results15, go_sem, q0, q1, q2, q3, q4, q5, q6]) rfl ⟨by unfold parseV parseE; rw [HR.out]; rfl, gE w (Ext.trans hE2 (Ext.trans (Ext.trans hEf hg) hh)) (Nat.le_refl _)⟩
theorem parse_long (s : ByteArray) (w : World) (h : 65536 < s.size) (h63 : s.size ≤ 9223372036854775807) :
    Calls Tryd.prog 15 #[.string s] w fun e w' => e = .returned (.tuple #[zTr.val, .int .i64 5]) ∧ Ext w w' := by
  go_enter Tryd.func15, Tryd.ntmps15
  go_wp2
  refine bodyPost_ret (v := .tuple #[zTr.val, .int .i64 5]) (by simp [results, Tryd.results15, go_sem, zTr, Tr.val]) rfl ⟨rfl, (by repeat (first | exact Ext.refl _ | (refine Ext.alloc ?_ _) | (refine Ext.trans ?_ (by assumption))))⟩
theorem parseX_any (s : ByteArray) (w : World) (h63 : s.size ≤ 9223372036854775807) :
    Calls Tryd.prog 15 #[.string s] w fun e w' => e = .returned (.tuple #[(parseV s).val, .int .i64 (parseE s)]) ∧ Ext w w' := by
  by_cases h : 65536 < s.size
  · have hn : parseS s = none := if_pos h
    have := parse_long s w h h63
    unfold parseV parseE
    rw [hn]
    exact this
  · have h : s.size ≤ 65536 := by omega
    obtain ⟨⟨l1, r1, b1⟩, e1⟩ : ∃ x, cutL s.data.toList 47 = x := ⟨_, rfl⟩
    obtain ⟨⟨l2, r2, b2⟩, e2⟩ : ∃ x, cutL r1 47 = x := ⟨_, rfl⟩
    cases hb : (b1 && b2)
    · have hn : parseS s = none := by
        unfold parseS candL
        simp only [e1, e2, hb]
        rw [if_neg (by omega)]
        rfl
      have := parse_no s w h e1 e2 hb
      unfold parseV parseE
      rw [hn]
      exact this
    · rw [Bool.and_eq_true] at hb
      obtain ⟨rfl, rfl⟩ := hb
      obtain ⟨⟨l3, r3, b3⟩, e3⟩ : ∃ x, cutL r2 64 = x := ⟨_, rfl⟩
      obtain ⟨⟨n1, d1⟩, i1⟩ : ∃ x, readL l1 43 = x := ⟨_, rfl⟩
      obtain ⟨⟨n2, d2⟩, i2⟩ : ∃ x, readL l2 98 = x := ⟨_, rfl⟩
      exact parse_yes s w h e1 e2 e3 i1 i2
end Go.Proofs.YtlnjeklmkjgidaaDoor

namespace Go.Proofs.YtlnjeklmkjgidaaDoor

end Go.Proofs.YtlnjeklmkjgidaaDoor

namespace Go.Proofs.YtlnjeklmkjgidaaDoor

/-! ### Reign, YearOf, Named, Whole -/
def Cal.kingOf (c : Cal) (i : Nat) : ByteArray := c.kg (c.yr i).k.toNat
def zTrace : Tr := ⟨0, false, 0, false, ⟨#[]⟩, 0, ⟨#[]⟩⟩
def Cal.wholeT (c : Cal) (d : Dt) : Tr := ⟨d.d, false, d.m, d.s, (c.yrI d.y).nm, 0, c.kg (c.yrI d.y).k.toNat⟩
def Cal.wholeV (c : Cal) (d : Dt) : Tr := if c.inE d = 0 then c.wholeT d else zTrace

/-! ### What a valid calendar is -/
structure CalOk (c : Cal) : Prop where
  nk : 1 ≤ c.nk ∧ c.nk ≤ 40
  ny : 1 ≤ c.ny ∧ c.ny ≤ 400
  kname : ∀ i, i < c.nk → isName (c.kg i) = true
  kne : ∀ i j, j < i → i < c.nk → c.kg j ≠ c.kg i
  yk : ∀ i, i < c.ny → c.prevK i ≤ (c.yr i).k ∧ (c.yr i).k < c.nk
  yname : ∀ i, i < c.ny → isName (c.yr i).nm = true
  yne : ∀ i j, j < i → i < c.ny → ¬ ((c.yr j).k = (c.yr i).k ∧ (c.yr j).nm = (c.yr i).nm)
  shape : ∀ i, i < c.ny → (c.yr i).shapeOk = true
theorem valid_iff {c : Cal} : c.valid = true ↔ CalOk c := by
  unfold Cal.valid Cal.kingsOk
  simp only [Bool.and_eq_true, decide_eq_true_eq, List.all_eq_true, List.mem_range, Cal.kingOk, Cal.yearOk, Bool.not_eq_true', Cal.hadTo, List.any_eq_false, Yr.alike]
  constructor
  · rintro ⟨⟨⟨⟨⟨h1, h2⟩, h3⟩, h4⟩, h5⟩, h6⟩
    exact ⟨⟨h1, h2⟩, ⟨h4, h5⟩, fun i hi => (h3 i hi).1, fun i j hj hi => (h3 i hi).2 j hj, fun i hi => ⟨(h6 i hi).1.1.1.1, (h6 i hi).1.1.1.2⟩, fun i hi => (h6 i hi).1.1.2, fun i j hj hi => (h6 i hi).1.2 j hj, fun i hi => (h6 i hi).2⟩
  · intro h
    exact ⟨⟨⟨⟨h.nk, fun i hi => ⟨h.kname i hi, fun j hj => h.kne i j hj hi⟩⟩, h.ny.1⟩, h.ny.2⟩, fun i hi => ⟨⟨⟨⟨(h.yk i hi).1, (h.yk i hi).2⟩, h.yname i hi⟩, fun j hj => h.yne i j hj hi⟩, h.shape i hi⟩⟩
theorem CalOk.k0 {c : Cal} (h : CalOk c) : ∀ {i : Nat}, i < c.ny → 0 ≤ (c.yr i).k
  | 0, hi => (h.yk 0 hi).1
  | i + 1, hi => Int.le_trans (h.k0 (show i < c.ny by omega)) (h.yk (i + 1) hi).1
theorem CalOk.mono {c : Cal} (h : CalOk c) {i : Nat} : ∀ {j : Nat}, i ≤ j → j < c.ny → (c.yr i).k ≤ (c.yr j).k
  | 0, hij, _ => by obtain rfl : i = 0 := by omega
                    exact Int.le_refl _
  | j + 1, hij, hj => by
    rcases Nat.lt_or_ge j i with h' | h'
    · obtain rfl : i = j + 1 := by omega
      exact Int.le_refl _
    · exact Int.le_trans (h.mono h' (by omega)) (h.yk (j + 1) hj).1
theorem CalOk.kinj {c : Cal} (h : CalOk c) {i j : Nat} (hi : i < c.nk) (hj : j < c.nk) (e : c.kg i = c.kg j) : i = j := by
  rcases Nat.lt_trichotomy i j with h1 | h1 | h1
  · exact absurd e (h.kne j i h1 hj)
  · exact h1
  · exact absurd e.symm (h.kne i j h1 hi)
/-- Two years with kings of the same name have the same king. -/
theorem CalOk.king_iff {c : Cal} (h : CalOk c) {i j : Nat} (hi : i < c.ny) (hj : j < c.ny) : c.kingOf i = c.kingOf j ↔ (c.yr i).k = (c.yr j).k := by
  unfold Cal.kingOf
  constructor
  · intro e
    have a1 := h.k0 hi
    have a2 := h.k0 hj
    have b1 := (h.yk i hi).2
    have b2 := (h.yk j hj).2
    have := h.kinj (by omega) (by omega) e
    omega
  · intro e; rw [e]
theorem emptyB_no {s : ByteArray} (h : isName s = true) : emptyB s = false := by
  simp only [isName, Bool.and_eq_true, decide_eq_true_eq] at h
  unfold emptyB
  obtain ⟨⟨l⟩⟩ := s
  cases l with
  | nil => have := h.1.1.1; simp [ByteArray.size] at this
  | cons a l => rfl
/-- The name and the king of a year are those of this year alone. -/
theorem CalOk.alone {c : Cal} (h : CalOk c) {i y : Nat} (hi : i < c.ny) (hy : y < c.ny) (h1 : (c.yr i).nm = (c.yr y).nm) (h2 : c.kingOf i = c.kingOf y) : i = y := by
  have h3 := (h.king_iff hi hy).1 h2
  rcases Nat.lt_trichotomy i y with h4 | h4 | h4
  · exact absurd ⟨h3, h1⟩ (h.yne y i h4 hy)
  · exact h4
  · exact absurd ⟨h3.symm, h1.symm⟩ (h.yne i y h4 hi)
theorem whole_parts (c : Cal) (d : Dt) : (c.wholeT d).d = d.d ∧ (c.wholeT d).more = false ∧ (c.wholeT d).m = d.m ∧ (c.wholeT d).s = d.s ∧ (c.wholeT d).nm = (c.yrI d.y).nm ∧ (c.wholeT d).af = 0 ∧ (c.wholeT d).kg = c.kg (c.yrI d.y).k.toNat := ⟨rfl, rfl, rfl, rfl, rfl, rfl, rfl⟩
theorem wholeT_ok {c : Cal} (hv : c.valid = true) {d : Dt} (hd : c.has d = true) : (c.wholeT d).ok = true := by
  have h := valid_iff.1 hv
  obtain ⟨⟨h1, h2⟩, ⟨h3, h4⟩, h5, h6, h7⟩ := has_iff.1 hd
  have hy : d.y.toNat < c.ny := by omega
  have n1 : isName (c.yrI d.y).nm = true := h.yname _ hy
  have n2 : isName (c.kg (c.yrI d.y).k.toNat) = true := h.kname _ (by have a1 := h.k0 hy; have a2 := (h.yk _ hy).2; unfold Cal.yrI; omega)
  have hl := (len_29 (c.yrI d.y) d.m d.s).2
  obtain ⟨e1, e2, e3, e4, e5, e6, e7⟩ := whole_parts c d
  generalize c.wholeT d = t at *
  simp only [Tr.ok, Bool.and_eq_true, decide_eq_true_eq, Bool.or_eq_true, Bool.not_eq_true', e1, e2, e3, e4, e5, e6, e7, n1, n2, emptyB_no n1, emptyB_no n2]
  refine ⟨⟨⟨⟨⟨⟨⟨⟨⟨⟨by omega, by omega⟩, by simp⟩, by omega⟩, by omega⟩, .inr (by omega)⟩, by simp⟩, Int.le_refl _⟩, by omega⟩, by simp⟩, by simp⟩
/-- Of the whole trace of a date exactly this date fits. -/
theorem whole_fits {c : Cal} (hv : c.valid = true) {d x : Dt} (hd : c.has d = true) (hx : c.has x = true) : c.fits (c.wholeT d) x = true ↔ x = d := by
  have h := valid_iff.1 hv
  obtain ⟨⟨h1, h2⟩, ⟨h3, h4⟩, h5, h6, h7⟩ := has_iff.1 hd
  obtain ⟨⟨x1, x2⟩, ⟨x3, x4⟩, x5, x6, x7⟩ := has_iff.1 hx
  have hy : d.y.toNat < c.ny := by omega
  have hxy : x.y.toNat < c.ny := by omega
  have n1 : isName (c.yrI d.y).nm = true := h.yname _ hy
  have n2 : isName (c.kg (c.yrI d.y).k.toNat) = true := h.kname _ (by have a1 := h.k0 hy; have a2 := (h.yk _ hy).2; unfold Cal.yrI; omega)
  obtain ⟨e1, e2, e3, e4, e5, e6, e7⟩ := whole_parts c d
  generalize c.wholeT d = t at *
  simp only [Cal.fits, Cal.inMonth, Tr.onDay, Cal.yearFits, e1, e2, e3, e4, e5, e6, e7, emptyB_no n1, emptyB_no n2, Bool.false_or, Bool.false_and, Bool.or_false, Bool.and_eq_true, decide_eq_true_eq, Bool.or_eq_true, beq_iff_eq, Int.sub_zero]
  clear e1 e2 e3 e4 e5 e6 e7
  constructor
  · rintro ⟨⟨h8, h9, h10⟩, h11⟩
    have : x.y.toNat = d.y.toNat := h.alone hxy hy h9.2 h10
    obtain ⟨xy, xm, xs, xd⟩ := x
    obtain ⟨dy, dm, ds, dd⟩ := d
    simp only at *
    rcases h8 with h8 | ⟨h8, h12⟩
    · omega
    · rcases h11 with h11 | h11
      · omega
      · rw [show xy = dy by omega, h8, h12, h11]
  · intro e
    subst e
    exact ⟨⟨.inr ⟨rfl, rfl⟩, ⟨⟨h1, rfl⟩, rfl⟩⟩, .inr rfl⟩
end Go.Proofs.YtlnjeklmkjgidaaDoor

namespace Go.Proofs.YtlnjeklmkjgidaaDoor

def Tr.mask (t : Tr) (b1 b2 b3 b4 : Bool) : Tr := ⟨if b1 then 0 else t.d, t.more, if b2 then 0 else t.m, if b2 then false else t.s, if b3 then ⟨#[]⟩ else t.nm, t.af, if b4 then ⟨#[]⟩ else t.kg⟩
theorem mask_ok {c : Cal} (hv : c.valid = true) {d : Dt} (hd : c.has d = true) (b1 b2 b3 b4 : Bool) : ((c.wholeT d).mask b1 b2 b3 b4).ok = true := by
  have h := wholeT_ok hv hd
  obtain ⟨e1, e2, e3, e4, e5, e6, e7⟩ := whole_parts c d
  generalize c.wholeT d = t at *
  have hn : emptyB (⟨#[]⟩ : ByteArray) = true := rfl
  simp only [Tr.ok, Bool.and_eq_true, decide_eq_true_eq, Bool.or_eq_true, Bool.not_eq_true'] at h ⊢
  obtain ⟨⟨⟨⟨⟨⟨⟨⟨⟨⟨h1, h2⟩, h3⟩, h4⟩, h5⟩, h6⟩, h7⟩, h8⟩, h9⟩, h10⟩, h11⟩ := h
  refine ⟨⟨⟨⟨⟨⟨⟨⟨⟨⟨?_, ?_⟩, .inl e2⟩, ?_⟩, ?_⟩, ?_⟩, ?_⟩, ?_⟩, ?_⟩, .inr e6⟩, ?_⟩
  · cases b1 <;> simp [Tr.mask] <;> omega
  · cases b1 <;> simp [Tr.mask] <;> omega
  · cases b2 <;> simp [Tr.mask] <;> omega
  · cases b2 <;> simp [Tr.mask] <;> omega
  · cases b2
    · exact h6
    · exact .inl rfl
  · cases b3
    · exact h7
    · exact .inl rfl
  · exact h8
  · exact h9
  · cases b4
    · exact h11
    · exact .inl rfl
theorem mask_fits {c : Cal} (hv : c.valid = true) {d : Dt} (hd : c.has d = true) (b1 b2 b3 b4 : Bool) : c.fits ((c.wholeT d).mask b1 b2 b3 b4) d = true := by
  have h := (whole_fits hv hd hd).2 rfl
  generalize c.wholeT d = t at *
  have hn : emptyB (⟨#[]⟩ : ByteArray) = true := rfl
  simp only [Cal.fits, Cal.inMonth, Tr.onDay, Cal.yearFits, Bool.and_eq_true, decide_eq_true_eq, Bool.or_eq_true, beq_iff_eq] at h ⊢
  obtain ⟨⟨h1, h2, h3⟩, h4⟩ := h
  refine ⟨⟨?_, ?_, ?_⟩, ?_⟩
  · cases b2
    · exact h1
    · exact .inl rfl
  · cases b3
    · exact h2
    · exact .inl rfl
  · cases b4
    · exact h3
    · exact .inl rfl
  · cases b1
    · exact h4
    · exact .inl (.inl rfl)
theorem mask_in {c : Cal} (hv : c.valid = true) {n : Int} {d : Dt} (h : c.at? n = some d) (b1 b2 b3 b4 : Bool) : inS (c.spans ((c.wholeT d).mask b1 b2 b3 b4)) n := fit_iff.1 ⟨d, h, mask_fits hv (at_has h).1 b1 b2 b3 b4⟩
end Go.Proofs.YtlnjeklmkjgidaaDoor

namespace Go.Proofs.YtlnjeklmkjgidaaDoor
open Go Go.RowKit
attribute [local go_sem] gv_yes

theorem inE_yes {c : Cal} {d : Dt} (h : c.inE d = 0) : c.valid = true ∧ c.has d = true := by
  rcases inE_cases c d with ⟨_, hE⟩ | ⟨_, _, hE⟩ | ⟨hv, hh, _⟩
  · rw [hE] at h; cases h
  · rw [hE] at h; cases h
  · exact ⟨hv, hh⟩
set_option maxRecDepth 100000 in
set_option maxHeartbeats 4000000 in
theorem wholeD_any (A A' : Option Addr) (ca cb : Nat) (c : Cal) (d : Dt) (w : World) (hC : CalAt w A ca A' cb c) :
    Calls Tryd.prog 12 #[.agg #[.slice A c.nk ca, .slice A' c.ny cb], .agg #[.int .i64 d.y, .int .i64 d.m, .bool d.s, .int .i64 d.d]] w fun e w' => e = .returned (.tuple #[(c.wholeV d).val, .int .i64 (c.inE d)]) ∧ Ext w w' := by
  have NT := fun v {Bx : Option Addr} (h : CalAt v A ca A' cb c) (h' : RowsAt v Bx 1 4 (fun _ => dcells d)) => checks_any A A' ca cb c Bx 1 1 (fun _ => d) v h h' (by omega)
  simp only [checks_one] at NT
  by_cases hE : c.inE d = 0
  · obtain ⟨hv, hh⟩ := inE_yes hE
    have HR : Hid (c.wholeV d = c.wholeT d ∧ c.inE d = 0) := ⟨by unfold Cal.wholeV; rw [if_pos hE], hE⟩
    obtain ⟨⟨hy0, hy1⟩, _⟩ := has_iff.1 hh
    have ok := valid_iff.1 hv
    have hkk0 : 0 ≤ (c.yrI d.y).k := ok.k0 (i := d.y.toNat) (by omega)
    have hkk1 : (c.yrI d.y).k < c.nk := (ok.yk d.y.toNat (by omega)).2
    have hny := ok.ny.2
    have hnk := ok.nk.2
    simp only [hE] at NT
    clear hv hh hE ok
    go_enter Tryd.func12, Tryd.ntmps12
    go_upto_region 1 with (fail)
    obtain ⟨v, hv⟩ : ∃ v, v = (((w.alloc (.cells #[.slice A c.nk ca, .slice A' c.ny cb] 25)).alloc (.cells #[.int .i64 d.y, .int .i64 d.m, .bool d.s, .int .i64 d.d] 29)).alloc (.cells #[.int .i64 0, .bool false, .int .i64 0, .bool false, .string ⟨#[]⟩, .int .i64 0, .string ⟨#[]⟩] 34)) := ⟨_, rfl⟩
    rw [← hv]
    have E : Ext w v := by rw [hv]; exact (((Ext.refl _).alloc _).alloc _).alloc _
    have B1 : Held v w.heap.size 25 #[.slice A c.nk ca, .slice A' c.ny cb] := by rw [hv]; exact ((Held.new _ _ _).alloc _).alloc _
    have B2 : Held v (w.heap.size + 1) 29 #[.int .i64 d.y, .int .i64 d.m, .bool d.s, .int .i64 d.d] := by rw [hv]; exact (Held.at _ _ _ _ (by simp)).alloc _
    have B3 : Held v (w.heap.size + 1 + 1) 34 #[.int .i64 0, .bool false, .int .i64 0, .bool false, .string ⟨#[]⟩, .int .i64 0, .string ⟨#[]⟩] := by rw [hv]; exact Held.at _ _ _ _ (by simp)
    clear hv
    have C := hC.ext E
    clear hC
    generalize hb1 : w.heap.size = b1 at *
    replace hb1 := Lib.hid hb1
    obtain ⟨k0, k1⟩ := B1.c2; have lk := B1.lt
    obtain ⟨p0, p1, p2, p3⟩ := B2.c4; have lp := B2.lt
    obtain ⟨q0, q1, q2, q3, q4, q5, q6⟩ := B3.c7; have lq := B3.lt
    go_upto_region 2 with (go_at_call 48; (with_reducible refine Calls.mono (NT _ (C.ext ((Ext.refl _).alloc _)) (rows_one (t := 29) (Held.new _ _ _))) ?_); rintro e v2 ⟨rfl, hq⟩)
    have h : Ext v v2 := Ext.trans ((Ext.refl _).alloc _) hq
    clear hq
    replace E := Ext.trans E h
    replace C := C.ext h
    replace B1 := B1.ext h
    replace B2 := B2.ext h
    replace B3 := B3.ext h
    clear h
    clear k0 k1 lk
    clear p0 p1 p2 p3 lp
    clear q0 q1 q2 q3 q4 q5 q6 lq
    obtain ⟨k0, k1⟩ := B1.c2; have lk := B1.lt
    obtain ⟨p0, p1, p2, p3⟩ := B2.c4; have lp := B2.lt
    obtain ⟨q0, q1, q2, q3, q4, q5, q6⟩ := B3.c7; have lq := B3.lt
    obtain ⟨yb, yo, hA', hyb, y0, y1, y2, y3⟩ := C.yearI hy0 hy1
    subst hA'
    go_upto_region 5 with (fail)
    obtain ⟨v3, hv⟩ : ∃ v, v = v2.alloc (.cells #[.int .i64 (c.yrI d.y).k, .string (c.yrI d.y).nm, .int .i64 (c.yrI d.y).lg, .int .i64 (c.yrI d.y).db] 110) := ⟨_, rfl⟩
    rw [← hv]
    have h : Ext v2 v3 := by rw [hv]; exact (Ext.refl _).alloc _
    have B4 : Held v3 v2.heap.size 110 #[.int .i64 (c.yrI d.y).k, .string (c.yrI d.y).nm, .int .i64 (c.yrI d.y).lg, .int .i64 (c.yrI d.y).db] := by rw [hv]; exact Held.new _ _ _
    clear hv
    generalize v2.heap.size = b4 at *
    replace E := Ext.trans E h
    replace C := C.ext h
    replace B1 := B1.ext h
    replace B2 := B2.ext h
    replace B3 := B3.ext h
    clear h
    clear k0 k1 lk
    clear p0 p1 p2 p3 lp
    clear q0 q1 q2 q3 q4 q5 q6 lq
    obtain ⟨k0, k1⟩ := B1.c2; have lk := B1.lt
    obtain ⟨p0, p1, p2, p3⟩ := B2.c4; have lp := B2.lt
    obtain ⟨q0, q1, q2, q3, q4, q5, q6⟩ := B3.c7; have lq := B3.lt
    obtain ⟨r0, r1, r2, r3⟩ := B4.c4; have lr := B4.lt
    obtain ⟨kb, ko, hA, hkb, q9⟩ := C.kingI hkk0 hkk1
    subst hA
    clear y0 y1 y2 y3
    obtain ⟨f0, f1, f2, f3, f4, f5, f6⟩ := frozen7 B3
    refine wp_region_xs 15 v3 mixed (by kernel_rfl) (by repeat (first | exact Ext.refl _ | (refine Ext.alloc ?_ _) | (refine Ext.trans ?_ (by assumption)))) ?_
    intro hne hrx hry
    try simp only []
    try simp only [List.append_eq, List.cons_append, List.nil_append]
    simp only [List.take_succ_cons, List.take_zero, List.drop_succ_cons, List.drop_zero]
    skip
    repeat (first
      | go_big_quiet_skip
      | (go_big_quiet_want; go_big_quiet_op; go_big_quiet_on))
    clear hne hry hrx
    refine wpQuiet_nil ?_
    intro v4 h
    obtain ⟨hcv4, hfv4, hzv4⟩ := Ext.rules h
    try simp only [World.size_alloc] at hzv4
    obtain ⟨hcbv4, hfbv4, hzbv4⟩ := Ext.rules (show Ext v3 v4 from (by repeat (first | exact Ext.refl _ | (refine Ext.alloc ?_ _) | (refine Ext.trans ?_ (by assumption)))))
    clear hcv4 hfv4
    have hrb := B3.ext h
    have lq4 := hrb.lt
    go_wp2
    obtain ⟨hs, gE⟩ := seven_set hrb (.int .i64 d.d) (.bool false) (.int .i64 d.m) (.bool d.s) (.string (c.yrI d.y).nm) (.int .i64 0) (.string (c.kg (c.yrI d.y).k.toNat))
    obtain ⟨g0, g1, g2, g3, g4, g5, g6⟩ := hs.c7
    refine bodyPost_ret (v := .tuple #[.agg #[.int .i64 d.d, .bool false, .int .i64 d.m, .bool d.s, .string (c.yrI d.y).nm, .int .i64 0, .string (c.kg (c.yrI d.y).k.toNat)], .int .i64 0]) (by simp [results, Tryd.results12, go_sem, g0, g1, g2, g3, g4, g5, g6]) rfl ⟨by rw [HR.out.1, HR.out.2]; rfl, gE w (E.trans h) (by have := hb1.out; omega)⟩
  · have hne : (c.inE d == 0) = false := beq_eq_false_iff_ne.2 hE
    have HR : Hid (c.wholeV d = zTrace) := by unfold Hid Cal.wholeV; rw [if_neg hE]
    clear hE
    generalize c.inE d = ee at *
    go_enter Tryd.func12, Tryd.ntmps12
    go_upto_region 1 with (fail)
    obtain ⟨v, hv⟩ : ∃ v, v = (((w.alloc (.cells #[.slice A c.nk ca, .slice A' c.ny cb] 25)).alloc (.cells #[.int .i64 d.y, .int .i64 d.m, .bool d.s, .int .i64 d.d] 29)).alloc (.cells #[.int .i64 0, .bool false, .int .i64 0, .bool false, .string ⟨#[]⟩, .int .i64 0, .string ⟨#[]⟩] 34)) := ⟨_, rfl⟩
    rw [← hv]
    have E : Ext w v := by rw [hv]; exact (((Ext.refl _).alloc _).alloc _).alloc _
    have B1 : Held v w.heap.size 25 #[.slice A c.nk ca, .slice A' c.ny cb] := by rw [hv]; exact ((Held.new _ _ _).alloc _).alloc _
    have B2 : Held v (w.heap.size + 1) 29 #[.int .i64 d.y, .int .i64 d.m, .bool d.s, .int .i64 d.d] := by rw [hv]; exact (Held.at _ _ _ _ (by simp)).alloc _
    have B3 : Held v (w.heap.size + 1 + 1) 34 #[.int .i64 0, .bool false, .int .i64 0, .bool false, .string ⟨#[]⟩, .int .i64 0, .string ⟨#[]⟩] := by rw [hv]; exact Held.at _ _ _ _ (by simp)
    clear hv
    have C := hC.ext E
    clear hC
    generalize hb1 : w.heap.size = b1 at *
    replace hb1 := Lib.hid hb1
    obtain ⟨k0, k1⟩ := B1.c2; have lk := B1.lt
    obtain ⟨p0, p1, p2, p3⟩ := B2.c4; have lp := B2.lt
    obtain ⟨q0, q1, q2, q3, q4, q5, q6⟩ := B3.c7; have lq := B3.lt
    go_upto_region 2 with (go_at_call 48; (with_reducible refine Calls.mono (NT _ (C.ext ((Ext.refl _).alloc _)) (rows_one (t := 29) (Held.new _ _ _))) ?_); rintro e v2 ⟨rfl, hq⟩)
    have h : Ext v v2 := Ext.trans ((Ext.refl _).alloc _) hq
    clear hq
    replace E := Ext.trans E h
    replace C := C.ext h
    replace B1 := B1.ext h
    replace B2 := B2.ext h
    replace B3 := B3.ext h
    clear h
    clear k0 k1 lk
    clear p0 p1 p2 p3 lp
    clear q0 q1 q2 q3 q4 q5 q6 lq
    obtain ⟨k0, k1⟩ := B1.c2; have lk := B1.lt
    obtain ⟨p0, p1, p2, p3⟩ := B2.c4; have lp := B2.lt
    obtain ⟨q0, q1, q2, q3, q4, q5, q6⟩ := B3.c7; have lq := B3.lt
    obtain ⟨f0, f1, f2, f3, f4, f5, f6⟩ := frozen7 B3
    go_wp2
    obtain ⟨hs, gE⟩ := seven_set B3 (.int .i64 0) (.bool false) (.int .i64 0) (.bool false) (.string ⟨#[]⟩) (.int .i64 0) (.string ⟨#[]⟩)
    obtain ⟨g0, g1, g2, g3, g4, g5, g6⟩ := hs.c7
    refine bodyPost_ret (v := .tuple #[.agg #[.int .i64 0, .bool false, .int .i64 0, .bool false, .string ⟨#[]⟩, .int .i64 0, .string ⟨#[]⟩], .int .i64 ee]) (by simp [results, Tryd.results12, go_sem, g0, g1, g2, g3, g4, g5, g6]) rfl ⟨by rw [HR.out]; rfl, gE w E (by have := hb1.out; omega)⟩
end Go.Proofs.YtlnjeklmkjgidaaDoor

namespace Go.Proofs.YtlnjeklmkjgidaaDoor

theorem serL_get' {sp : Nat → List Sp} {n i : Nat} (hi : i < n) : (serL sp n).getD i ⟨0, 0⟩ = ⟨early sp (i + 1), late sp n i⟩ := by simp [serL, List.getD_eq_getElem?_getD, List.getElem?_map, List.getElem?_range hi]
theorem valid_400 {c : Cal} (hv : c.valid = true) : c.ny ≤ 400 := (valid_iff.1 hv).ny.2
theorem top_series {c : Cal} {f : Nat → Tr} {n : Nat} {g : Nat → Int} (hv : c.valid = true) (hn : n ≤ 64) (hok : ∀ i, i < n → (f i).ok = true) (hin : ∀ i, i < n → inS (c.spans (f i)) (g i)) (hs : ∀ i, i + 1 < n → g i ≤ g (i + 1)) :
    c.serE f n = 0 ∧ (c.serV f n).length = n ∧ ∀ i, i < n → ((c.serV f n).getD i ⟨0, 0⟩).a ≤ g i ∧ g i ≤ ((c.serV f n).getD i ⟨0, 0⟩).b := by
  have hS : ∀ i, SpOk (c.spans (f i)) := fun i => spans_ok (valid_400 hv) _
  have hA : Asg (fun i => c.spans (f i)) n g := ⟨hin, hs⟩
  have hE : c.serE f n = 0 := by
    unfold Cal.serE
    rw [hv, if_pos rfl, if_neg (by omega), show serOk f n = true from List.all_eq_true.2 fun i hi => hok i (by simpa using hi), asg_fail hS hA]; rfl
  have hV : c.serV f n = serL (fun i => c.spans (f i)) n := by unfold Cal.serV; rw [if_pos hE]
  refine ⟨hE, by rw [hV]; simp [serL], fun i hi => ?_⟩
  rw [hV, serL_get' hi]
  exact ⟨(early_le hS hA i hi).1, (late_ge hS hA (n - i - 1) i (by omega)).1⟩
theorem top_bad {c : Cal} {f : Nat → Tr} {n : Nat} (hv : c.valid = false) : c.serE f n = 70 := by unfold Cal.serE; rw [hv]; rfl
end Go.Proofs.YtlnjeklmkjgidaaDoor

namespace Go.Proofs.YtlnjeklmkjgidaaDoor
open Go

theorem cutL_app : ∀ (l m : List UInt8) (c : UInt8), c ∉ l → cutL (l ++ c :: m) c = (l, m, true)
  | [], m, c, _ => by simp [cutL]
  | x :: l, m, c, h => by
    rw [List.mem_cons, not_or] at h
    rw [List.cons_append, cutL, if_neg (fun e => h.1 e.symm), cutL_app l m c h.2]
theorem cutL_no : ∀ (l : List UInt8) (c : UInt8), c ∉ l → cutL l c = (l, [], false)
  | [], _, _ => rfl
  | x :: l, c, h => by
    rw [List.mem_cons, not_or] at h
    rw [cutL, if_neg (fun e => h.1 e.symm), cutL_no l c h.2]
theorem part_43 : ((List.range 31).all fun n => [false, true].all fun b => decide (readL (partS n ⟨#[43]⟩ b).data.toList 43 = (n, b && decide (0 < n))) && decide ((47 : UInt8) ∉ (partS n ⟨#[43]⟩ b).data.toList)) = true := by kernel_rfl
theorem part_98 : ((List.range 31).all fun n => [false, true].all fun b => decide (readL (partS n ⟨#[98]⟩ b).data.toList 98 = (n, b && decide (0 < n))) && decide ((47 : UInt8) ∉ (partS n ⟨#[98]⟩ b).data.toList)) = true := by kernel_rfl
theorem part_read {m : UInt8} (hm : m = 43 ∨ m = 98) {n : Nat} (hn : n ≤ 30) (b : Bool) : readL (partS n ⟨#[m]⟩ b).data.toList m = (n, b && decide (0 < n)) ∧ (47 : UInt8) ∉ (partS n ⟨#[m]⟩ b).data.toList := by
  have hb : b ∈ [false, true] := by cases b <;> simp
  rcases hm with rfl | rfl
  · have := List.all_eq_true.1 (List.all_eq_true.1 part_43 n (List.mem_range.2 (by omega))) b hb
    simpa only [Bool.and_eq_true, decide_eq_true_eq] using this
  · have := List.all_eq_true.1 (List.all_eq_true.1 part_98 n (List.mem_range.2 (by omega))) b hb
    simpa only [Bool.and_eq_true, decide_eq_true_eq] using this
theorem nameB_not {c : UInt8} (h : nameB c = true) : c ≠ 47 ∧ c ≠ 64 := by
  simp only [nameB, lowB, digB, Bool.or_eq_true, Bool.and_eq_true, decide_eq_true_eq] at h
  constructor <;> rintro rfl <;> simp at h
theorem lowB_not {c : UInt8} (h : lowB c = true) : c ≠ 43 ∧ c ≠ 45 := by
  simp only [lowB, Bool.and_eq_true, decide_eq_true_eq] at h
  constructor <;> rintro rfl <;> simp at h
theorem name_parts {s : ByteArray} (h : isName s = true) : ∃ x l, s.data.toList = x :: l ∧ x ≠ 43 ∧ x ≠ 45 ∧ (64 : UInt8) ∉ s.data.toList ∧ s.size ≤ 16 := by
  simp only [isName, Bool.and_eq_true, decide_eq_true_eq] at h
  obtain ⟨⟨⟨h1, h2⟩, h3⟩, h4⟩ := h
  have h5 : (64 : UInt8) ∉ s.data.toList := fun hm => (nameB_not (List.all_eq_true.1 h4 _ hm)).2 rfl
  cases hl : s.data.toList with
  | nil =>
    have : s.size = 0 := by show s.data.toList.length = 0; rw [hl]; rfl
    omega
  | cons x l =>
    rw [hl] at h3 h5
    exact ⟨x, l, rfl, (lowB_not h3).1, (lowB_not h3).2, h5, h2⟩
theorem empty_eq {s : ByteArray} (h : emptyB s = true) : s = ⟨#[]⟩ := by
  obtain ⟨⟨l⟩⟩ := s
  simp only [emptyB, List.isEmpty_iff] at h
  subst h; rfl
theorem plus_rep : ∀ (k : Nat) (x : UInt8) (l : List UInt8), x ≠ 43 → (Lib.repeatL [43] k ++ x :: l).takeWhile isPlus = Lib.repeatL [43] k ∧ (Lib.repeatL [43] k ++ x :: l).dropWhile isPlus = x :: l
  | 0, x, l, h => by simp [Lib.repeatL, isPlus, h]
  | k + 1, x, l, h => by
    have := plus_rep k x l h
    simp only [Lib.repeatL, List.cons_append, List.nil_append]
    rw [List.takeWhile_cons_of_pos (by rfl), List.dropWhile_cons_of_pos (by rfl), this.1, this.2]
    exact ⟨rfl, rfl⟩
theorem rep_len (k : Nat) : (Lib.repeatL [43] k).length = k := by rw [Lib.repeatL_length]; simp
theorem rep_no : ∀ (k : Nat), (64 : UInt8) ∉ Lib.repeatL [43] k
  | 0 => by simp [Lib.repeatL]
  | k + 1 => by simp [Lib.repeatL, rep_no k]
/-- What stands for the year. -/
theorem year_read {t : Tr} (hn : emptyB t.nm = true ∨ isName t.nm = true) (h0 : 0 ≤ t.af) (ha : emptyB t.nm = true → t.af = 0) :
    nameL (yearS t).data.toList = t.nm ∧ (((yearS t).data.toList.takeWhile isPlus).length : Int) = t.af ∧ (64 : UInt8) ∉ (yearS t).data.toList ∧ (t.af ≤ 3 → (yearS t).size ≤ 19) := by
  unfold yearS
  cases he : emptyB t.nm
  · rw [if_neg (by simp)]
    obtain ⟨x, l, hl, h1, h2, h3, h4⟩ := name_parts (hn.resolve_left (by simp [he]))
    have hd : (rp t.af.toNat ++ t.nm).data.toList = Lib.repeatL [43] t.af.toNat ++ x :: l := by rw [ByteArray.data_append, Array.toList_append, hl]; rfl
    obtain ⟨p1, p2⟩ := plus_rep t.af.toNat x l h1
    rw [hd]
    refine ⟨?_, ?_, ?_, fun h => ?_⟩
    · unfold nameL
      rw [p2, if_neg (by intro e; injection e with e _; exact h2 e), ← hl]
    · rw [p1, rep_len]; omega
    · rw [hl] at h3
      rw [List.mem_append, not_or]; exact ⟨rep_no _, h3⟩
    · rw [ByteArray.size_append, rp_size]; omega
  · rw [if_pos rfl]
    refine ⟨?_, ?_, ?_, fun _ => by show 1 ≤ 19; omega⟩
    · rw [empty_eq he]; rfl
    · rw [ha he]; rfl
    · decide
theorem king_read {t : Tr} {y : ByteArray} (hk : emptyB t.kg = true ∨ isName t.kg = true) (hy : (64 : UInt8) ∉ y.data.toList) :
    (cutL (kingS t y).data.toList 64).1 = y.data.toList ∧ (⟨(cutL (kingS t y).data.toList 64).2.1.toArray⟩ : ByteArray) = t.kg ∧ (kingS t y).size ≤ y.size + 17 := by
  unfold kingS
  cases he : emptyB t.kg
  · rw [if_neg (by simp)]
    obtain ⟨_, _, _, _, _, _, h4⟩ := name_parts (hk.resolve_left (by simp [he]))
    have hd : (y ++ (⟨#[64]⟩ ++ t.kg)).data.toList = y.data.toList ++ 64 :: t.kg.data.toList := by
      rw [ByteArray.data_append, Array.toList_append, ByteArray.data_append, Array.toList_append]; rfl
    rw [hd, cutL_app _ _ _ hy]
    have h0 : (⟨#[64]⟩ : ByteArray).size = 1 := rfl
    refine ⟨rfl, rfl, ?_⟩
    rw [ByteArray.size_append, ByteArray.size_append, h0]; omega
  · rw [if_pos rfl, cutL_no _ _ hy, empty_eq he]
    exact ⟨rfl, rfl, by omega⟩
theorem text_list (t : Tr) : (textS t).data.toList = (partS t.d.toNat ⟨#[43]⟩ t.more).data.toList ++ 47 :: ((partS t.m.toNat ⟨#[98]⟩ t.s).data.toList ++ 47 :: (kingS t (yearS t)).data.toList) := by
  unfold textS
  simp only [ByteArray.data_append, Array.toList_append, List.append_assoc]
  rfl
theorem cand_text {t : Tr} (h : t.ok = true) : candL (textS t).data.toList = some t := by
  obtain ⟨h1, h2, h3, h4, h5, h6, h7, h8, h9, h10, h11⟩ := ok_iff.1 h
  obtain ⟨a1, a2⟩ := part_read (.inl rfl) (n := t.d.toNat) (by omega) t.more
  obtain ⟨b1, b2⟩ := part_read (.inr rfl) (n := t.m.toNat) (by omega) t.s
  obtain ⟨y1, y2, y3, _⟩ := year_read h7 h8 h10
  obtain ⟨k1, k2, _⟩ := king_read (y := yearS t) h11 y3
  have c1 : cutL (textS t).data.toList 47 = ((partS t.d.toNat ⟨#[43]⟩ t.more).data.toList, (partS t.m.toNat ⟨#[98]⟩ t.s).data.toList ++ 47 :: (kingS t (yearS t)).data.toList, true) := by
    rw [text_list]; exact cutL_app _ _ _ a2
  have c2 := cutL_app (partS t.m.toNat ⟨#[98]⟩ t.s).data.toList (kingS t (yearS t)).data.toList 47 b2
  unfold candL
  rw [c1]
  simp only
  rw [c2]
  simp only
  rw [if_pos (by rfl), a1, b1, k1, y1, y2, k2]
  have e1 : (t.more && decide (0 < t.d.toNat)) = t.more := by
    cases hm : t.more
    · rfl
    · have := h3 hm
      rw [Bool.true_and]; exact decide_eq_true (by omega)
  have e2 : (t.s && decide (0 < t.m.toNat)) = t.s := by
    cases hm : t.s
    · rfl
    · have := h6 hm
      rw [Bool.true_and]; exact decide_eq_true (by omega)
  simp only
  rw [e1, e2, Int.toNat_of_nonneg h1, Int.toNat_of_nonneg h4]
theorem text_small {t : Tr} (h : t.ok = true) : (textS t).size ≤ 65536 := by
  obtain ⟨h1, h2, h3, h4, h5, h6, h7, h8, h9, h10, h11⟩ := ok_iff.1 h
  obtain ⟨_, _, y3, y4⟩ := year_read h7 h8 h10
  obtain ⟨_, _, k3⟩ := king_read (y := yearS t) h11 y3
  have p1 := partS_size (n := t.d.toNat) (mark := ⟨#[43]⟩) (b := t.more) (by omega) (by decide)
  have p2 := partS_size (n := t.m.toNat) (mark := ⟨#[98]⟩) (b := t.s) (by omega) (by decide)
  have h0 : (⟨#[47]⟩ : ByteArray).size = 1 := rfl
  have y5 := y4 h9
  unfold textS
  simp only [ByteArray.size_append, h0]
  omega
theorem parse_text {t : Tr} (h : t.ok = true) : parseS (textS t) = some t := by
  unfold parseS
  rw [if_neg (by have := text_small h; omega), cand_text h]
  simp [Option.filter, h]
end Go.Proofs.YtlnjeklmkjgidaaDoor

namespace Go.Proofs.YtlnjeklmkjgidaaDoor
open Go Go.RowKit Go.Shelf
attribute [local go_sem] gv_yes

theorem own_ext {w w' : World} {base size n : Nat} {e : TypeId} {v : Value} {xs : List Value} (h : w.ownsRow base e size v n xs) (x : Ext w w') : w'.ownsRow base e size v n xs := h.kept (grown_of_ext x) (by
  rcases h.2 with ⟨rfl, _⟩ | ⟨g, cap, cur, rfl, _⟩
  · exact .inl rfl
  · exact .inr (by simp [Value.ownBlock]))
theorem grown_at (W : World) (b j : Nat) (v : Value) : W.grownBy (W.setCell ⟨b, j, none⟩ v) (some b) :=
  ⟨rfl, rfl, rfl, (KeepsWalks.setCell W _ v).size, fun k _ hk => Below.heap_setCell _ _ _ k (fun e => hk (by rw [e]))⟩
theorem held_newsL {w : World} {b : Nat} {t : TypeId} {cs : Array Value} (h : Held w b t cs) : ∀ j u, cs.toList[j]? = some u → w.cell? ((⟨b, 0, none⟩ : Addr).add j) = some u := fun j u hj => by
  have e : (⟨b, 0, none⟩ : Addr).add j = ⟨b, j, none⟩ := by unfold Addr.add; split <;> simp_all
  rw [e, h.cell j]
  simpa using hj
/-- What a step leaves that writes only the box bo and rows of its own from B0 on. -/
structure Pass (B0 bo : Nat) (w w' : World) : Prop where
  ext : ∀ W0 : World, Ext W0 w → W0.heap.size ≤ bo → W0.heap.size ≤ B0 → Ext W0 w'
  held : ∀ b t cs, Held w b t cs → b ≠ bo → b < B0 → Held w' b t cs
namespace Pass
variable {B0 bo : Nat} {w w' w'' : World}
theorem refl : Pass B0 bo w w := ⟨fun _ h _ _ => h, fun _ _ _ h _ _ => h⟩
theorem of_ext (x : Ext w w') : Pass B0 bo w w' := ⟨fun _ h _ _ => h.trans x, fun _ _ _ h _ _ => h.ext x⟩
theorem trans (h : Pass B0 bo w w') (k : Pass B0 bo w' w'') : Pass B0 bo w w'' := ⟨fun W0 h0 h1 h2 => k.ext W0 (h.ext W0 h0 h1 h2) h1 h2, fun b t cs h0 h1 h2 => k.held b t cs (h.held b t cs h0 h1 h2) h1 h2⟩
theorem grown {v : Value} {e : TypeId} {s n : Nat} {xs : List Value} (ho : w.ownsRow B0 e s v n xs) (hg : w.grownBy w' v.ownBlock) : Pass B0 bo w w' :=
  ⟨fun _ h0 _ h2 => h0.grown hg (fun q hq => Nat.le_trans h2 (row_type ho q hq).1), fun b _ _ h _ hb => h.kept hg (fun e => by have := (row_type ho b e.symm).1; omega)⟩
theorem set (j : Nat) (u : Value) : Pass B0 bo w (w.setCell ⟨bo, j, none⟩ u) :=
  ⟨fun _ h0 h1 _ => h0.setCell (p := ⟨bo, j, none⟩) h1 u, fun _ _ _ h hne _ => held_oth h hne j u⟩
end Pass
end Go.Proofs.YtlnjeklmkjgidaaDoor


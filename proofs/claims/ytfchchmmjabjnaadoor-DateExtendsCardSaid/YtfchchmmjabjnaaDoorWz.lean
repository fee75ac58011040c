/- The walk of Parse. -/
import Derived.Laws.AppendOwn
import Derived.Test.YtfchchmmjabjnaaDoorWy
namespace Go.Proofs.YtfchchmmjabjnaaDoor
open Go Go.RowKit
attribute [local go_sem] gv_yes

theorem Held.set {W : World} {b : Nat} {t : TypeId} {cs : Array Value} (h : Held W b t cs) (i : Nat) (v : Value) : Held (W.setCell ⟨b, i, none⟩ v) b t (cs.setIfInBounds i v) := by
  unfold Held at h ⊢
  simp [World.setCell, Array.getElem?_modify, h]
def Tr.val (t : Tr) : Value := .agg #[.int .i64 t.d, .bool t.more, .int .i64 t.m, .bool t.s, .string t.nm, .int .i64 t.af, .string t.kg]
def zTr : Tr := ⟨0, false, 0, false, ⟨#[]⟩, 0, ⟨#[]⟩⟩
def isPlus (x : UInt8) : Bool := x == 43
def nameL (l : List UInt8) : ByteArray := if l.dropWhile isPlus = [45] then ⟨#[]⟩ else ⟨(l.dropWhile isPlus).toArray⟩
def candL (l : List UInt8) : Option Tr :=
  if (cutL l 47).2.2 && (cutL (cutL l 47).2.1 47).2.2 then
    some ⟨(readL (cutL l 47).1 43).1, (readL (cutL l 47).1 43).2, (readL (cutL (cutL l 47).2.1 47).1 98).1, (readL (cutL (cutL l 47).2.1 47).1 98).2,
      nameL (cutL (cutL (cutL l 47).2.1 47).2.1 64).1, ((cutL (cutL (cutL l 47).2.1 47).2.1 64).1.takeWhile isPlus).length, ⟨(cutL (cutL (cutL l 47).2.1 47).2.1 64).2.1.toArray⟩⟩
  else none
def parseS (s : ByteArray) : Option Tr := if 65536 < s.size then none else (candL s.data.toList).filter fun t => t.ok && decide (textS t = s)
def parseV (s : ByteArray) : Tr := (parseS s).getD zTr
def parseE (s : ByteArray) : Int := if (parseS s).isSome then 0 else 5
theorem bytes_ext (w : World) (e : TypeId) (s : ByteArray) : Ext w (Lib.bytesWorld w e s) :=
  ⟨rfl, rfl, rfl, by rw [Lib.bytesWorld_size]; omega, fun k hk => Lib.bytesWorld_at_old w e s k hk⟩
theorem bytes_at (w : World) (e : TypeId) (s : ByteArray) : BsAt (Lib.bytesWorld w e s) (some ⟨w.heap.size, 0, none⟩) s.data.toList :=
  ⟨w.heap.size, 0, rfl, by rw [Lib.bytesWorld_size]; omega, fun i hi => by rw [Nat.zero_add, Lib.bytesWorld_cell w e s i (by simpa using hi)]⟩
theorem plus_at : ∀ {l : List UInt8} {k : Nat}, k ≤ l.length → (∀ i, i < k → l.getD i 0 = 43) → (k = l.length ∨ l.getD k 0 ≠ 43) → (l.takeWhile isPlus).length = k ∧ l.dropWhile isPlus = l.drop k
  | [], k, hk, _, _ => by
    have : k = 0 := by simpa using hk
    subst this
    exact ⟨rfl, rfl⟩
  | x :: l, 0, _, _, hs => by
    rcases hs with h | h
    · simp at h
    · have hx : isPlus x = false := by simp [isPlus]; simpa using h
      simp [List.takeWhile, List.dropWhile, hx]
  | x :: l, k + 1, hk, h0, hs => by
    have hx : isPlus x = true := by simp [isPlus]; simpa using h0 0 (by omega)
    have := @plus_at l k (by simpa using hk) (fun i hi => by simpa using h0 (i + 1) (by omega)) (hs.imp (fun h => by simpa using h) (fun h => by simpa using h))
    simp [List.takeWhile, List.dropWhile, hx, this.1, this.2]
theorem parse_cand {s : ByteArray} {l1 r1 l2 r2 l3 r3 : List UInt8} {b3 d1 d2 : Bool} {n1 n2 k : Nat} (h : s.size ≤ 65536) (e1 : cutL s.data.toList 47 = (l1, r1, true)) (e2 : cutL r1 47 = (l2, r2, true)) (e3 : cutL r2 64 = (l3, r3, b3)) (i1 : readL l1 43 = (n1, d1)) (i2 : readL l2 98 = (n2, d2))
    (hk : k ≤ l3.length) (h0 : ∀ i, i < k → l3.getD i 0 = 43) (hs : k = l3.length ∨ l3.getD k 0 ≠ 43) {nm : ByteArray} (hnm : nm = if l3.drop k = [45] then ⟨#[]⟩ else ⟨(l3.drop k).toArray⟩) {T : Tr} (hT : T = ⟨n1, d1, n2, d2, nm, k, ⟨r3.toArray⟩⟩) :
    parseS s = if T.ok && decide (textS T = s) then some T else none := by
  obtain ⟨p1, p2⟩ := plus_at hk h0 hs
  have : candL s.data.toList = some T := by
    unfold candL nameL
    simp only [e1, e2, e3, i1, i2, p1, p2]
    rw [hT, hnm]; rfl
  unfold parseS
  rw [if_neg (by omega), this, Option.filter_some]
def lenV : Value → Nat
  | .slice _ n _ => n
  | _ => 0
theorem cut_one {s : ByteArray} {l r : List UInt8} {b : Bool} (h : s.size ≤ 65536) (e1 : cutL s.data.toList 47 = (l, r, b)) (W : World) {n cap : Nat} (hn : n = W.heap.size) (hc : cap = grownCap W s.size 0 5) :
    Calls Tryd.prog 96 #[.slice (some ⟨n, 0, none⟩) s.size cap, .int .u8 47] (Lib.bytesWorld W 5 s) fun e w' =>
      ∃ B C m n, e = .returned (.tuple #[.slice B l.length m, .slice C r.length n, .bool b]) ∧ BsAt (Lib.bytesWorld W 5 s) B l ∧ BsAt (Lib.bytesWorld W 5 s) C r ∧ l.length ≤ m ∧ m ≤ maxLen ∧ r.length ≤ n ∧ n ≤ maxLen ∧ Ext (Lib.bytesWorld W 5 s) w' := by
  subst hn; subst hc
  have := cut_any s.data.toList 47 (some ⟨W.heap.size, 0, none⟩) (grownCap W s.size 0 5) _ _ (bytes_at W 5 s) (bytes_at W 5 s) (grownCap_ge W s.size 0 5) (grownCap_le_maxLen W s.size 0 5 (by unfold maxLen; omega))
  rw [e1] at this
  exact this
theorem cut_more {l0 l r : List UInt8} {x : UInt8} {z : Int} {b : Bool} (hz : z = x.toNat) (e1 : cutL l0 x = (l, r, b)) {A : Option Addr} {cap : Nat} {w W : World} (hA : BsAt w A l0) (hW : BsAt W A l0) (h1 : l0.length ≤ cap) (h2 : cap ≤ maxLen) :
    Calls Tryd.prog 96 #[.slice A l0.length cap, .int .u8 z] w fun e w' =>
      ∃ B C m n, e = .returned (.tuple #[.slice B l.length m, .slice C r.length n, .bool b]) ∧ BsAt W B l ∧ BsAt W C r ∧ l.length ≤ m ∧ m ≤ maxLen ∧ r.length ≤ n ∧ n ≤ maxLen ∧ Ext w w' := by
  subst hz
  have := cut_any l0 x A cap w W hA hW h1 h2
  rw [e1] at this
  exact this
theorem read_more {l : List UInt8} {x : UInt8} {z d : Int} {n : Nat} {b : Bool} (hz : z = x.toNat) (hd : d = n) (e1 : readL l x = (n, b)) {A : Option Addr} {cap : Nat} {w : World} (hA : BsAt w A l) (h1 : l.length ≤ cap) (h2 : cap ≤ maxLen) :
    Calls Tryd.prog 97 #[.slice A l.length cap, .int .u8 z] w fun e w' => e = .returned (.tuple #[.int .i64 d, .bool b]) ∧ w = w' := by
  subst hz; subst hd
  have := read_any l x A cap w hA h1 h2
  rw [e1] at this
  exact this
theorem str_of {w : World} {A : Option Addr} {l : List UInt8} (hA : BsAt w A l) (cap : Nat) : (convert 121 9 (.slice A l.length cap)).run Tryd.prog w = .ok (.string ⟨l.toArray⟩) w := by
  cases A with
  | none =>
    cases hA
    exact run_convert_bytes_nil w 121 5 (by kernel_rfl) (by kernel_rfl) 0 cap 9 (by kernel_rfl)
  | some a =>
    obtain ⟨b, o, rfl, hb, hc⟩ := hA
    refine run_convert_bytes_back w 121 9 5 ⟨b, o, none⟩ cap l (by kernel_rfl) (by kernel_rfl) (by kernel_rfl) (fun j hj => ?_)
    have := hc j hj
    rw [show (⟨b, o, none⟩ : Addr).add j = ⟨b, o + j, none⟩ from by unfold Addr.add; split <;> simp_all, this]
    simp [List.getD_eq_getElem?_getD, hj]
theorem z47 : (47 : Int) = ((47 : UInt8).toNat : Int) := rfl
theorem z43 : (43 : Int) = ((43 : UInt8).toNat : Int) := rfl
theorem z98 : (98 : Int) = ((98 : UInt8).toNat : Int) := rfl
theorem z64 : (64 : Int) = ((64 : UInt8).toNat : Int) := rfl
theorem frozen7 {W : World} {b : Nat} {t : TypeId} {cs : Array Value} (h : Held W b t cs) : W.frozen? ⟨b, 0, none⟩ = false ∧ W.frozen? ⟨b, 1, none⟩ = false ∧ W.frozen? ⟨b, 2, none⟩ = false ∧ W.frozen? ⟨b, 3, none⟩ = false ∧ W.frozen? ⟨b, 4, none⟩ = false ∧ W.frozen? ⟨b, 5, none⟩ = false ∧ W.frozen? ⟨b, 6, none⟩ = false :=
  ⟨h.frozen 0, h.frozen 1, h.frozen 2, h.frozen 3, h.frozen 4, h.frozen 5, h.frozen 6⟩
theorem seven_set {W : World} {b : Nat} {t : TypeId} {v0 v1 v2 v3 v4 v5 v6 : Value} (h : Held W b t #[v0, v1, v2, v3, v4, v5, v6]) (u0 u1 u2 u3 u4 u5 u6 : Value) :
    Held (((((((W.setCell ⟨b, 0, none⟩ u0).setCell ⟨b, 1, none⟩ u1).setCell ⟨b, 2, none⟩ u2).setCell ⟨b, 3, none⟩ u3).setCell ⟨b, 4, none⟩ u4).setCell ⟨b, 5, none⟩ u5).setCell ⟨b, 6, none⟩ u6) b t #[u0, u1, u2, u3, u4, u5, u6] ∧
    ∀ wd, Ext wd W → wd.heap.size ≤ b → Ext wd (((((((W.setCell ⟨b, 0, none⟩ u0).setCell ⟨b, 1, none⟩ u1).setCell ⟨b, 2, none⟩ u2).setCell ⟨b, 3, none⟩ u3).setCell ⟨b, 4, none⟩ u4).setCell ⟨b, 5, none⟩ u5).setCell ⟨b, 6, none⟩ u6) :=
  ⟨by unfold Held at h ⊢; simp [World.setCell, Array.getElem?_modify, h], fun _ e h1 => ((((((e.setCell h1 _).setCell h1 _).setCell h1 _).setCell h1 _).setCell h1 _).setCell h1 _).setCell h1 _⟩
theorem four7 {W : World} {b : Nat} {t : TypeId} {v0 v1 v2 v3 v4 v5 v6 : Value} (h : Held W b t #[v0, v1, v2, v3, v4, v5, v6]) (u0 u1 u2 u3 : Value) :
    Held ((((W.setCell ⟨b, 0, none⟩ u0).setCell ⟨b, 1, none⟩ u1).setCell ⟨b, 2, none⟩ u2).setCell ⟨b, 3, none⟩ u3) b t #[u0, u1, u2, u3, v4, v5, v6] ∧
    ∀ wd, Ext wd W → wd.heap.size ≤ b → Ext wd ((((W.setCell ⟨b, 0, none⟩ u0).setCell ⟨b, 1, none⟩ u1).setCell ⟨b, 2, none⟩ u2).setCell ⟨b, 3, none⟩ u3) :=
  ⟨by unfold Held at h ⊢; simp [World.setCell, Array.getElem?_modify, h], fun _ e h1 => (((e.setCell h1 _).setCell h1 _).setCell h1 _).setCell h1 _⟩
theorem set7_6 {W : World} {b : Nat} {t : TypeId} {v0 v1 v2 v3 v4 v5 v6 : Value} (h : Held W b t #[v0, v1, v2, v3, v4, v5, v6]) (u : Value) : Held (W.setCell ⟨b, 6, none⟩ u) b t #[v0, v1, v2, v3, v4, v5, u] := by unfold Held at h ⊢; simp [World.setCell, Array.getElem?_modify, h]
theorem set7_5 {W : World} {b : Nat} {t : TypeId} {v0 v1 v2 v3 v4 v5 v6 : Value} (h : Held W b t #[v0, v1, v2, v3, v4, v5, v6]) (u : Value) : Held (W.setCell ⟨b, 5, none⟩ u) b t #[v0, v1, v2, v3, v4, u, v6] := by unfold Held at h ⊢; simp [World.setCell, Array.getElem?_modify, h]
theorem set7_4 {W : World} {b : Nat} {t : TypeId} {v0 v1 v2 v3 v4 v5 v6 : Value} (h : Held W b t #[v0, v1, v2, v3, v4, v5, v6]) (u : Value) : Held (W.setCell ⟨b, 4, none⟩ u) b t #[v0, v1, v2, v3, u, v5, v6] := by unfold Held at h ⊢; simp [World.setCell, Array.getElem?_modify, h]
set_option maxHeartbeats 1000000 in
theorem parse_no (s : ByteArray) (w : World) (h : s.size ≤ 65536) {l1 r1 l2 r2 : List UInt8} {b1 b2 : Bool} (e1 : cutL s.data.toList 47 = (l1, r1, b1)) (e2 : cutL r1 47 = (l2, r2, b2)) (hb : (b1 && b2) = false) :
    Calls Tryd.prog 50 #[.string s] w fun e w' => e = .returned (.tuple #[zTr.val, .int .i64 5]) ∧ Ext w w' := by
  have hcv := fun w => Lib.run_convert_string_bytes (P := Tryd.prog) w 9 121 5 s (u := .string) (by kernel_rfl) (by kernel_rfl) (by kernel_rfl)
  go_enter Tryd.func50, Tryd.ntmps50
  go_upto_region 4 with (go_at_call 96; (with_reducible refine Calls.mono (cut_one h e1 _ (by simp) rfl) ?_); rintro e wq ⟨B1, C1, m1, n1, rfl, hB1, hC1, hm1, hm1', hn1, hn1', hq⟩)
  have hbw := bytes_ext (w.alloc (.cells #[.int .i64 0, .bool false, .int .i64 0, .bool false, .string ⟨#[]⟩, .int .i64 0, .string ⟨#[]⟩] 33)) 5 s
  have hz1 : Held wq w.heap.size 33 #[.int .i64 0, .bool false, .int .i64 0, .bool false, .string ⟨#[]⟩, .int .i64 0, .string ⟨#[]⟩] := ((Held.new w _ _).ext hbw).ext hq
  have hE1 : Ext w wq := (((Ext.refl w).alloc _).trans hbw).trans hq
  replace hB1 := hB1.ext hq
  replace hC1 := hC1.ext hq
  clear hq hbw hcv
  go_upto_region 5 with (go_at_call 96; (with_reducible refine Calls.mono (cut_more z47 e2 hC1 hC1 hn1 hn1') ?_); rintro e w2 ⟨B2, C2, m2, n2, rfl, hB2, hC2, hm2, hm2', hn2, hn2', h2⟩)
  have hz2 := hz1.ext h2
  have hE2 := hE1.trans h2
  replace hB1 := hB1.ext h2
  replace hB2 := hB2.ext h2
  replace hC2 := hC2.ext h2
  clear h2 hz1 hE1 hC1
  have l0 := hz2.lt
  obtain ⟨f0, f1, f2, f3, f4, f5, f6⟩ := frozen7 hz2
  obtain ⟨t0, t1, t2, t3, t4, t5, t6⟩ := hz2.c7
  cases b1
  · go_wp2
    obtain ⟨hs, gE⟩ := seven_set hz2 (.int .i64 0) (.bool false) (.int .i64 0) (.bool false) (.string ⟨#[]⟩) (.int .i64 0) (.string ⟨#[]⟩)
    obtain ⟨q0, q1, q2, q3, q4, q5, q6⟩ := hs.c7
    refine bodyPost_ret (v := .tuple #[zTr.val, .int .i64 5]) (by simp [results, Tryd.results50, go_sem, q0, q1, q2, q3, q4, q5, q6, zTr, Tr.val]) rfl ⟨rfl, gE w hE2 (Nat.le_refl _)⟩
  · cases b2
    · go_wp2
      obtain ⟨hs, gE⟩ := seven_set hz2 (.int .i64 0) (.bool false) (.int .i64 0) (.bool false) (.string ⟨#[]⟩) (.int .i64 0) (.string ⟨#[]⟩)
      obtain ⟨q0, q1, q2, q3, q4, q5, q6⟩ := hs.c7
      refine bodyPost_ret (v := .tuple #[zTr.val, .int .i64 5]) (by simp [results, Tryd.results50, go_sem, q0, q1, q2, q3, q4, q5, q6, zTr, Tr.val]) rfl ⟨rfl, gE w hE2 (Nat.le_refl _)⟩
    · cases hb
set_option maxRecDepth 100000 in
set_option maxHeartbeats 4000000 in
theorem parse_yes (s : ByteArray) (w : World) (h : s.size ≤ 65536) {l1 r1 l2 r2 l3 r3 : List UInt8} {b3 d1 d2 : Bool} {n1 n2 : Nat} (e1 : cutL s.data.toList 47 = (l1, r1, true)) (e2 : cutL r1 47 = (l2, r2, true)) (e3 : cutL r2 64 = (l3, r3, b3)) (i1 : readL l1 43 = (n1, d1)) (i2 : readL l2 98 = (n2, d2)) :
    Calls Tryd.prog 50 #[.string s] w fun e w' => e = .returned (.tuple #[(parseV s).val, .int .i64 (parseE s)]) ∧ Ext w w' := by
  have hcv := fun w => Lib.run_convert_string_bytes (P := Tryd.prog) w 9 121 5 s (u := .string) (by kernel_rfl) (by kernel_rfl) (by kernel_rfl)
  go_enter Tryd.func50, Tryd.ntmps50
  go_upto_region 4 with (go_at_call 96; (with_reducible refine Calls.mono (cut_one h e1 _ (by simp) rfl) ?_); rintro e wq ⟨B1, C1, x1, y1, rfl, hB1, hC1, hm1, hm1', hn1, hn1', hq⟩)
  have hbw := bytes_ext (w.alloc (.cells #[.int .i64 0, .bool false, .int .i64 0, .bool false, .string ⟨#[]⟩, .int .i64 0, .string ⟨#[]⟩] 33)) 5 s
  have hz1 : Held wq w.heap.size 33 #[.int .i64 0, .bool false, .int .i64 0, .bool false, .string ⟨#[]⟩, .int .i64 0, .string ⟨#[]⟩] := ((Held.new w _ _).ext hbw).ext hq
  have hE1 : Ext w wq := (((Ext.refl w).alloc _).trans hbw).trans hq
  replace hB1 := hB1.ext hq
  replace hC1 := hC1.ext hq
  clear hq hbw hcv
  go_upto_region 5 with (go_at_call 96; (with_reducible refine Calls.mono (cut_more z47 e2 hC1 hC1 hn1 hn1') ?_); rintro e w2 ⟨B2, C2, x2, y2, rfl, hB2, hC2, hm2, hm2', hn2, hn2', h2⟩)
  have hz2 := hz1.ext h2
  have hE2 := hE1.trans h2
  replace hB1 := hB1.ext h2
  replace hB2 := hB2.ext h2
  replace hC2 := hC2.ext h2
  clear h2 hz1 hE1 hC1
  have l0 := hz2.lt
  obtain ⟨f0, f1, f2, f3, f4, f5, f6⟩ := frozen7 hz2
  obtain ⟨t0, t1, t2, t3, t4, t5, t6⟩ := hz2.c7
  go_upto_region 8 with (fail)
  obtain ⟨wb, hwb⟩ : ∃ wb, wb = w2.alloc (.cells #[.int .i64 0, .bool false, .int .i64 0, .bool false, .string ⟨#[]⟩, .int .i64 0, .string ⟨#[]⟩] 33) := ⟨_, rfl⟩
  rw [← hwb]
  have hE3 : Ext w2 wb := by rw [hwb]; exact (Ext.refl _).alloc _
  have hbx : Held wb w2.heap.size 33 #[.int .i64 0, .bool false, .int .i64 0, .bool false, .string ⟨#[]⟩, .int .i64 0, .string ⟨#[]⟩] := by rw [hwb]; exact Held.new _ _ _
  clear hwb t0 t1 t2 t3 t4 t5 t6 f0 f1 f2 f3 f4 f5 f6
  obtain ⟨f0, f1, f2, f3, f4, f5, f6⟩ := frozen7 hbx
  obtain ⟨t0, t1, t2, t3, t4, t5, t6⟩ := hbx.c7
  have lb := hbx.lt
  go_upto_region 10 with (first | (go_at_call 97; (with_reducible refine Calls.mono (read_more z43 rfl i1 (hB1.ext hE3) hm1 hm1') ?_); rintro e w' ⟨rfl, rfl⟩) | (go_at_call 97; (with_reducible refine Calls.mono (read_more z98 rfl i2 (hB2.ext ((hE3.setCell (Nat.le_refl _) _).setCell (Nat.le_refl _) _)) hm2 hm2') ?_); rintro e w' ⟨rfl, rfl⟩))
  obtain ⟨hc7, gE⟩ := four7 hbx (.int .i64 n1) (.bool d1) (.int .i64 n2) (.bool d2)
  replace gE := gE w2 hE3 (Nat.le_refl _)
  clear f0 f1 f2 f3 f4 f5 f6 t0 t1 t2 t3 t4 t5 t6
  generalize hwc : World.setCell _ _ (Value.bool d2) = wc at *
  have lc := hc7.lt
  clear hwc hbx lb hE3 wb
  go_upto_region 11 with (go_at_call 96; (with_reducible refine Calls.mono (cut_more z64 e3 (hC2.ext gE) hC2 hn2 hn2') ?_); rintro e wd ⟨B3, C3, x3, y3, rfl, hB3, hC3, hm3, hm3', hn3, hn3', h3⟩)
  have hd7 := hc7.ext h3
  have hEd := Ext.trans gE h3
  have hcv := str_of (hC3.ext hEd) y3
  obtain ⟨f0, f1, f2, f3, f4, f5, f6⟩ := frozen7 hd7
  obtain ⟨t0, t1, t2, t3, t4, t5, t6⟩ := hd7.c7
  have ld := hd7.lt
  clear h3 hc7 gE lc
  go_upto_region 12 with (fail)
  have he7 := set7_6 hd7 (.string ⟨r3.toArray⟩)
  have hEe := hEd.setCell (p := ⟨w2.heap.size, 6, none⟩) (Nat.le_refl _) (.string ⟨r3.toArray⟩)
  clear hcv t0 t1 t2 t3 t4 t5 t6 f0 f1 f2 f3 f4 f5 f6 ld hd7 hEd
  go_loopw [11] (fun v wr => ∃ (k : Nat) (A : Option Addr) (cap n : Nat), k ≤ l3.length ∧ n = l3.length - k ∧ v = .slice A n cap ∧ BsAt w2 A (l3.drop k) ∧ n ≤ cap ∧ cap ≤ maxLen ∧ (∀ i, i < k → l3.getD i 0 = 43) ∧ Held wr w2.heap.size 33 #[.int .i64 n1, .bool d1, .int .i64 n2, .bool d2, .string ⟨#[]⟩, .int .i64 k, .string ⟨r3.toArray⟩] ∧ Ext w2 wr) (fun v _ => lenV v)
  case atStart => exact ⟨0, B3, x3, l3.length, Nat.zero_le _, rfl, rfl, hB3, hm3, hm3', (fun i hi => absurd hi (by omega)), he7, hEe⟩
  case round =>
    have hL63 : l3.length ≤ 9223372036854775807 := Nat.le_trans hm3 (Nat.le_trans hm3' (by decide))
    clear he7 hEe hm3 hm3' hB3
    obtain ⟨k, A, cap, n, hk, hn, rfl, hA, hcap, hcap', hp, hr7, hEr⟩ := hrel
    obtain ⟨wo, rfl⟩ : ∃ wo : World, wo = wr := ⟨_, rfl⟩
    have l2 := hr7.lt
    have HN := Lib.hid hn
    by_cases hlt : 0 < n
    · cases A with
      | none => have hz : l3.drop k = [] := hA; rw [List.drop_eq_nil_iff] at hz; omega
      | some a =>
        obtain ⟨b, o, rfl, hb, hcell⟩ := hA
        obtain ⟨x, hxl⟩ : ∃ x, x = l3.getD k 0 := ⟨_, rfl⟩
        have hBs : BsAt w2 (some ⟨b, o, none⟩) (l3.drop k) := ⟨b, o, rfl, hb, hcell⟩
        have hck : w2.cell? ⟨b, o, none⟩ = some (.int .u8 (x.toNat : Int)) := by
          have := hcell 0 (by rw [List.length_drop]; omega)
          rw [Nat.add_zero] at this
          rw [this, hxl]; simp [List.getD_eq_getElem?_getD]
        have hcw : wo.cell? ⟨b, o, none⟩ = some (.int .u8 (x.toNat : Int)) := by rw [hEr.cell (p := ⟨b, o, none⟩) hb]; exact hck
        clear hcell hck
        by_cases hx : x = 43
        · have hp' : ∀ i, i < k + 1 → l3.getD i 0 = 43 := fun i hi => by
            by_cases h : i = k
            · subst h; rw [← hxl]; exact hx
            · exact hp i (by omega)
          have hx' : ((x.toNat : Int) == 43) = true := by rw [hx]; rfl
          have hcw' : wo.cell? ⟨b, o, none⟩ = some (.int .u8 43) := by rw [hcw, hx]; rfl
          have f5 := hr7.frozen 5
          have t5 := hr7.c7.2.2.2.2.2.1
          have hs7 := set7_5 hr7 (.int .i64 ((k + 1 : Nat) : Int))
          have hEs := hEr.setCell (p := ⟨w2.heap.size, 5, none⟩) (Nat.le_refl _) (.int .i64 ((k + 1 : Nat) : Int))
          have hBd := hBs.drop 1
          rw [List.drop_drop] at hBd
          have hk1 : k + 1 ≤ 9223372036854775807 := by omega
          clear hxl hcw hx hx' hp hn
          go_wp2
          have hn := HN.out
          have hbA : BsAt w2 (if cap = 1 then some ⟨b, o, none⟩ else some ⟨b, o + 1, none⟩) (l3.drop (k + 1)) := by
            split
            · rw [List.drop_eq_nil_of_le (by omega)]; simpa using hBs.take 0
            · exact hBd
          exact ⟨⟨k + 1, _, _, _, by omega, rfl, by rw [hn, Nat.sub_sub], hbA, by omega, by omega, hp', hs7, hEs⟩, by simp only [lenV]; omega⟩
        · have hst : Hid (k = l3.length ∨ l3.getD k 0 ≠ 43) := .inr (by rw [← hxl]; exact hx)
          have hx' : ((x.toNat : Int) == 43) = false := beq_eq_false_iff_ne.2 (fun h => hx (UInt8.toNat_inj.1 (by show x.toNat = 43; omega)))
          have hcv : (convert 121 9 (.slice (some ⟨b, o, none⟩) n cap)).run Tryd.prog wo = .ok (.string ⟨(l3.drop k).toArray⟩) wo := by
            have := str_of (hBs.ext hEr) cap
            rwa [List.length_drop, ← hn] at this
          clear hxl hx hn
          generalize (x.toNat : Int) = z at *
          by_cases hd : l3.drop k = [45]
          · have hnm : Hid ((⟨#[]⟩ : ByteArray) = if l3.drop k = [45] then ⟨#[]⟩ else ⟨(l3.drop k).toArray⟩) := by rw [if_pos hd]; rfl
            rw [hd] at hcv
            go_upto_region 17 with (fail)
            have hf7 := hr7
            have hEf := hEr
            obtain ⟨T, hT⟩ : ∃ T : Tr, T = ⟨n1, d1, n2, d2, ⟨#[]⟩, k, ⟨r3.toArray⟩⟩ := ⟨_, rfl⟩
            have HR := parse_cand h e1 e2 e3 i1 i2 hk hp hst.out hnm.out hT
            have hvT : ∀ w, Calls Tryd.prog 76 #[.agg #[.int .i64 n1, .bool d1, .int .i64 n2, .bool d2, .string ⟨#[]⟩, .int .i64 k, .string ⟨r3.toArray⟩]] w fun e w' => e = .returned (.bool T.ok) ∧ Ext w w' := by rw [hT]; exact fun w => validTrace_any _ w
            have htT : T.ok = true → ∀ w, Calls Tryd.prog 93 #[.agg #[.int .i64 n1, .bool d1, .int .i64 n2, .bool d2, .string ⟨#[]⟩, .int .i64 k, .string ⟨r3.toArray⟩]] w fun e w' => e = .returned (.string (textS T)) ∧ Ext w w' := by rw [hT]; exact fun hk w => text_any _ w (ok_bds hk)
            replace hT := Lib.hid hT
            have lf := hf7.lt
            obtain ⟨t0, t1, t2, t3, t4, t5, t6⟩ := hf7.c7
            clear hp hd hk hst hnm
            cases hok : T.ok
            · rw [hok] at hvT HR
              replace HR := Lib.hid HR
              clear htT
              go_upto_region 18 with (go_at_call 76; (with_reducible refine Calls.mono (hvT _) ?_); rintro e wg ⟨rfl, hg⟩; obtain ⟨t0, t1, t2, t3, t4, t5, t6⟩ := (hf7.ext hg).c7; have lg := (hf7.ext hg).lt)
              have hz3 := (hz2.ext hEf).ext hg
              obtain ⟨z0, z1, z2, z3, z4, z5, z6⟩ := hz3.c7
              obtain ⟨f0, f1, f2, f3, f4, f5, f6⟩ := frozen7 hz3
              go_wp2
              obtain ⟨hs, gE⟩ := seven_set hz3 (.int .i64 0) (.bool false) (.int .i64 0) (.bool false) (.string ⟨#[]⟩) (.int .i64 0) (.string ⟨#[]⟩)
              obtain ⟨q0, q1, q2, q3, q4, q5, q6⟩ := hs.c7
              refine bodyPost_ret (v := .tuple #[.agg #[.int .i64 0, .bool false, .int .i64 0, .bool false, .string ⟨#[]⟩, .int .i64 0, .string ⟨#[]⟩], .int .i64 5]) (by simp [results, Tryd.results50, go_sem, q0, q1, q2, q3, q4, q5, q6]) rfl ⟨by unfold parseV parseE; rw [HR.out]; rfl, gE w (Ext.trans hE2 (Ext.trans hEf hg)) (Nat.le_refl _)⟩
            · replace htT := htT hok
              rw [hok] at hvT HR
              by_cases hts : textS T = s
              · have hbe : ((textS T).toList == s.toList) = true := by rw [hts]; exact beq_self_eq_true _
                rw [hts] at htT HR hbe
                replace HR := Lib.hid (show parseS s = some T by rw [HR]; simp)
                clear hts hok
                go_upto_region 19 with (first | (go_at_call 76; (with_reducible refine Calls.mono (hvT _) ?_); rintro e wg ⟨rfl, hg⟩; obtain ⟨t0, t1, t2, t3, t4, t5, t6⟩ := (hf7.ext hg).c7; have lg := (hf7.ext hg).lt) | (go_at_call 93; (with_reducible refine Calls.mono (htT _) ?_); rintro e wh ⟨rfl, hh⟩; have hh7 := (hf7.ext hg).ext hh; obtain ⟨u0, u1, u2, u3, u4, u5, u6⟩ := hh7.c7; have lh := hh7.lt; have hz3 := ((hz2.ext hEf).ext hg).ext hh; obtain ⟨z0, z1, z2, z3, z4, z5, z6⟩ := hz3.c7; obtain ⟨f0, f1, f2, f3, f4, f5, f6⟩ := frozen7 hz3))
                go_wp2
                obtain ⟨hs, gE⟩ := seven_set hz3 (.int .i64 n1) (.bool d1) (.int .i64 n2) (.bool d2) (.string ⟨#[]⟩) (.int .i64 k) (.string ⟨r3.toArray⟩)
                obtain ⟨q0, q1, q2, q3, q4, q5, q6⟩ := hs.c7
                refine bodyPost_ret (v := .tuple #[.agg #[.int .i64 n1, .bool d1, .int .i64 n2, .bool d2, .string ⟨#[]⟩, .int .i64 k, .string ⟨r3.toArray⟩], .int .i64 0]) (by simp [results, Tryd.results50, go_sem, q0, q1, q2, q3, q4, q5, q6]) rfl ⟨by unfold parseV parseE; rw [HR.out, hT.out]; rfl, gE w (Ext.trans hE2 (Ext.trans (Ext.trans hEf hg) hh)) (Nat.le_refl _)⟩
              · have hbe : ((textS T).toList == s.toList) = false := by rw [Go.ByteArray.toList_eq, Go.ByteArray.toList_eq]; exact beq_eq_false_iff_ne.2 (fun e => hts (ByteArray.ext (Array.toList_inj.1 e)))
                replace HR := Lib.hid (show parseS s = none by rw [HR]; simp [hts])
                generalize textS T = tx at *
                clear hts hok hT
                go_upto_region 18 with (first | (go_at_call 76; (with_reducible refine Calls.mono (hvT _) ?_); rintro e wg ⟨rfl, hg⟩; obtain ⟨t0, t1, t2, t3, t4, t5, t6⟩ := (hf7.ext hg).c7; have lg := (hf7.ext hg).lt) | (go_at_call 93; (with_reducible refine Calls.mono (htT _) ?_); rintro e wh ⟨rfl, hh⟩; have hh7 := (hf7.ext hg).ext hh; obtain ⟨u0, u1, u2, u3, u4, u5, u6⟩ := hh7.c7; have lh := hh7.lt; have hz3 := ((hz2.ext hEf).ext hg).ext hh; obtain ⟨z0, z1, z2, z3, z4, z5, z6⟩ := hz3.c7; obtain ⟨f0, f1, f2, f3, f4, f5, f6⟩ := frozen7 hz3))
                go_wp2
                obtain ⟨hs, gE⟩ := seven_set hz3 (.int .i64 0) (.bool false) (.int .i64 0) (.bool false) (.string ⟨#[]⟩) (.int .i64 0) (.string ⟨#[]⟩)
                obtain ⟨q0, q1, q2, q3, q4, q5, q6⟩ := hs.c7
                refine bodyPost_ret (v := .tuple #[.agg #[.int .i64 0, .bool false, .int .i64 0, .bool false, .string ⟨#[]⟩, .int .i64 0, .string ⟨#[]⟩], .int .i64 5]) (by simp [results, Tryd.results50, go_sem, q0, q1, q2, q3, q4, q5, q6]) rfl ⟨by unfold parseV parseE; rw [HR.out]; rfl, gE w (Ext.trans hE2 (Ext.trans (Ext.trans hEf hg) hh)) (Nat.le_refl _)⟩
          · have hxf : ((⟨(l3.drop k).toArray⟩ : ByteArray).toList == [45]) = false := by rw [Go.ByteArray.toList_eq]; exact beq_eq_false_iff_ne.2 hd
            obtain ⟨X, hX⟩ : ∃ X : ByteArray, X = ⟨(l3.drop k).toArray⟩ := ⟨_, rfl⟩
            have hnm : Hid (X = if l3.drop k = [45] then ⟨#[]⟩ else ⟨(l3.drop k).toArray⟩) := by rw [if_neg hd]; exact hX
            rw [← hX] at hcv hxf
            clear hX
            have f4 := hr7.frozen 4
            have t4 := hr7.c7.2.2.2.2.1
            go_upto_region 17 with (fail)
            have hf7 := set7_4 hr7 (.string X)
            have hEf := hEr.setCell (p := ⟨w2.heap.size, 4, none⟩) (Nat.le_refl _) (.string X)
            clear f4 t4
            generalize World.setCell wo _ _ = wf at *
            obtain ⟨T, hT⟩ : ∃ T : Tr, T = ⟨n1, d1, n2, d2, X, k, ⟨r3.toArray⟩⟩ := ⟨_, rfl⟩
            have HR := parse_cand h e1 e2 e3 i1 i2 hk hp hst.out hnm.out hT
            have hvT : ∀ w, Calls Tryd.prog 76 #[.agg #[.int .i64 n1, .bool d1, .int .i64 n2, .bool d2, .string X, .int .i64 k, .string ⟨r3.toArray⟩]] w fun e w' => e = .returned (.bool T.ok) ∧ Ext w w' := by rw [hT]; exact fun w => validTrace_any _ w
            have htT : T.ok = true → ∀ w, Calls Tryd.prog 93 #[.agg #[.int .i64 n1, .bool d1, .int .i64 n2, .bool d2, .string X, .int .i64 k, .string ⟨r3.toArray⟩]] w fun e w' => e = .returned (.string (textS T)) ∧ Ext w w' := by rw [hT]; exact fun hk w => text_any _ w (ok_bds hk)
            replace hT := Lib.hid hT
            have lf := hf7.lt
            obtain ⟨t0, t1, t2, t3, t4, t5, t6⟩ := hf7.c7
            clear hp hd hk hst hnm
            cases hok : T.ok
            · rw [hok] at hvT HR
              replace HR := Lib.hid HR
              clear htT
              go_upto_region 18 with (go_at_call 76; (with_reducible refine Calls.mono (hvT _) ?_); rintro e wg ⟨rfl, hg⟩; obtain ⟨t0, t1, t2, t3, t4, t5, t6⟩ := (hf7.ext hg).c7; have lg := (hf7.ext hg).lt)
              have hz3 := (hz2.ext hEf).ext hg
              obtain ⟨z0, z1, z2, z3, z4, z5, z6⟩ := hz3.c7
              obtain ⟨f0, f1, f2, f3, f4, f5, f6⟩ := frozen7 hz3
              go_wp2
              obtain ⟨hs, gE⟩ := seven_set hz3 (.int .i64 0) (.bool false) (.int .i64 0) (.bool false) (.string ⟨#[]⟩) (.int .i64 0) (.string ⟨#[]⟩)
              obtain ⟨q0, q1, q2, q3, q4, q5, q6⟩ := hs.c7
              refine bodyPost_ret (v := .tuple #[.agg #[.int .i64 0, .bool false, .int .i64 0, .bool false, .string ⟨#[]⟩, .int .i64 0, .string ⟨#[]⟩], .int .i64 5]) (by simp [results, Tryd.results50, go_sem, q0, q1, q2, q3, q4, q5, q6]) rfl ⟨by unfold parseV parseE; rw [HR.out]; rfl, gE w (Ext.trans hE2 (Ext.trans hEf hg)) (Nat.le_refl _)⟩
            · replace htT := htT hok
              rw [hok] at hvT HR
              by_cases hts : textS T = s
              · have hbe : ((textS T).toList == s.toList) = true := by rw [hts]; exact beq_self_eq_true _
                rw [hts] at htT HR hbe
                replace HR := Lib.hid (show parseS s = some T by rw [HR]; simp)
                clear hts hok
                go_upto_region 19 with (first | (go_at_call 76; (with_reducible refine Calls.mono (hvT _) ?_); rintro e wg ⟨rfl, hg⟩; obtain ⟨t0, t1, t2, t3, t4, t5, t6⟩ := (hf7.ext hg).c7; have lg := (hf7.ext hg).lt) | (go_at_call 93; (with_reducible refine Calls.mono (htT _) ?_); rintro e wh ⟨rfl, hh⟩; have hh7 := (hf7.ext hg).ext hh; obtain ⟨u0, u1, u2, u3, u4, u5, u6⟩ := hh7.c7; have lh := hh7.lt; have hz3 := ((hz2.ext hEf).ext hg).ext hh; obtain ⟨z0, z1, z2, z3, z4, z5, z6⟩ := hz3.c7; obtain ⟨f0, f1, f2, f3, f4, f5, f6⟩ := frozen7 hz3))
                go_wp2
                obtain ⟨hs, gE⟩ := seven_set hz3 (.int .i64 n1) (.bool d1) (.int .i64 n2) (.bool d2) (.string X) (.int .i64 k) (.string ⟨r3.toArray⟩)
                obtain ⟨q0, q1, q2, q3, q4, q5, q6⟩ := hs.c7
                refine bodyPost_ret (v := .tuple #[.agg #[.int .i64 n1, .bool d1, .int .i64 n2, .bool d2, .string X, .int .i64 k, .string ⟨r3.toArray⟩], .int .i64 0]) (by simp [results, Tryd.results50, go_sem, q0, q1, q2, q3, q4, q5, q6]) rfl ⟨by unfold parseV parseE; rw [HR.out, hT.out]; rfl, gE w (Ext.trans hE2 (Ext.trans (Ext.trans hEf hg) hh)) (Nat.le_refl _)⟩
              · have hbe : ((textS T).toList == s.toList) = false := by rw [Go.ByteArray.toList_eq, Go.ByteArray.toList_eq]; exact beq_eq_false_iff_ne.2 (fun e => hts (ByteArray.ext (Array.toList_inj.1 e)))
                replace HR := Lib.hid (show parseS s = none by rw [HR]; simp [hts])
                generalize textS T = tx at *
                clear hts hok hT
                go_upto_region 18 with (first | (go_at_call 76; (with_reducible refine Calls.mono (hvT _) ?_); rintro e wg ⟨rfl, hg⟩; obtain ⟨t0, t1, t2, t3, t4, t5, t6⟩ := (hf7.ext hg).c7; have lg := (hf7.ext hg).lt) | (go_at_call 93; (with_reducible refine Calls.mono (htT _) ?_); rintro e wh ⟨rfl, hh⟩; have hh7 := (hf7.ext hg).ext hh; obtain ⟨u0, u1, u2, u3, u4, u5, u6⟩ := hh7.c7; have lh := hh7.lt; have hz3 := ((hz2.ext hEf).ext hg).ext hh; obtain ⟨z0, z1, z2, z3, z4, z5, z6⟩ := hz3.c7; obtain ⟨f0, f1, f2, f3, f4, f5, f6⟩ := frozen7 hz3))
                go_wp2
                obtain ⟨hs, gE⟩ := seven_set hz3 (.int .i64 0) (.bool false) (.int .i64 0) (.bool false) (.string ⟨#[]⟩) (.int .i64 0) (.string ⟨#[]⟩)
                obtain ⟨q0, q1, q2, q3, q4, q5, q6⟩ := hs.c7
                refine bodyPost_ret (v := .tuple #[.agg #[.int .i64 0, .bool false, .int .i64 0, .bool false, .string ⟨#[]⟩, .int .i64 0, .string ⟨#[]⟩], .int .i64 5]) (by simp [results, Tryd.results50, go_sem, q0, q1, q2, q3, q4, q5, q6]) rfl ⟨by unfold parseV parseE; rw [HR.out]; rfl, gE w (Ext.trans hE2 (Ext.trans (Ext.trans hEf hg) hh)) (Nat.le_refl _)⟩
    · obtain rfl : n = 0 := by omega
      have hst : Hid (k = l3.length ∨ l3.getD k 0 ≠ 43) := .inl (by omega)
      have hcv : (convert 121 9 (.slice A 0 cap)).run Tryd.prog wo = .ok (.string ⟨(l3.drop k).toArray⟩) wo := by
        have := str_of (hA.ext hEr) cap
        rwa [List.length_drop, ← hn] at this
      clear hn
      by_cases hd : l3.drop k = [45]
      · have hnm : Hid ((⟨#[]⟩ : ByteArray) = if l3.drop k = [45] then ⟨#[]⟩ else ⟨(l3.drop k).toArray⟩) := by rw [if_pos hd]; rfl
        rw [hd] at hcv
        go_upto_region 17 with (fail)
        have hf7 := hr7
        have hEf := hEr
        obtain ⟨T, hT⟩ : ∃ T : Tr, T = ⟨n1, d1, n2, d2, ⟨#[]⟩, k, ⟨r3.toArray⟩⟩ := ⟨_, rfl⟩
        have HR := parse_cand h e1 e2 e3 i1 i2 hk hp hst.out hnm.out hT
        have hvT : ∀ w, Calls Tryd.prog 76 #[.agg #[.int .i64 n1, .bool d1, .int .i64 n2, .bool d2, .string ⟨#[]⟩, .int .i64 k, .string ⟨r3.toArray⟩]] w fun e w' => e = .returned (.bool T.ok) ∧ Ext w w' := by rw [hT]; exact fun w => validTrace_any _ w
        have htT : T.ok = true → ∀ w, Calls Tryd.prog 93 #[.agg #[.int .i64 n1, .bool d1, .int .i64 n2, .bool d2, .string ⟨#[]⟩, .int .i64 k, .string ⟨r3.toArray⟩]] w fun e w' => e = .returned (.string (textS T)) ∧ Ext w w' := by rw [hT]; exact fun hk w => text_any _ w (ok_bds hk)
        replace hT := Lib.hid hT
        have lf := hf7.lt
        obtain ⟨t0, t1, t2, t3, t4, t5, t6⟩ := hf7.c7
        clear hp hd hk hst hnm
        cases hok : T.ok
        · rw [hok] at hvT HR
          replace HR := Lib.hid HR
          clear htT
          go_upto_region 18 with (go_at_call 76; (with_reducible refine Calls.mono (hvT _) ?_); rintro e wg ⟨rfl, hg⟩; obtain ⟨t0, t1, t2, t3, t4, t5, t6⟩ := (hf7.ext hg).c7; have lg := (hf7.ext hg).lt)
          have hz3 := (hz2.ext hEf).ext hg
          obtain ⟨z0, z1, z2, z3, z4, z5, z6⟩ := hz3.c7
          obtain ⟨f0, f1, f2, f3, f4, f5, f6⟩ := frozen7 hz3
          go_wp2
          obtain ⟨hs, gE⟩ := seven_set hz3 (.int .i64 0) (.bool false) (.int .i64 0) (.bool false) (.string ⟨#[]⟩) (.int .i64 0) (.string ⟨#[]⟩)
          obtain ⟨q0, q1, q2, q3, q4, q5, q6⟩ := hs.c7
          refine bodyPost_ret (v := .tuple #[.agg #[.int .i64 0, .bool false, .int .i64 0, .bool false, .string ⟨#[]⟩, .int .i64 0, .string ⟨#[]⟩], .int .i64 5]) (by simp [results, Tryd.results50, go_sem, q0, q1, q2, q3, q4, q5, q6]) rfl ⟨by unfold parseV parseE; rw [HR.out]; rfl, gE w (Ext.trans hE2 (Ext.trans hEf hg)) (Nat.le_refl _)⟩
        · replace htT := htT hok
          rw [hok] at hvT HR
          by_cases hts : textS T = s
          · have hbe : ((textS T).toList == s.toList) = true := by rw [hts]; exact beq_self_eq_true _
            rw [hts] at htT HR hbe
            replace HR := Lib.hid (show parseS s = some T by rw [HR]; simp)
            clear hts hok
            go_upto_region 19 with (first | (go_at_call 76; (with_reducible refine Calls.mono (hvT _) ?_); rintro e wg ⟨rfl, hg⟩; obtain ⟨t0, t1, t2, t3, t4, t5, t6⟩ := (hf7.ext hg).c7; have lg := (hf7.ext hg).lt) | (go_at_call 93; (with_reducible refine Calls.mono (htT _) ?_); rintro e wh ⟨rfl, hh⟩; have hh7 := (hf7.ext hg).ext hh; obtain ⟨u0, u1, u2, u3, u4, u5, u6⟩ := hh7.c7; have lh := hh7.lt; have hz3 := ((hz2.ext hEf).ext hg).ext hh; obtain ⟨z0, z1, z2, z3, z4, z5, z6⟩ := hz3.c7; obtain ⟨f0, f1, f2, f3, f4, f5, f6⟩ := frozen7 hz3))
            go_wp2
            obtain ⟨hs, gE⟩ := seven_set hz3 (.int .i64 n1) (.bool d1) (.int .i64 n2) (.bool d2) (.string ⟨#[]⟩) (.int .i64 k) (.string ⟨r3.toArray⟩)
            obtain ⟨q0, q1, q2, q3, q4, q5, q6⟩ := hs.c7
            refine bodyPost_ret (v := .tuple #[.agg #[.int .i64 n1, .bool d1, .int .i64 n2, .bool d2, .string ⟨#[]⟩, .int .i64 k, .string ⟨r3.toArray⟩], .int .i64 0]) (by simp [results, Tryd.results50, go_sem, q0, q1, q2, q3, q4, q5, q6]) rfl ⟨by unfold parseV parseE; rw [HR.out, hT.out]; rfl, gE w (Ext.trans hE2 (Ext.trans (Ext.trans hEf hg) hh)) (Nat.le_refl _)⟩
          · have hbe : ((textS T).toList == s.toList) = false := by rw [Go.ByteArray.toList_eq, Go.ByteArray.toList_eq]; exact beq_eq_false_iff_ne.2 (fun e => hts (ByteArray.ext (Array.toList_inj.1 e)))
            replace HR := Lib.hid (show parseS s = none by rw [HR]; simp [hts])
            generalize textS T = tx at *
            clear hts hok hT
            go_upto_region 18 with (first | (go_at_call 76; (with_reducible refine Calls.mono (hvT _) ?_); rintro e wg ⟨rfl, hg⟩; obtain ⟨t0, t1, t2, t3, t4, t5, t6⟩ := (hf7.ext hg).c7; have lg := (hf7.ext hg).lt) | (go_at_call 93; (with_reducible refine Calls.mono (htT _) ?_); rintro e wh ⟨rfl, hh⟩; have hh7 := (hf7.ext hg).ext hh; obtain ⟨u0, u1, u2, u3, u4, u5, u6⟩ := hh7.c7; have lh := hh7.lt; have hz3 := ((hz2.ext hEf).ext hg).ext hh; obtain ⟨z0, z1, z2, z3, z4, z5, z6⟩ := hz3.c7; obtain ⟨f0, f1, f2, f3, f4, f5, f6⟩ := frozen7 hz3))
            go_wp2
            obtain ⟨hs, gE⟩ := seven_set hz3 (.int .i64 0) (.bool false) (.int .i64 0) (.bool false) (.string ⟨#[]⟩) (.int .i64 0) (.string ⟨#[]⟩)
            obtain ⟨q0, q1, q2, q3, q4, q5, q6⟩ := hs.c7
            refine bodyPost_ret (v := .tuple #[.agg #[.int .i64 0, .bool false, .int .i64 0, .bool false, .string ⟨#[]⟩, .int .i64 0, .string ⟨#[]⟩], .int .i64 5]) (by simp [results, Tryd.results50, go_sem, q0, q1, q2, q3, q4, q5, q6]) rfl ⟨by unfold parseV parseE; rw [HR.out]; rfl, gE w (Ext.trans hE2 (Ext.trans (Ext.trans hEf hg) hh)) (Nat.le_refl _)⟩
      · have hxf : ((⟨(l3.drop k).toArray⟩ : ByteArray).toList == [45]) = false := by rw [Go.ByteArray.toList_eq]; exact beq_eq_false_iff_ne.2 hd
        obtain ⟨X, hX⟩ : ∃ X : ByteArray, X = ⟨(l3.drop k).toArray⟩ := ⟨_, rfl⟩
        have hnm : Hid (X = if l3.drop k = [45] then ⟨#[]⟩ else ⟨(l3.drop k).toArray⟩) := by rw [if_neg hd]; exact hX
        rw [← hX] at hcv hxf
        clear hX
        have f4 := hr7.frozen 4
        have t4 := hr7.c7.2.2.2.2.1
        go_upto_region 17 with (fail)
        have hf7 := set7_4 hr7 (.string X)
        have hEf := hEr.setCell (p := ⟨w2.heap.size, 4, none⟩) (Nat.le_refl _) (.string X)
        clear f4 t4
        generalize World.setCell wo _ _ = wf at *
        obtain ⟨T, hT⟩ : ∃ T : Tr, T = ⟨n1, d1, n2, d2, X, k, ⟨r3.toArray⟩⟩ := ⟨_, rfl⟩
        have HR := parse_cand h e1 e2 e3 i1 i2 hk hp hst.out hnm.out hT
        have hvT : ∀ w, Calls Tryd.prog 76 #[.agg #[.int .i64 n1, .bool d1, .int .i64 n2, .bool d2, .string X, .int .i64 k, .string ⟨r3.toArray⟩]] w fun e w' => e = .returned (.bool T.ok) ∧ Ext w w' := by rw [hT]; exact fun w => validTrace_any _ w
        have htT : T.ok = true → ∀ w, Calls Tryd.prog 93 #[.agg #[.int .i64 n1, .bool d1, .int .i64 n2, .bool d2, .string X, .int .i64 k, .string ⟨r3.toArray⟩]] w fun e w' => e = .returned (.string (textS T)) ∧ Ext w w' := by rw [hT]; exact fun hk w => text_any _ w (ok_bds hk)
        replace hT := Lib.hid hT
        have lf := hf7.lt
        obtain ⟨t0, t1, t2, t3, t4, t5, t6⟩ := hf7.c7
        clear hp hd hk hst hnm
        cases hok : T.ok
        · rw [hok] at hvT HR
          replace HR := Lib.hid HR
          clear htT
          go_upto_region 18 with (go_at_call 76; (with_reducible refine Calls.mono (hvT _) ?_); rintro e wg ⟨rfl, hg⟩; obtain ⟨t0, t1, t2, t3, t4, t5, t6⟩ := (hf7.ext hg).c7; have lg := (hf7.ext hg).lt)
          have hz3 := (hz2.ext hEf).ext hg
          obtain ⟨z0, z1, z2, z3, z4, z5, z6⟩ := hz3.c7
          obtain ⟨f0, f1, f2, f3, f4, f5, f6⟩ := frozen7 hz3
          go_wp2
          obtain ⟨hs, gE⟩ := seven_set hz3 (.int .i64 0) (.bool false) (.int .i64 0) (.bool false) (.string ⟨#[]⟩) (.int .i64 0) (.string ⟨#[]⟩)
          obtain ⟨q0, q1, q2, q3, q4, q5, q6⟩ := hs.c7
          refine bodyPost_ret (v := .tuple #[.agg #[.int .i64 0, .bool false, .int .i64 0, .bool false, .string ⟨#[]⟩, .int .i64 0, .string ⟨#[]⟩], .int .i64 5]) (by simp [results, Tryd.results50, go_sem, q0, q1, q2, q3, q4, q5, q6]) rfl ⟨by unfold parseV parseE; rw [HR.out]; rfl, gE w (Ext.trans hE2 (Ext.trans hEf hg)) (Nat.le_refl _)⟩
        · replace htT := htT hok
          rw [hok] at hvT HR
          by_cases hts : textS T = s
          · have hbe : ((textS T).toList == s.toList) = true := by rw [hts]; exact beq_self_eq_true _
            rw [hts] at htT HR hbe
            replace HR := Lib.hid (show parseS s = some T by rw [HR]; simp)
            clear hts hok
            go_upto_region 19 with (first | (go_at_call 76; (with_reducible refine Calls.mono (hvT _) ?_); rintro e wg ⟨rfl, hg⟩; obtain ⟨t0, t1, t2, t3, t4, t5, t6⟩ := (hf7.ext hg).c7; have lg := (hf7.ext hg).lt) | (go_at_call 93; (with_reducible refine Calls.mono (htT _) ?_); rintro e wh ⟨rfl, hh⟩; have hh7 := (hf7.ext hg).ext hh; obtain ⟨u0, u1, u2, u3, u4, u5, u6⟩ := hh7.c7; have lh := hh7.lt; have hz3 := ((hz2.ext hEf).ext hg).ext hh; obtain ⟨z0, z1, z2, z3, z4, z5, z6⟩ := hz3.c7; obtain ⟨f0, f1, f2, f3, f4, f5, f6⟩ := frozen7 hz3))
            go_wp2
            obtain ⟨hs, gE⟩ := seven_set hz3 (.int .i64 n1) (.bool d1) (.int .i64 n2) (.bool d2) (.string X) (.int .i64 k) (.string ⟨r3.toArray⟩)
            obtain ⟨q0, q1, q2, q3, q4, q5, q6⟩ := hs.c7
            refine bodyPost_ret (v := .tuple #[.agg #[.int .i64 n1, .bool d1, .int .i64 n2, .bool d2, .string X, .int .i64 k, .string ⟨r3.toArray⟩], .int .i64 0]) (by simp [results, Tryd.results50, go_sem, q0, q1, q2, q3, q4, q5, q6]) rfl ⟨by unfold parseV parseE; rw [HR.out, hT.out]; rfl, gE w (Ext.trans hE2 (Ext.trans (Ext.trans hEf hg) hh)) (Nat.le_refl _)⟩
          · have hbe : ((textS T).toList == s.toList) = false := by rw [Go.ByteArray.toList_eq, Go.ByteArray.toList_eq]; exact beq_eq_false_iff_ne.2 (fun e => hts (ByteArray.ext (Array.toList_inj.1 e)))
            replace HR := Lib.hid (show parseS s = none by rw [HR]; simp [hts])
            generalize textS T = tx at *
            clear hts hok hT
            go_upto_region 18 with (first | (go_at_call 76; (with_reducible refine Calls.mono (hvT _) ?_); rintro e wg ⟨rfl, hg⟩; obtain ⟨t0, t1, t2, t3, t4, t5, t6⟩ := (hf7.ext hg).c7; have lg := (hf7.ext hg).lt) | (go_at_call 93; (with_reducible refine Calls.mono (htT _) ?_); rintro e wh ⟨rfl, hh⟩; have hh7 := (hf7.ext hg).ext hh; obtain ⟨u0, u1, u2, u3, u4, u5, u6⟩ := hh7.c7; have lh := hh7.lt; have hz3 := ((hz2.ext hEf).ext hg).ext hh; obtain ⟨z0, z1, z2, z3, z4, z5, z6⟩ := hz3.c7; obtain ⟨f0, f1, f2, f3, f4, f5, f6⟩ := frozen7 hz3))
            go_wp2
            obtain ⟨hs, gE⟩ := seven_set hz3 (.int .i64 0) (.bool false) (.int .i64 0) (.bool false) (.string ⟨#[]⟩) (.int .i64 0) (.string ⟨#[]⟩)
            obtain ⟨q0, q1, q2, q3, q4, q5, q6⟩ := hs.c7
            refine bodyPost_ret (v := .tuple #[.agg #[.int .i64 0, .bool false, .int .i64 0, .bool false, .string ⟨#[]⟩, .int .i64 0, .string ⟨#[]⟩], .int .i64 5]) (by simp [results, Tryd.results50, go_sem, q0, q1, q2, q3, q4, q5, q6]) rfl ⟨by unfold parseV parseE; rw [HR.out]; rfl, gE w (Ext.trans hE2 (Ext.trans (Ext.trans hEf hg) hh)) (Nat.le_refl _)⟩
theorem parse_long (s : ByteArray) (w : World) (h : 65536 < s.size) (h63 : s.size ≤ 9223372036854775807) :
    Calls Tryd.prog 50 #[.string s] w fun e w' => e = .returned (.tuple #[zTr.val, .int .i64 5]) ∧ Ext w w' := by
  go_enter Tryd.func50, Tryd.ntmps50
  go_wp2
  refine bodyPost_ret (v := .tuple #[zTr.val, .int .i64 5]) (by simp [results, Tryd.results50, go_sem, zTr, Tr.val]) rfl ⟨rfl, (by repeat (first | exact Ext.refl _ | (refine Ext.alloc ?_ _) | (refine Ext.trans ?_ (by assumption))))⟩
theorem parseX_any (s : ByteArray) (w : World) (h63 : s.size ≤ 9223372036854775807) :
    Calls Tryd.prog 50 #[.string s] w fun e w' => e = .returned (.tuple #[(parseV s).val, .int .i64 (parseE s)]) ∧ Ext w w' := by
  by_cases h : 65536 < s.size
  · have hn : parseS s = none := if_pos h
    have := parse_long s w h h63
    unfold parseV parseE
    rw [hn]
    exact this
  · have h : s.size ≤ 65536 := by omega
    obtain ⟨⟨l1, r1, b1⟩, e1⟩ : ∃ x, cutL s.data.toList 47 = x := ⟨_, rfl⟩
    obtain ⟨⟨l2, r2, b2⟩, e2⟩ : ∃ x, cutL r1 47 = x := ⟨_, rfl⟩
    cases hb : (b1 && b2)
    · have hn : parseS s = none := by
        unfold parseS candL
        simp only [e1, e2, hb]
        rw [if_neg (by omega)]
        rfl
      have := parse_no s w h e1 e2 hb
      unfold parseV parseE
      rw [hn]
      exact this
    · rw [Bool.and_eq_true] at hb
      obtain ⟨rfl, rfl⟩ := hb
      obtain ⟨⟨l3, r3, b3⟩, e3⟩ : ∃ x, cutL r2 64 = x := ⟨_, rfl⟩
      obtain ⟨⟨n1, d1⟩, i1⟩ : ∃ x, readL l1 43 = x := ⟨_, rfl⟩
      obtain ⟨⟨n2, d2⟩, i2⟩ : ∃ x, readL l2 98 = x := ⟨_, rfl⟩
      exact parse_yes s w h e1 e2 e3 i1 i2
end Go.Proofs.YtfchchmmjabjnaaDoor

/- Walks of the program's functions and plain facts, packed; proved: the lemmas below; no conditions but those that each states. -/
import Derived.Test.YtneiofnlmblglaaGreatDoorQ3
import Derived.Test.YtneiofnlmblglaaGreatDoorQ11
import Derived.Test.YtneiofnlmblglaaGreatDoorQ7
import Derived.Laws.StructEq
import Derived.Test.YtneiofnlmblglaaGreatDoorQ9
set_option maxRecDepth 100000
set_option maxHeartbeats 4000000
namespace Go.Proofs.YtneiofnlmblglaaGreatDoor
section
open Go Go.RowKit
attribute [local go_sem] Zt
def Ye (y : Yr) (k : Nat) : Int := (y.mos.getD k (0, false)).1
def Yk (y : Yr) (k : Nat) : Bool := (y.mos.getD k (0, false)).2
def Wa (y : Yr) (k : Nat) : Int := y.len (Ye y k) (Yk y k)
def Qr (y : Yr) (k : Nat) : Int := y.lens (y.mos.take k)
theorem G6 {y : Yr} {k : Nat} (h : k < y.mos.length) : Qr y (k + 1) = Qr y k + Wa y k := by
 unfold Qr Wa Ye Yk
 rw [List.take_add_one, List.getElem?_eq_getElem h, Nl, List.getD_eq_getElem?_getD, List.getElem?_eq_getElem h]
 simp [Yr.lens]
theorem Hw (y : Yr) : Qr y y.mos.length = y.days := by unfold Qr; rw [List.take_length]; rfl
theorem Pg {y : Yr} {k : Nat} (h : k ≤ y.mos.length) : 29 * (k : Int) ≤ Qr y k ∧ Qr y k ≤ 30 * (k : Int) := by
 have := Lu y (y.mos.take k)
 rw [List.length_take, Nat.min_eq_left h] at this
 exact this
theorem O7 (y : Yr) (k : Nat) : 29 ≤ Wa y k ∧ Wa y k ≤ 30 := Wg _ _ _
theorem S8 (i : Nat) (y : Yr) : ∀ (l : List (Int × Bool)) (d : Int) (k : Nat), k < l.length → (Z8 i y d l)[k]? = some ⟨i, (l.getD k (0, false)).1, (l.getD k (0, false)).2, d + y.lens (l.take k)⟩
 | [], _, _, h => by simp at h
 | p :: l, d, 0, _ => by simp [Z8, Yr.lens]
 | p :: l, d, k + 1, h => by
  have := S8 i y l (d + y.len p.1 p.2) k (by simpa using h)
  simp only [Z8, List.getElem?_cons_succ, this, List.getD_cons_succ, List.take_succ_cons, Yr.lens]
  congr 2
  omega
theorem Aj {c : Qf} {y k : Nat} (hy : y < c.ny) (hk : k < (c.yr y).mos.length) : c.items[(c.itemsTo y).length + k]? = some ⟨y, Ye (c.yr y) k, Yk (c.yr y) k, c.dayAt y + Qr (c.yr y) k⟩ := by
 obtain ⟨t, ht⟩ := Cr c (show y + 1 ≤ c.ny from hy)
 unfold Qf.items
 rw [← ht]
 show ((c.itemsTo y ++ Z8 y (c.yr y) (c.dayAt y) (c.yr y).mos) ++ t)[_]? = _
 have hl : ((c.itemsTo y).length + k) < (c.itemsTo y ++ Z8 y (c.yr y) (c.dayAt y) (c.yr y).mos).length := by rw [List.length_append, Np]; omega
 rw [List.getElem?_append_left hl, List.getElem?_append_right (by omega), Nat.add_sub_cancel_left]
 exact S8 _ _ _ _ _ hk
theorem Qas (c : Qf) (y : Nat) : (c.itemsTo (y + 1)).length = (c.itemsTo y).length + (c.yr y).mos.length := by
 show (c.itemsTo y ++ Z8 y (c.yr y) (c.dayAt y) (c.yr y).mos).length = _
 rw [List.length_append, Np]
theorem Pv {c : Qf} {d : Dt} {y k : Nat} (hd : c.has d = true) (hy : y < c.ny) (hk : k < (c.yr y).mos.length) (h1 : (y : Int) = d.y) (h2 : Ye (c.yr y) k = d.m) (h3 : Yk (c.yr y) k = d.s) :
  c.num d = (c.dayAt y + Qr (c.yr y) k + d.d - 1, (((c.itemsTo y).length + k : Nat) : Int) + 1) := by
 obtain ⟨i, x, hx, ⟨g1, g2, g3⟩, hn, _, _⟩ := Kk hd
 have hp := Aj hy hk
 have e : i = (c.itemsTo y).length + k := B8 hx hp (by simp only; omega) (by simp only; rw [g2, h2]) (by simp only; rw [g3, h3])
 subst e
 rw [hx] at hp
 obtain rfl := Option.some.inj hp
 rw [hn]
theorem Qb6 {c : Qf} {y k : Nat} {d : Int} (hy : y < c.ny) (hk : k < (c.yr y).mos.length) (h1 : 1 ≤ d) (h2 : d ≤ Wa (c.yr y) k) : c.has ⟨y, Ye (c.yr y) k, Yk (c.yr y) k, d⟩ = true := by
 rw [Dz (m := Ye (c.yr y) k) (s := Yk (c.yr y) k) hy hk rfl rfl, Bool.and_eq_true, decide_eq_true_eq, decide_eq_true_eq]
 exact ⟨h1, h2⟩
theorem at_pos {c : Qf} {y k : Nat} {n : Int} (hy : y < c.ny) (hk : k < (c.yr y).mos.length) (h1 : c.dayAt y + Qr (c.yr y) k ≤ n) (h2 : n - (c.dayAt y + Qr (c.yr y) k) < Wa (c.yr y) k) :
  c.at? n = some ⟨y, Ye (c.yr y) k, Yk (c.yr y) k, n - (c.dayAt y + Qr (c.yr y) k) + 1⟩ := by
 have hd : c.has ⟨y, Ye (c.yr y) k, Yk (c.yr y) k, n - (c.dayAt y + Qr (c.yr y) k) + 1⟩ = true := Qb6 hy hk (by omega) (by omega)
 have := Rp hd
 rw [Pv hd hy hk rfl rfl rfl] at this
 simp only at this
 rwa [show c.dayAt y + Qr (c.yr y) k + (n - (c.dayAt y + Qr (c.yr y) k) + 1) - 1 = n by omega] at this
theorem Qcq {c : Qf} {n k M j : Nat} {m d X : Int} {s : Bool} {NV : Int × Int} (_hk : k < c.ny) (hj : j < (c.yr k).mos.length) (HN : Hid (∀ k, k < (c.yr n).mos.length → Ye (c.yr n) k = m → Yk (c.yr n) k = s → NV = (c.dayAt n + Qr (c.yr n) k + d - 1, (((c.itemsTo n).length + k : Nat) : Int) + 1)))
  (HX : Hid (X = c.dayAt k + d - 1)) (HM : Hid (M = (c.itemsTo k).length)) (e : k = n) (h1 : Ye (c.yr k) j = m) (h2 : Yk (c.yr k) j = s) : NV = (X + Qr (c.yr k) j, ((M + j : Nat) : Int) + 1) := by
 subst e
 have := HN.out j hj h1 h2
 rw [this, HX.out, HM.out]
 congr 1
 omega
theorem Qc6 {c : Qf} {n : Nat} {m d : Int} {s : Bool} (h : c.has ⟨n, m, s, d⟩ = true) : n < c.ny ∧ (∃ k, k < (c.yr n).mos.length ∧ Ye (c.yr n) k = m ∧ Yk (c.yr n) k = s) ∧ 1 ≤ d ∧ d ≤ 30 := by
 have g := U7.1 h
 have e : c.yrI (n : Int) = c.yr n := by unfold Qf.yrI; rw [Int.toNat_natCast]
 simp only [e] at g
 obtain ⟨i, hi, he⟩ := Dr (y := c.yr n) g.2.1.1 g.2.1.2 g.2.2.1
 have := (Wg (c.yr n) m s).2
 exact ⟨by omega, ⟨i, hi, by unfold Ye; rw [he], by unfold Yk; rw [he]⟩, g.2.2.2.1, by omega⟩
theorem Ow {w : World} {A : Option Addr} {y : Yr} {i : Nat} (h : Qk w A y.mos.length 3 (Na y)) (hi : i < y.mos.length) :
  ∃ b off, A = some ⟨b, off, none⟩ ∧ b < w.heap.size ∧ w.cell? ⟨b, off + i * 3, none⟩ = some (.int .i64 (Ye y i)) ∧ w.cell? ⟨b, off + i * 3 + 1, none⟩ = some (.bool (Yk y i)) ∧ w.cell? ⟨b, off + i * 3 + 2, none⟩ = some (.int .i64 (Wa y i)) := Br h hi
set_option maxHeartbeats 2000000 in
theorem Ad (y : Yr) (w : World) (hl : 0 ≤ y.lg) (hl' : y.lg ≤ 8191) :
  Calls Tryz.prog 131 #[.agg #[.int .i64 y.k, .string y.nm, .int .i64 y.lg, .int .i64 y.db]] w fun e w' => e = .returned (.int .i64 y.days) ∧ Qa w w' := by
 have hmo := fun w => Mx y w hl hl'
 go_enter Tryz.func131, Tryz.ntmps131
 go_upto_region 1 with (fail)
 obtain ⟨v, hv⟩ := Qg (w.alloc (.cells #[.int .i64 y.k, .string y.nm, .int .i64 y.lg, .int .i64 y.db] 119))
 rw [← hv]
 have E : Qa w v := by rw [hv]; exact (Qa.refl _).alloc _
 have B1 : Qb v w.heap.size 119 #[.int .i64 y.k, .string y.nm, .int .i64 y.lg, .int .i64 y.db] := by rw [hv]; exact (Qb.new _ _ _)
 clear hv
 generalize w.heap.size = b1 at *
 obtain ⟨k0, k1, k2, k3⟩ := B1.c4; have lk := B1.lt
 go_upto_region 3 with (go_at_call 130; (with_reducible refine Calls.mono (hmo _) ?_); rintro e v2 ⟨mv, rfl, h, MA⟩)
 obtain ⟨MA, mcap, rfl, MM⟩ := MA
 replace E := E.trans h
 clear k0 k1 k2 k3 lk hmo h B1
 have hml := (Kb y).2
 go_upto_region 4 with (fail)
 go_loopw [3, 5] (fun s i wr => ∃ (k : Nat) (X : Int), k ≤ y.mos.length ∧ i = .int .i64 k ∧ s = .int .i64 X ∧ 0 ≤ X ∧ X ≤ 1000 ∧ Hid (X = Qr y k) ∧ Qa v2 wr) (fun _ i _ => y.mos.length - (intOf i).toNat)
 case atStart => exact ⟨0, 0, Nat.zero_le _, rfl, rfl, by omega, by omega, rfl, Qa.refl _⟩
 case round =>
  obtain ⟨k, X, hk, rfl, rfl, x0, x1, HX, hE⟩ := hrel
  obtain ⟨wo, rfl⟩ := Qg wr
  by_cases hlt : k < y.mos.length
  ·obtain ⟨mb, mo, rfl, hmb, c0, c1, c2⟩ := Ow (MM.ext hE) hlt
   have hb := O7 y k
   have HS := Lib.hid (G6 hlt)
   have HP := Lib.hid (Pg (y := y) (k := k + 1) hlt)
   generalize y.mos.length = L at *
   generalize Wa y k = q at *
   obtain ⟨q0, q1⟩ := hb
   go_wp2
   have g1 := HX.out
   have g2 := HS.out
   have g3 := HP.out
   exact ⟨⟨k + 1, X + q, by omega, by go_num, by go_num, by omega, by omega, by unfold Hid; rw [g2, g1], hE⟩, by simp [intOf]; omega⟩
  ·obtain rfl : k = y.mos.length := by omega
   have HR := Lib.hid (Hw y)
   generalize y.mos.length = L at *
   go_wp2
   go_ret
   exact ⟨by rw [← HR.out, ← HX.out]; rfl, E.trans hE⟩
set_option maxHeartbeats 2000000 in
theorem Qbb (A A' : Option Addr) (ca cb : Nat) (c : Qf) (w : World) (hC : Qv w A ca A' cb c) (hv : c.valid = true) :
  Calls Tryz.prog 97 #[.agg #[.slice A c.nk ca, .slice A' c.ny cb]] w fun e w' => e = .returned (.int .i64 c.all) ∧ Qa w w' := by
 have hny := Wx hv
 have hlg := Wy hv
 clear hv
 go_enter Tryz.func97, Tryz.ntmps97
 go_upto_region 1 with (fail)
 obtain ⟨v, hv⟩ := Qg (w.alloc (.cells #[.slice A c.nk ca, .slice A' c.ny cb] 25))
 rw [← hv]
 have E : Qa w v := by rw [hv]; exact (Qa.refl _).alloc _
 have B1 : Qb v w.heap.size 25 #[.slice A c.nk ca, .slice A' c.ny cb] := by rw [hv]; exact (Qb.new _ _ _)
 clear hv
 have C := hC.ext E
 clear hC
 generalize w.heap.size = b1 at *
 obtain ⟨k0, k1⟩ := B1.c2; have lk := B1.lt
 go_upto_region 3 with (fail)
 go_loopw [3, 4] (fun s i wr => ∃ (k : Nat) (X : Int), k ≤ c.ny ∧ i = .int .i64 k ∧ s = .int .i64 X ∧ 0 ≤ X ∧ X ≤ 156000 ∧ Hid (X = c.dayAt k - 1) ∧ Qa v wr) (fun _ i _ => c.ny - (intOf i).toNat)
 case atStart => exact ⟨0, 0, Nat.zero_le _, rfl, rfl, by omega, by omega, rfl, Qa.refl _⟩
 case round =>
  obtain ⟨k, X, hk, rfl, rfl, x0, x1, HX, hE⟩ := hrel
  obtain ⟨wo, rfl⟩ := Qg wr
  clear k0 k1 lk
  obtain ⟨k0, k1⟩ := (B1.ext hE).c2
  have lk := (B1.ext hE).lt
  by_cases hlt : k < c.ny
  ·obtain ⟨yb, yo, hA', hyb, y0, y1, y2, y3⟩ := (C.ext hE).year hlt
   subst hA'
   have hda := fun w => Ad (c.yr k) w (hlg k hlt).1 (hlg k hlt).2
   have hb := Gi (c.yr k)
   have hd1 := Ua c (k + 1)
   have HS : Hid (c.dayAt (k + 1) = c.dayAt k + (c.yr k).days) := rfl
   have HD := Lib.hid hd1
   clear hd1
   generalize (c.yr k).days = q at *
   obtain ⟨q0, q1⟩ := hb
   go_upto_region 4 with (go_at_call 131; (with_reducible refine Calls.mono (hda _) ?_); rintro e v2 ⟨rfl, h⟩)
   go_wp2
   have g1 := HX.out
   have g2 := HS.out
   have g3 := HD.out
   exact ⟨⟨k + 1, X + q, by omega, by go_num, by go_num, by omega, by omega, by unfold Hid; omega, hE.trans h⟩, by simp [intOf]; omega⟩
  ·obtain rfl : k = c.ny := by omega
   have hR : Hid (c.all = X) := by have := HX.out; unfold Hid Qf.all; omega
   go_wp2
   go_ret
   exact ⟨by rw [hR.out]; rfl, E.trans hE⟩
theorem Tq (A A' : Option Addr) (ca cb : Nat) (c : Qf) (D : Dt) (w : World) (hC : Qv w A ca A' cb c) (hv : c.valid = true) (hd : c.has D = true) :
  Calls Tryz.prog 95 #[.agg #[.slice A c.nk ca, .slice A' c.ny cb], .agg #[.int .i64 D.y, .int .i64 D.m, .bool D.s, .int .i64 D.d]] w fun e w' => e = .returned (.tuple #[.int .i64 (c.num D).1, .int .i64 (c.num D).2]) ∧ Qa w w' := by
 have hny := Wx hv
 have hlg := Wy hv
 clear hv
 obtain ⟨y, m, s, d⟩ := D
 simp only
 have hy0 : 0 ≤ y := (U7.1 hd).1.1
 obtain ⟨n, rfl⟩ := Int.eq_ofNat_of_zero_le hy0
 clear hy0
 obtain ⟨hn, hfind, d0, d1⟩ := Qc6 hd
 have HF := Lib.hid hfind
 have HNUM := Lib.hid (fun k hk h2 h3 => Pv hd hn (k := k) hk rfl h2 h3)
 clear hfind hd
 generalize c.num ⟨n, m, s, d⟩ = NV at *
 go_enter Tryz.func95, Tryz.ntmps95
 go_upto_region 1 with (fail)
 obtain ⟨v, hv⟩ := Qg ((w.alloc (.cells #[.slice A c.nk ca, .slice A' c.ny cb] 25)).alloc (.cells #[.int .i64 (n : Int), .int .i64 m, .bool s, .int .i64 d] 27))
 rw [← hv]
 have E : Qa w v := by rw [hv]; exact ((Qa.refl _).alloc _).alloc _
 have B1 : Qb v w.heap.size 25 #[.slice A c.nk ca, .slice A' c.ny cb] := by rw [hv]; exact (Qb.new _ _ _).alloc _
 have B2 : Qb v (w.heap.size + 1) 27 #[.int .i64 (n : Int), .int .i64 m, .bool s, .int .i64 d] := by rw [hv]; exact Qb.at _ _ _ _ (by simp)
 clear hv
 have C := hC.ext E
 clear hC
 generalize w.heap.size = b1 at *
 obtain ⟨k0, k1⟩ := B1.c2; have lk := B1.lt
 obtain ⟨p0, p1, p2, p3⟩ := B2.c4; have lp := B2.lt
 go_upto_region 3 with (fail)
 go_loopw [6, 7, 8, 9, 10] (fun dv mv yv _ _ wr => ∃ (k : Nat) (X : Int) (M : Nat), k ≤ n ∧ yv = .int .i64 k ∧ dv = .int .i64 X ∧ mv = .int .i64 (M : Int) ∧ 0 ≤ X ∧ X ≤ 156030 ∧ M ≤ 5200 ∧ Hid (X = c.dayAt k + d - 1) ∧ Hid (M = (c.itemsTo k).length) ∧ Qa v wr) (fun _ _ yv _ _ _ => n + 1 - (intOf yv).toNat)
 case atStart => exact ⟨0, d, 0, Nat.zero_le _, rfl, rfl, rfl, by omega, by omega, by omega, (by show d = 1 + d - 1; omega), rfl, Qa.refl _⟩
 case round =>
  obtain ⟨k, X, M, hk, rfl, rfl, rfl, x0, x1, m1, HX, HM, hE⟩ := hrel
  obtain ⟨wo, rfl⟩ := Qg wr
  clear k0 k1 lk p0 p1 p2 p3 lp
  replace B1 := B1.ext hE
  replace B2 := B2.ext hE
  replace C := C.ext hE
  obtain ⟨k0, k1⟩ := B1.c2
  have lk := B1.lt
  obtain ⟨p0, p1, p2, p3⟩ := B2.c4
  have lp := B2.lt
  have hkn : k < c.ny := by omega
  have hkb : decide ((k : Int) ≤ (n : Int)) = true := decide_eq_true (by omega)
  obtain ⟨yb, yo, hA', hyb, y0, y1, y2, y3⟩ := C.year hkn
  subst hA'
  have hmo := fun w => Mx (c.yr k) w (hlg k hkn).1 (hlg k hkn).2
  have HP := Lib.hid (fun j hj => Qcq (c := c) (d := d) hkn (j := j) hj HNUM HX HM)
  have HD : Hid (c.dayAt (k + 1) = c.dayAt k + (c.yr k).days) := rfl
  have HB := Lib.hid (Ua c (k + 1))
  have HI := Lib.hid (Qas c k)
  have HIL := Lib.hid (K8 c (k + 1))
  have HA := Lib.hid (Hw (c.yr k))
  have HF' : Hid (k = n → ∃ j, j < (c.yr k).mos.length ∧ Ye (c.yr k) j = m ∧ Yk (c.yr k) j = s) := fun e => by subst e; exact HF.out
  have hml := (Kb (c.yr k)).2
  generalize (c.yr k).days = dys at *
  generalize c.yr k = Y at *
  go_upto_region 6 with (go_at_call 130; (with_reducible refine Calls.mono (hmo _) ?_); rintro e v2 ⟨mv, rfl, h, MA⟩)
  obtain ⟨MA, mcap, rfl, MM⟩ := MA
  clear y0 y1 y2 y3 hyb hmo k0 k1 lk p0 p1 p2 p3 lp
  replace B2 := B2.ext h
  obtain ⟨p0, p1, p2, p3⟩ := B2.c4
  have lp := B2.lt
  go_upto_region 7 with (fail)
  go_loopw [6, 7, 10] (fun dv mv iv wr => ∃ (j : Nat) (X' : Int), j ≤ Y.mos.length ∧ iv = .int .i64 j ∧ dv = .int .i64 X' ∧ mv = .int .i64 ((M + j : Nat) : Int) ∧ 0 ≤ X' ∧ X' ≤ 156500 ∧ Hid (X' = X + Qr Y j) ∧ Hid (k = n → ∀ i, i < j → ¬ (Ye Y i = m ∧ Yk Y i = s)) ∧ Qa v2 wr) (fun _ _ iv _ => Y.mos.length - (intOf iv).toNat)
  case atStart => exact ⟨0, X, Nat.zero_le _, rfl, rfl, rfl, x0, by omega, (by show X = X + 0; omega), (fun _ i hi => absurd hi (by omega)), Qa.refl _⟩
  case round =>
   obtain ⟨j, X', hj, rfl, rfl, rfl, z0, z1, HX', HN, hE2⟩ := hrel
   obtain ⟨wi, rfl⟩ := Qg wr
   clear p0 p1 p2 p3 lp
   obtain ⟨p0, p1, p2, p3⟩ := (B2.ext hE2).c4
   have lp := (B2.ext hE2).lt
   by_cases hlt : j < Y.mos.length
   ·obtain ⟨mb, mo, rfl, hmb, c0, c1, c2⟩ := Ow (MM.ext hE2) hlt
    have HPj := HP.out j hlt
    have hq := O7 Y j
    have HS := Lib.hid (G6 hlt)
    have HPB := Lib.hid (Pg (y := Y) (k := j + 1) hlt)
    have HN' : Hid ((k = n → ¬ (Ye Y j = m ∧ Yk Y j = s)) → k = n → ∀ i, i < j + 1 → ¬ (Ye Y i = m ∧ Yk Y i = s)) := fun h0 e i hi => by
     by_cases e2 : i = j
     ·subst e2; exact h0 e
     ·exact HN.out e i (by omega)
    generalize Y.mos.length = L at *
    generalize Ye Y j = x at *
    generalize Yk Y j = z at *
    generalize Wa Y j = q at *
    obtain ⟨q0, q1⟩ := hq
    by_cases hkn : k = n
    ·have hknb : ((k : Int) == (n : Int)) = true := by rw [hkn]; exact beq_self_eq_true _
     by_cases hx : x = m
     ·have hxb : (x == m) = true := by rw [hx]; exact beq_self_eq_true _
      by_cases hz : z = s
      ·have hzb : (z == s) = true := by rw [hz]; exact beq_self_eq_true _
       have HR : Hid (NV = (X', ((M + j : Nat) : Int) + 1)) := by rw [HX'.out]; exact HPj hkn hx hz
       clear HPj hkn hx hz HN'
       go_upto_region 10 with (fail)
       refine Q8 wi Qm (by kernel_rfl) (by repeat (first | exact Qa.refl _ | (refine Qa.alloc ?_ _) | (refine Qa.trans ?_ (by assumption)))) ?_
       intro hne hrx hry
       try simp only []
       try simp only [List.append_eq, List.cons_append, List.nil_append]
       skip
       repeat (first
        | go_big_quiet_skip
        | (go_big_quiet_want; go_big_quiet_op; go_big_quiet_on))
       clear hne hry hrx
       refine wpQuiet_nil ?_
       intro wn hwn
       obtain ⟨hcwn, hfwn, hzwn⟩ := Qa.rules hwn
       try simp only [World.size_alloc] at hzwn
       obtain ⟨hcbwn, hfbwn, hzbwn⟩ := Qa.rules (show Qa wi wn from (by repeat (first | exact Qa.refl _ | (refine Qa.alloc ?_ _) | (refine Qa.trans ?_ (by assumption)))))
       clear hcwn hfwn
       go_wp2
       go_ret2
       exact ⟨by rw [HR.out]; rfl, (by repeat (first | exact Qa.refl _ | (refine Qa.alloc ?_ _) | (refine Qa.trans ?_ (by assumption))))⟩
      ·have hzb : (z == s) = false := beq_eq_false_iff_ne.2 hz
       have HQ := Lib.hid (HN'.out (fun _ g => hz g.2))
       clear HPj hkn hx hz HN'
       go_upto_region 10 with (fail)
       refine Q8 wi Qm (by kernel_rfl) (by repeat (first | exact Qa.refl _ | (refine Qa.alloc ?_ _) | (refine Qa.trans ?_ (by assumption)))) ?_
       intro hne hrx hry
       try simp only []
       try simp only [List.append_eq, List.cons_append, List.nil_append]
       skip
       repeat (first
        | go_big_quiet_skip
        | (go_big_quiet_want; go_big_quiet_op; go_big_quiet_on))
       clear hne hry hrx
       refine wpQuiet_nil ?_
       intro wn hwn
       obtain ⟨hcwn, hfwn, hzwn⟩ := Qa.rules hwn
       try simp only [World.size_alloc] at hzwn
       obtain ⟨hcbwn, hfbwn, hzbwn⟩ := Qa.rules (show Qa wi wn from (by repeat (first | exact Qa.refl _ | (refine Qa.alloc ?_ _) | (refine Qa.trans ?_ (by assumption)))))
       clear hcwn hfwn
       go_wp2
       have g1 := HX'.out
       have g2 := HS.out
       have g3 := HPB.out
       exact ⟨⟨j + 1, X' + q, by omega, by go_num, by go_num, by go_num, by omega, by omega, by unfold Hid; rw [g2, g1]; omega, HQ.out, (by repeat (first | exact Qa.refl _ | (refine Qa.alloc ?_ _) | (refine Qa.trans ?_ (by assumption))))⟩, by simp [intOf]; omega⟩
     ·have hxb : (x == m) = false := beq_eq_false_iff_ne.2 hx
      have HQ := Lib.hid (HN'.out (fun _ g => hx g.1))
      clear HPj hkn hx HN'
      go_upto_region 10 with (fail)
      refine Q8 wi Qm (by kernel_rfl) (by repeat (first | exact Qa.refl _ | (refine Qa.alloc ?_ _) | (refine Qa.trans ?_ (by assumption)))) ?_
      intro hne hrx hry
      try simp only []
      try simp only [List.append_eq, List.cons_append, List.nil_append]
      skip
      repeat (first
       | go_big_quiet_skip
       | (go_big_quiet_want; go_big_quiet_op; go_big_quiet_on))
      clear hne hry hrx
      refine wpQuiet_nil ?_
      intro wn hwn
      obtain ⟨hcwn, hfwn, hzwn⟩ := Qa.rules hwn
      try simp only [World.size_alloc] at hzwn
      obtain ⟨hcbwn, hfbwn, hzbwn⟩ := Qa.rules (show Qa wi wn from (by repeat (first | exact Qa.refl _ | (refine Qa.alloc ?_ _) | (refine Qa.trans ?_ (by assumption)))))
      clear hcwn hfwn
      go_wp2
      have g1 := HX'.out
      have g2 := HS.out
      have g3 := HPB.out
      exact ⟨⟨j + 1, X' + q, by omega, by go_num, by go_num, by go_num, by omega, by omega, by unfold Hid; rw [g2, g1]; omega, HQ.out, (by repeat (first | exact Qa.refl _ | (refine Qa.alloc ?_ _) | (refine Qa.trans ?_ (by assumption))))⟩, by simp [intOf]; omega⟩
    ·have hknb : ((k : Int) == (n : Int)) = false := beq_eq_false_iff_ne.2 (by omega)
     have HQ := Lib.hid (HN'.out (fun g _ => hkn g))
     clear HPj hkn HN'
     go_upto_region 10 with (fail)
     refine Q8 wi Qm (by kernel_rfl) (by repeat (first | exact Qa.refl _ | (refine Qa.alloc ?_ _) | (refine Qa.trans ?_ (by assumption)))) ?_
     intro hne hrx hry
     try simp only []
     try simp only [List.append_eq, List.cons_append, List.nil_append]
     skip
     repeat (first
      | go_big_quiet_skip
      | (go_big_quiet_want; go_big_quiet_op; go_big_quiet_on))
     clear hne hry hrx
     refine wpQuiet_nil ?_
     intro wn hwn
     obtain ⟨hcwn, hfwn, hzwn⟩ := Qa.rules hwn
     try simp only [World.size_alloc] at hzwn
     obtain ⟨hcbwn, hfbwn, hzbwn⟩ := Qa.rules (show Qa wi wn from (by repeat (first | exact Qa.refl _ | (refine Qa.alloc ?_ _) | (refine Qa.trans ?_ (by assumption)))))
     clear hcwn hfwn
     go_wp2
     have g1 := HX'.out
     have g2 := HS.out
     have g3 := HPB.out
     exact ⟨⟨j + 1, X' + q, by omega, by go_num, by go_num, by go_num, by omega, by omega, by unfold Hid; rw [g2, g1]; omega, HQ.out, (by repeat (first | exact Qa.refl _ | (refine Qa.alloc ?_ _) | (refine Qa.trans ?_ (by assumption))))⟩, by simp [intOf]; omega⟩
   ·obtain rfl : j = Y.mos.length := by omega
    have hkn : k < n := by
     rcases Nat.lt_or_ge k n with h | h
     ·exact h
     ·obtain ⟨i, hi, h1, h2⟩ := HF'.out (by omega)
      exact absurd ⟨h1, h2⟩ (HN.out (by omega) i hi)
    have f1 := HX'.out
    have f2 := HX.out
    have f3 := HD.out
    have f4 := HA.out
    have f5 := HM.out
    have f6 := HI.out
    have f7 := HB.out
    have f8 := HIL.out
    have G1 : Hid (X' = c.dayAt (k + 1) + d - 1 ∧ M + Y.mos.length = (c.itemsTo (k + 1)).length ∧ X' ≤ 156030 ∧ M + Y.mos.length ≤ 5200) := ⟨by omega, by omega, by omega, by omega⟩
    clear f1 f2 f3 f4 f5 f6 f7 f8
    generalize Y.mos.length = L at *
    go_wp2
    obtain ⟨e1, e2, e3, e4⟩ := G1.out
    exact ⟨⟨k + 1, X', M + L, by omega, by go_num, rfl, by go_num, z0, by omega, by omega, e1, e2, (by repeat (first | exact Qa.refl _ | (refine Qa.alloc ?_ _) | (refine Qa.trans ?_ (by assumption))))⟩, by simp [intOf]; omega⟩
end
section
open Go Go.RowKit Go.Shelf
attribute [local go_sem] Zt Dt.val
theorem Wj {W : World} {b : Nat} {t : TypeId} {v0 v1 v2 v3 : Value} (h : Qb W b t #[v0, v1, v2, v3]) (u0 u1 u2 u3 : Value) :
  ((((((W.setCell ⟨b, 0, none⟩ u0).setCell ⟨b, 1, none⟩ u1).setCell ⟨b, 2, none⟩ u2).setCell ⟨b, 3, none⟩ u3).cell? ⟨b, 0, none⟩ = some u0) ∧ (((((W.setCell ⟨b, 0, none⟩ u0).setCell ⟨b, 1, none⟩ u1).setCell ⟨b, 2, none⟩ u2).setCell ⟨b, 3, none⟩ u3).cell? ⟨b, 1, none⟩ = some u1) ∧
   (((((W.setCell ⟨b, 0, none⟩ u0).setCell ⟨b, 1, none⟩ u1).setCell ⟨b, 2, none⟩ u2).setCell ⟨b, 3, none⟩ u3).cell? ⟨b, 2, none⟩ = some u2) ∧ (((((W.setCell ⟨b, 0, none⟩ u0).setCell ⟨b, 1, none⟩ u1).setCell ⟨b, 2, none⟩ u2).setCell ⟨b, 3, none⟩ u3).cell? ⟨b, 3, none⟩ = some u3)) ∧
  ∀ wd, Qa wd W → wd.heap.size ≤ b → Qa wd ((((W.setCell ⟨b, 0, none⟩ u0).setCell ⟨b, 1, none⟩ u1).setCell ⟨b, 2, none⟩ u2).setCell ⟨b, 3, none⟩ u3) :=
 ⟨(Sz h u0 u1 u2 u3).c4, fun _ e h1 => (((e.setCell h1 _).setCell h1 _).setCell h1 _).setCell h1 _⟩
set_option maxHeartbeats 2000000 in
theorem Qd4 (A A' : Option Addr) (ca cb : Nat) (c : Qf) (d : Dt) (n : Int) (w : World) (hC : Qv w A ca A' cb c) :
  Calls Tryz.prog 59 #[.agg #[.slice A c.nk ca, .slice A' c.ny cb], .agg #[.int .i64 d.y, .int .i64 d.m, .bool d.s, .int .i64 d.d], .int .i64 n] w fun e w' => e = .returned (.tuple #[(c.addV d n).val, .int .i64 (c.addE d n)]) ∧ Qa w w' := by
 rcases Lw c d with ⟨hv, hE⟩ | ⟨hv, hh, hE⟩ | ⟨hv, hh, hE⟩
 ·have HE := Lib.hid hE
  have HV : Hid (c.addV d n = Xt) := by unfold Hid Qf.addV; rw [hE]; rfl
  have HR : Hid (c.addE d n = 70) := by unfold Hid Qf.addE; rw [hE]; rfl
  clear hE hv
  go_enter Tryz.func59, Tryz.ntmps59
  go_wp2_with (go_at_call 91; refine (X8 _ _ _ _ c _ 1 1 (fun _ => d) _ (hC.ext (by repeat (first | exact Qa.refl _ | (refine Qa.alloc ?_ _) | (refine Qa.trans ?_ (by assumption))))) (Ux (t := 27) (by repeat (first | (refine Qb.at _ _ _ _ ?_; (simp; done)) | refine Qb.alloc ?_ _))) (by omega)).mono ?_; rw [Ur, HE.out]; rintro e wq ⟨rfl, hq⟩; have hrb := (Qb.ext (b := w.heap.size + 1 + 1) (t := 27) (cs := #[.int .i64 0, .int .i64 0, .bool false, .int .i64 0]) (by repeat (first | (refine Qb.at _ _ _ _ ?_; (simp; done)) | refine Qb.alloc ?_ _)) hq); obtain ⟨r0, r1, r2, r3⟩ := hrb.c4; have f0 := hrb.frozen 0; have f1 := hrb.frozen 1; have f2 := hrb.frozen 2; have f3 := hrb.frozen 3)
  obtain ⟨⟨c0, c1, c2, c3⟩, gE⟩ := Wj hrb (.int .i64 0) (.int .i64 0) (.bool false) (.int .i64 0)
  refine bodyPost_ret (v := .tuple #[.agg #[.int .i64 0, .int .i64 0, .bool false, .int .i64 0], .int .i64 70]) (by simp [results, Tryz.results59, go_sem, c0, c1, c2, c3]) rfl ⟨by rw [HV.out, HR.out]; rfl, gE w (by repeat (first | exact Qa.refl _ | (refine Qa.alloc ?_ _) | (refine Qa.trans ?_ (by assumption)))) (by omega)⟩
 ·have HE := Lib.hid hE
  have HV : Hid (c.addV d n = Xt) := by unfold Hid Qf.addV; rw [hE]; rfl
  have HR : Hid (c.addE d n = 71) := by unfold Hid Qf.addE; rw [hE]; rfl
  clear hE hv
  go_enter Tryz.func59, Tryz.ntmps59
  go_wp2_with (go_at_call 91; refine (X8 _ _ _ _ c _ 1 1 (fun _ => d) _ (hC.ext (by repeat (first | exact Qa.refl _ | (refine Qa.alloc ?_ _) | (refine Qa.trans ?_ (by assumption))))) (Ux (t := 27) (by repeat (first | (refine Qb.at _ _ _ _ ?_; (simp; done)) | refine Qb.alloc ?_ _))) (by omega)).mono ?_; rw [Ur, HE.out]; rintro e wq ⟨rfl, hq⟩; have hrb := (Qb.ext (b := w.heap.size + 1 + 1) (t := 27) (cs := #[.int .i64 0, .int .i64 0, .bool false, .int .i64 0]) (by repeat (first | (refine Qb.at _ _ _ _ ?_; (simp; done)) | refine Qb.alloc ?_ _)) hq); obtain ⟨r0, r1, r2, r3⟩ := hrb.c4; have f0 := hrb.frozen 0; have f1 := hrb.frozen 1; have f2 := hrb.frozen 2; have f3 := hrb.frozen 3)
  obtain ⟨⟨c0, c1, c2, c3⟩, gE⟩ := Wj hrb (.int .i64 0) (.int .i64 0) (.bool false) (.int .i64 0)
  refine bodyPost_ret (v := .tuple #[.agg #[.int .i64 0, .int .i64 0, .bool false, .int .i64 0], .int .i64 71]) (by simp [results, Tryz.results59, go_sem, c0, c1, c2, c3]) rfl ⟨by rw [HV.out, HR.out]; rfl, gE w (by repeat (first | exact Qa.refl _ | (refine Qa.alloc ?_ _) | (refine Qa.trans ?_ (by assumption)))) (by omega)⟩
 ·have HE := Lib.hid hE
  by_cases hr : 156000 < n ∨ n < -156000
  ·have hno := Qan hh (Wx hv) hr
   have HV : Hid (c.addV d n = Xt) := by unfold Hid Qf.addV; rw [hE, hno]; rfl
   have HR : Hid (c.addE d n = 8) := by unfold Hid Qf.addE; rw [hE, hno]; rfl
   clear hE hv hh hno
   by_cases h1 : 156000 < n
   ·have hb : decide (156000 < n) = true := decide_eq_true h1
    clear hr
    go_enter Tryz.func59, Tryz.ntmps59
    go_wp2_with (go_at_call 91; refine (X8 _ _ _ _ c _ 1 1 (fun _ => d) _ (hC.ext (by repeat (first | exact Qa.refl _ | (refine Qa.alloc ?_ _) | (refine Qa.trans ?_ (by assumption))))) (Ux (t := 27) (by repeat (first | (refine Qb.at _ _ _ _ ?_; (simp; done)) | refine Qb.alloc ?_ _))) (by omega)).mono ?_; rw [Ur, HE.out]; rintro e wq ⟨rfl, hq⟩; have hrb := (Qb.ext (b := w.heap.size + 1 + 1) (t := 27) (cs := #[.int .i64 0, .int .i64 0, .bool false, .int .i64 0]) (by repeat (first | (refine Qb.at _ _ _ _ ?_; (simp; done)) | refine Qb.alloc ?_ _)) hq); obtain ⟨r0, r1, r2, r3⟩ := hrb.c4; have f0 := hrb.frozen 0; have f1 := hrb.frozen 1; have f2 := hrb.frozen 2; have f3 := hrb.frozen 3)
    obtain ⟨⟨c0, c1, c2, c3⟩, gE⟩ := Wj hrb (.int .i64 0) (.int .i64 0) (.bool false) (.int .i64 0)
    refine bodyPost_ret (v := .tuple #[.agg #[.int .i64 0, .int .i64 0, .bool false, .int .i64 0], .int .i64 8]) (by simp [results, Tryz.results59, go_sem, c0, c1, c2, c3]) rfl ⟨by rw [HV.out, HR.out]; rfl, gE w (by repeat (first | exact Qa.refl _ | (refine Qa.alloc ?_ _) | (refine Qa.trans ?_ (by assumption)))) (by omega)⟩
   ·have hb : decide (156000 < n) = false := decide_eq_false h1
    have hb2 : decide (n < -156000) = true := decide_eq_true (by omega)
    clear hr h1
    go_enter Tryz.func59, Tryz.ntmps59
    go_wp2_with (go_at_call 91; refine (X8 _ _ _ _ c _ 1 1 (fun _ => d) _ (hC.ext (by repeat (first | exact Qa.refl _ | (refine Qa.alloc ?_ _) | (refine Qa.trans ?_ (by assumption))))) (Ux (t := 27) (by repeat (first | (refine Qb.at _ _ _ _ ?_; (simp; done)) | refine Qb.alloc ?_ _))) (by omega)).mono ?_; rw [Ur, HE.out]; rintro e wq ⟨rfl, hq⟩; have hrb := (Qb.ext (b := w.heap.size + 1 + 1) (t := 27) (cs := #[.int .i64 0, .int .i64 0, .bool false, .int .i64 0]) (by repeat (first | (refine Qb.at _ _ _ _ ?_; (simp; done)) | refine Qb.alloc ?_ _)) hq); obtain ⟨r0, r1, r2, r3⟩ := hrb.c4; have f0 := hrb.frozen 0; have f1 := hrb.frozen 1; have f2 := hrb.frozen 2; have f3 := hrb.frozen 3)
    obtain ⟨⟨c0, c1, c2, c3⟩, gE⟩ := Wj hrb (.int .i64 0) (.int .i64 0) (.bool false) (.int .i64 0)
    refine bodyPost_ret (v := .tuple #[.agg #[.int .i64 0, .int .i64 0, .bool false, .int .i64 0], .int .i64 8]) (by simp [results, Tryz.results59, go_sem, c0, c1, c2, c3]) rfl ⟨by rw [HV.out, HR.out]; rfl, gE w (by repeat (first | exact Qa.refl _ | (refine Qa.alloc ?_ _) | (refine Qa.trans ?_ (by assumption)))) (by omega)⟩
  ·have h1 : n ≤ 156000 := by omega
   have h2 : -156000 ≤ n := by omega
   have hb : decide (156000 < n) = false := decide_eq_false (by omega)
   have hb2 : decide (n < -156000) = false := decide_eq_false (by omega)
   have HL := Lib.hid (Wy hv)
   have hny := Wx hv
   have HY := Lib.hid hny
   have hnm := Ru hh
   have hda := Ua c c.ny
   obtain ⟨hn1, hn2⟩ := hnm
   have hn3 : (c.num d).1 ≤ 156000 := by omega
   have HD := Lib.hid (N9 hh)
   have HV : Hid (c.addV d n = (c.at? ((c.num d).1 + n)).getD Xt) := by unfold Hid Qf.addV; rw [hE]; rfl
   have HR : Hid (c.addE d n = atOk (c.at? ((c.num d).1 + n))) := by unfold Hid Qf.addE; rw [hE]; rfl
   clear hE hv hh hr hn2 hda
   go_enter Tryz.func59, Tryz.ntmps59
   go_wp2_with (go_at_call 91; refine (X8 _ _ _ _ c _ 1 1 (fun _ => d) _ (hC.ext (by repeat (first | exact Qa.refl _ | (refine Qa.alloc ?_ _) | (refine Qa.trans ?_ (by assumption))))) (Ux (t := 27) (by repeat (first | (refine Qb.at _ _ _ _ ?_; (simp; done)) | refine Qb.alloc ?_ _))) (by omega)).mono ?_; rw [Ur, HE.out]; rintro e wq ⟨rfl, hq⟩; have hcb := (Qb.ext (b := w.heap.size) (t := 25) (cs := #[.slice A c.nk ca, .slice A' c.ny cb]) (by repeat (first | (refine Qb.at _ _ _ _ ?_; (simp; done)) | refine Qb.alloc ?_ _)) hq); obtain ⟨k0, k1⟩ := hcb.c2; obtain ⟨e0, e1, e2, e3⟩ := (Qb.ext (b := w.heap.size + 1) (t := 27) (cs := #[.int .i64 d.y, .int .i64 d.m, .bool d.s, .int .i64 d.d]) (by repeat (first | (refine Qb.at _ _ _ _ ?_; (simp; done)) | refine Qb.alloc ?_ _)) hq).c4; have hrb := (Qb.ext (b := w.heap.size + 1 + 1) (t := 27) (cs := #[.int .i64 0, .int .i64 0, .bool false, .int .i64 0]) (by repeat (first | (refine Qb.at _ _ _ _ ?_; (simp; done)) | refine Qb.alloc ?_ _)) hq); obtain ⟨r0, r1, r2, r3⟩ := hrb.c4; have f0 := hrb.frozen 0; have f1 := hrb.frozen 1; have f2 := hrb.frozen 2; have f3 := hrb.frozen 3)
   refine (M0 _ _ _ _ c d _ (hC.ext (by repeat (first | exact Qa.refl _ | (refine Qa.alloc ?_ _) | (refine Qa.trans ?_ (by assumption))))) HL.out HY.out HD.out).mono ?_
   rintro e wn ⟨rfl, hn⟩
   obtain ⟨k0, k1⟩ := (hcb.ext hn).c2
   generalize (c.num d).1 = nn at *
   go_wp2_with (fail)
   refine (at_any _ _ _ _ c (nn + n) _ (hC.ext (by repeat (first | exact Qa.refl _ | (refine Qa.alloc ?_ _) | (refine Qa.trans ?_ (by assumption))))) HL.out HY.out (by omega) (by omega)).mono ?_
   rintro e wm ⟨rfl, hm⟩
   clear r0 r1 r2 r3 f0 f1 f2 f3
   have hrb := (hrb.ext hn).ext hm
   obtain ⟨r0, r1, r2, r3⟩ := hrb.c4
   have f0 := hrb.frozen 0
   have f1 := hrb.frozen 1
   have f2 := hrb.frozen 2
   have f3 := hrb.frozen 3
   generalize (c.at? (nn + n)).getD Xt = dd at *
   generalize atOk (c.at? (nn + n)) = ee at *
   go_wp2
   obtain ⟨⟨c0, c1, c2, c3⟩, gE⟩ := Wj hrb (.int .i64 dd.y) (.int .i64 dd.m) (.bool dd.s) (.int .i64 dd.d)
   refine bodyPost_ret (v := .tuple #[.agg #[.int .i64 dd.y, .int .i64 dd.m, .bool dd.s, .int .i64 dd.d], .int .i64 ee]) (by simp [results, Tryz.results59, go_sem, c0, c1, c2, c3]) rfl ⟨by rw [HV.out, HR.out]; rfl, gE w (by repeat (first | exact Qa.refl _ | (refine Qa.alloc ?_ _) | (refine Qa.trans ?_ (by assumption)))) (by omega)⟩
end
section
open Go Go.RowKit
attribute [local go_sem] Zt
theorem Qc2 {c : Qf} {n X' : Int} {k j : Nat} {D : Dt} (hD : c.at? n = some D) (hy : k < c.ny) (hj : j < (c.yr k).mos.length) (hX : X' = n - (c.dayAt k - 1) - Qr (c.yr k) j) (h1 : 1 ≤ X') (h2 : X' ≤ Wa (c.yr k) j) : D = ⟨k, Ye (c.yr k) j, Yk (c.yr k) j, X'⟩ := by
 have := at_pos hy hj (n := n) (by omega) (by omega)
 rw [hD] at this
 rw [Option.some.inj this, hX]
 congr 1
 omega
theorem Iy (A A' : Option Addr) (ca cb : Nat) (c : Qf) (n : Int) (D : Dt) (w : World) (hC : Qv w A ca A' cb c) (hv : c.valid = true) (hD : c.at? n = some D) :
  Calls Tryz.prog 98 #[.agg #[.slice A c.nk ca, .slice A' c.ny cb], .int .i64 n] w fun e w' => e = .returned (.agg #[.int .i64 D.y, .int .i64 D.m, .bool D.s, .int .i64 D.d]) ∧ Qa w w' := by
 have hny := Wx hv
 have hlg := Wy hv
 clear hv
 obtain ⟨hh, hnn⟩ := at_has hD
 have hin := Oe hh
 rw [hnn] at hin
 obtain ⟨n0, n1⟩ := hin
 have HB0 := Lib.hid (Ua c c.ny)
 have HN1 := Lib.hid n1
 have n2 : n ≤ 156000 := by have := HB0.out; omega
 have HDD := Lib.hid (fun k hk j X' hj hX h1 h2 => Qc2 hD (k := k) (j := j) (X' := X') hk hj hX h1 h2)
 clear hh hnn n1 HB0 hD
 go_enter Tryz.func98, Tryz.ntmps98
 go_upto_region 1 with (fail)
 obtain ⟨v, hv⟩ := Qg ((w.alloc (.cells #[.slice A c.nk ca, .slice A' c.ny cb] 25)).alloc (.cells #[.int .i64 0, .int .i64 0, .bool false, .int .i64 0] 27))
 rw [← hv]
 have E : Qa w v := by rw [hv]; exact ((Qa.refl _).alloc _).alloc _
 have B1 : Qb v w.heap.size 25 #[.slice A c.nk ca, .slice A' c.ny cb] := by rw [hv]; exact (Qb.new _ _ _).alloc _
 have B2 : Qb v (w.heap.size + 1) 27 #[.int .i64 0, .int .i64 0, .bool false, .int .i64 0] := by rw [hv]; exact Qb.at _ _ _ _ (by simp)
 clear hv
 have C := hC.ext E
 clear hC
 generalize hb1 : w.heap.size = b1 at *
 replace hb1 := Lib.hid hb1
 obtain ⟨k0, k1⟩ := B1.c2; have lk := B1.lt
 obtain ⟨p0, p1, p2, p3⟩ := B2.c4; have lp := B2.lt
 go_upto_region 2 with (fail)
 go_loopw [1, 5, 6, 7] (fun nv yv _ _ wr => ∃ (k : Nat) (X : Int), k ≤ c.ny ∧ yv = .int .i64 k ∧ nv = .int .i64 X ∧ 1 ≤ X ∧ X ≤ 156000 ∧ Hid (X = n - (c.dayAt k - 1)) ∧ Qa v wr) (fun _ yv _ _ _ => c.ny - (intOf yv).toNat)
 case atStart => exact ⟨0, n, Nat.zero_le _, rfl, rfl, n0, n2, (by show n = n - (1 - 1); omega), Qa.refl _⟩
 case round =>
  obtain ⟨k, X, hk, rfl, rfl, x0, x1, HX, hE⟩ := hrel
  obtain ⟨wo, rfl⟩ := Qg wr
  clear k0 k1 lk p0 p1 p2 p3 lp
  replace B1 := B1.ext hE
  replace B2 := B2.ext hE
  replace C := C.ext hE
  obtain ⟨k0, k1⟩ := B1.c2
  have lk := B1.lt
  have hkn : k < c.ny := by
   rcases Nat.lt_or_ge k c.ny with h | h
   ·exact h
   ·have f1 := HX.out
    have f2 := HN1.out
    obtain rfl : k = c.ny := by omega
    omega
  have hkb : decide ((k : Int) < (c.ny : Int)) = true := decide_eq_true (by omega)
  obtain ⟨yb, yo, hA', hyb, y0, y1, y2, y3⟩ := C.year hkn
  subst hA'
  have hmo := fun w => Mx (c.yr k) w (hlg k hkn).1 (hlg k hkn).2
  have HP := Lib.hid (fun j X' hj hX h1 h2 => HDD.out k hkn j X' hj hX h1 h2)
  have HD : Hid (c.dayAt (k + 1) = c.dayAt k + (c.yr k).days) := rfl
  have HA := Lib.hid (Hw (c.yr k))
  have hml := (Kb (c.yr k)).2
  generalize (c.yr k).days = dys at *
  generalize c.yr k = Y at *
  go_upto_region 5 with (go_at_call 130; (with_reducible refine Calls.mono (hmo _) ?_); rintro e v2 ⟨mv, rfl, h, MA⟩)
  obtain ⟨MA, mcap, rfl, MM⟩ := MA
  clear y0 y1 y2 y3 hyb hmo k0 k1 lk
  replace B2 := B2.ext h
  go_upto_region 6 with (fail)
  go_loopw [1, 7] (fun nv iv wr => ∃ (j : Nat) (X' : Int), j ≤ Y.mos.length ∧ iv = .int .i64 j ∧ nv = .int .i64 X' ∧ 1 ≤ X' ∧ X' ≤ 156000 ∧ Hid (X' = X - Qr Y j) ∧ Qa v2 wr) (fun _ iv _ => Y.mos.length - (intOf iv).toNat)
  case atStart => exact ⟨0, X, Nat.zero_le _, rfl, rfl, x0, x1, (by show X = X - 0; omega), Qa.refl _⟩
  case round =>
   obtain ⟨j, X', hj, rfl, rfl, z0, z1, HX', hE2⟩ := hrel
   obtain ⟨wi, rfl⟩ := Qg wr
   by_cases hlt : j < Y.mos.length
   ·obtain ⟨mb, mo, rfl, hmb, c0, c1, c2⟩ := Ow (MM.ext hE2) hlt
    have HPj := fun h2 => HP.out j X' hlt (by have f1 := HX'.out; have f2 := HX.out; omega) z0 h2
    have hq := O7 Y j
    have HS := Lib.hid (G6 hlt)
    generalize Y.mos.length = L at *
    generalize Ye Y j = x at *
    generalize Yk Y j = z at *
    generalize Wa Y j = q at *
    obtain ⟨q0, q1⟩ := hq
    by_cases hle : X' ≤ q
    ·have HR : Hid (D = ⟨k, x, z, X'⟩) := HPj hle
     have hleb : decide (X' ≤ q) = true := decide_eq_true hle
     clear HPj
     have B2i := B2.ext hE2
     obtain ⟨p0, p1, p2, p3⟩ := B2i.c4
     have lp := B2i.lt
     go_upto_region 9 with (fail)
     refine Iq 13 wi Qm (by kernel_rfl) (by repeat (first | exact Qa.refl _ | (refine Qa.alloc ?_ _) | (refine Qa.trans ?_ (by assumption)))) ?_
     intro hne hrx hry
     try simp only []
     try simp only [List.append_eq, List.cons_append, List.nil_append]
     simp only [List.take_succ_cons, List.take_zero, List.drop_succ_cons, List.drop_zero]
     skip
     repeat (first
      | go_big_quiet_skip
      | (go_big_quiet_want; go_big_quiet_op; go_big_quiet_on))
     clear hne hry hrx
     refine wpQuiet_nil ?_
     intro wn hwn
     obtain ⟨hcwn, hfwn, hzwn⟩ := Qa.rules hwn
     try simp only [World.size_alloc] at hzwn
     obtain ⟨hcbwn, hfbwn, hzbwn⟩ := Qa.rules (show Qa wi wn from (by repeat (first | exact Qa.refl _ | (refine Qa.alloc ?_ _) | (refine Qa.trans ?_ (by assumption)))))
     clear hcwn hfwn
     have hrb := B2i.ext hwn
     have f0 := B2i.frozen 0
     have f1 := B2i.frozen 1
     have f2 := B2i.frozen 2
     have f3 := B2i.frozen 3
     have lr := hrb.lt
     go_wp2
     obtain ⟨⟨g0, g1, g2, g3⟩, gE⟩ := Wj hrb (.int .i64 (k : Int)) (.int .i64 x) (.bool z) (.int .i64 X')
     have hfin : Qa w wn := E.trans (hE.trans (h.trans (hE2.trans hwn)))
     refine bodyPost_ret (v := .agg #[.int .i64 (k : Int), .int .i64 x, .bool z, .int .i64 X']) (by simp [results, Tryz.results98, go_sem, g0, g1, g2, g3]) rfl ⟨by rw [HR.out], gE w hfin (by have := hb1.out; omega)⟩
    ·have hleb : decide (X' ≤ q) = false := decide_eq_false hle
     clear HPj
     go_wp2
     have g1 := HX'.out
     have g2 := HS.out
     exact ⟨⟨j + 1, X' - q, by omega, by go_num, by go_num, by omega, by omega, by unfold Hid; rw [g2, g1]; omega, hE2⟩, by simp [intOf]; omega⟩
   ·obtain rfl : j = Y.mos.length := by omega
    have G1 : Hid (X' = n - (c.dayAt (k + 1) - 1)) := by
     have f1 := HX'.out
     have f2 := HX.out
     have f3 := HD.out
     have f4 := HA.out
     show X' = _
     omega
    generalize Y.mos.length = L at *
    go_wp2
    exact ⟨⟨k + 1, X', by omega, by go_num, rfl, z0, z1, G1, hE.trans (h.trans hE2)⟩, by simp [intOf]; omega⟩
theorem Ew (A A' : Option Addr) (ca cb : Nat) (c : Qf) (a b : Dt) (w : World) (hC : Qv w A ca A' cb c) :
  Calls Tryz.prog 96 #[.agg #[.slice A c.nk ca, .slice A' c.ny cb], .agg #[.int .i64 a.y, .int .i64 a.m, .bool a.s, .int .i64 a.d], .agg #[.int .i64 b.y, .int .i64 b.m, .bool b.s, .int .i64 b.d]] w fun e w' => e = .returned (.int .i64 (c.in2E a b)) ∧ Qa w w' := by
 have NV := fun v (h : Qv v A ca A' cb c) => Pq A A' ca cb c v h
 unfold Qf.in2E
 cases hv : c.valid
 ·rw [hv] at NV
  clear hv
  go_enter Tryz.func96, Tryz.ntmps96
  go_upto_region 1 with (fail)
  obtain ⟨v, hv⟩ := Qg (((w.alloc (.cells #[.slice A c.nk ca, .slice A' c.ny cb] 25)).alloc (.cells #[.int .i64 a.y, .int .i64 a.m, .bool a.s, .int .i64 a.d] 27)).alloc (.cells #[.int .i64 b.y, .int .i64 b.m, .bool b.s, .int .i64 b.d] 27))
  rw [← hv]
  have E : Qa w v := by rw [hv]; exact (((Qa.refl _).alloc _).alloc _).alloc _
  have B1 : Qb v w.heap.size 25 #[.slice A c.nk ca, .slice A' c.ny cb] := by rw [hv]; exact ((Qb.new _ _ _).alloc _).alloc _
  have B2 : Qb v (w.heap.size + 1) 27 #[.int .i64 a.y, .int .i64 a.m, .bool a.s, .int .i64 a.d] := by rw [hv]; exact (Qb.at _ _ _ _ (by simp)).alloc _
  have B3 : Qb v (w.heap.size + 1 + 1) 27 #[.int .i64 b.y, .int .i64 b.m, .bool b.s, .int .i64 b.d] := by rw [hv]; exact Qb.at _ _ _ _ (by simp)
  clear hv
  have C := hC.ext E
  clear hC
  generalize hb1 : w.heap.size = b1 at *
  replace hb1 := Lib.hid hb1
  obtain ⟨k0, k1⟩ := B1.c2; have lk := B1.lt
  obtain ⟨p0, p1, p2, p3⟩ := B2.c4; have lp := B2.lt
  obtain ⟨q0, q1, q2, q3⟩ := B3.c4; have lq := B3.lt
  go_wp2_with (go_at_call 31; (with_reducible refine Calls.mono (NV _ C) ?_); rintro e v2 ⟨rfl, hx⟩)
  go_ret
  exact ⟨rfl, E.trans hx⟩
 ·have N1 := fun v (h : Qv v A ca A' cb c) => Oi A A' ca cb c a v h hv
  have N2 := fun v (h : Qv v A ca A' cb c) => Oi A A' ca cb c b v h hv
  rw [hv] at NV
  clear hv
  cases ha : c.has a
  ·rw [ha] at N1
   clear ha
   go_enter Tryz.func96, Tryz.ntmps96
   go_upto_region 1 with (fail)
   obtain ⟨v, hv⟩ := Qg (((w.alloc (.cells #[.slice A c.nk ca, .slice A' c.ny cb] 25)).alloc (.cells #[.int .i64 a.y, .int .i64 a.m, .bool a.s, .int .i64 a.d] 27)).alloc (.cells #[.int .i64 b.y, .int .i64 b.m, .bool b.s, .int .i64 b.d] 27))
   rw [← hv]
   have E : Qa w v := by rw [hv]; exact (((Qa.refl _).alloc _).alloc _).alloc _
   have B1 : Qb v w.heap.size 25 #[.slice A c.nk ca, .slice A' c.ny cb] := by rw [hv]; exact ((Qb.new _ _ _).alloc _).alloc _
   have B2 : Qb v (w.heap.size + 1) 27 #[.int .i64 a.y, .int .i64 a.m, .bool a.s, .int .i64 a.d] := by rw [hv]; exact (Qb.at _ _ _ _ (by simp)).alloc _
   have B3 : Qb v (w.heap.size + 1 + 1) 27 #[.int .i64 b.y, .int .i64 b.m, .bool b.s, .int .i64 b.d] := by rw [hv]; exact Qb.at _ _ _ _ (by simp)
   clear hv
   have C := hC.ext E
   clear hC
   generalize hb1 : w.heap.size = b1 at *
   replace hb1 := Lib.hid hb1
   obtain ⟨k0, k1⟩ := B1.c2; have lk := B1.lt
   obtain ⟨p0, p1, p2, p3⟩ := B2.c4; have lp := B2.lt
   obtain ⟨q0, q1, q2, q3⟩ := B3.c4; have lq := B3.lt
   go_upto_region 3 with (go_at_call 31; (with_reducible refine Calls.mono (NV _ C) ?_); rintro e v2 ⟨rfl, h⟩)
   replace E := Qa.trans E h
   replace C := C.ext h
   replace B1 := B1.ext h
   replace B2 := B2.ext h
   replace B3 := B3.ext h
   clear h
   clear k0 k1 lk
   clear p0 p1 p2 p3 lp
   clear q0 q1 q2 q3 lq
   obtain ⟨k0, k1⟩ := B1.c2; have lk := B1.lt
   obtain ⟨p0, p1, p2, p3⟩ := B2.c4; have lp := B2.lt
   obtain ⟨q0, q1, q2, q3⟩ := B3.c4; have lq := B3.lt
   go_wp2_with (go_at_call 94; (with_reducible refine Calls.mono (N1 _ C) ?_); rintro e v3 ⟨rfl, hx⟩)
   go_ret
   exact ⟨rfl, E.trans hx⟩
  ·rw [ha] at N1
   clear ha
   cases hb : c.has b
   ·rw [hb] at N2
    clear hb
    go_enter Tryz.func96, Tryz.ntmps96
    go_upto_region 1 with (fail)
    obtain ⟨v, hv⟩ := Qg (((w.alloc (.cells #[.slice A c.nk ca, .slice A' c.ny cb] 25)).alloc (.cells #[.int .i64 a.y, .int .i64 a.m, .bool a.s, .int .i64 a.d] 27)).alloc (.cells #[.int .i64 b.y, .int .i64 b.m, .bool b.s, .int .i64 b.d] 27))
    rw [← hv]
    have E : Qa w v := by rw [hv]; exact (((Qa.refl _).alloc _).alloc _).alloc _
    have B1 : Qb v w.heap.size 25 #[.slice A c.nk ca, .slice A' c.ny cb] := by rw [hv]; exact ((Qb.new _ _ _).alloc _).alloc _
    have B2 : Qb v (w.heap.size + 1) 27 #[.int .i64 a.y, .int .i64 a.m, .bool a.s, .int .i64 a.d] := by rw [hv]; exact (Qb.at _ _ _ _ (by simp)).alloc _
    have B3 : Qb v (w.heap.size + 1 + 1) 27 #[.int .i64 b.y, .int .i64 b.m, .bool b.s, .int .i64 b.d] := by rw [hv]; exact Qb.at _ _ _ _ (by simp)
    clear hv
    have C := hC.ext E
    clear hC
    generalize hb1 : w.heap.size = b1 at *
    replace hb1 := Lib.hid hb1
    obtain ⟨k0, k1⟩ := B1.c2; have lk := B1.lt
    obtain ⟨p0, p1, p2, p3⟩ := B2.c4; have lp := B2.lt
    obtain ⟨q0, q1, q2, q3⟩ := B3.c4; have lq := B3.lt
    go_upto_region 3 with (go_at_call 31; (with_reducible refine Calls.mono (NV _ C) ?_); rintro e v2 ⟨rfl, h⟩)
    replace E := Qa.trans E h
    replace C := C.ext h
    replace B1 := B1.ext h
    replace B2 := B2.ext h
    replace B3 := B3.ext h
    clear h
    clear k0 k1 lk
    clear p0 p1 p2 p3 lp
    clear q0 q1 q2 q3 lq
    obtain ⟨k0, k1⟩ := B1.c2; have lk := B1.lt
    obtain ⟨p0, p1, p2, p3⟩ := B2.c4; have lp := B2.lt
    obtain ⟨q0, q1, q2, q3⟩ := B3.c4; have lq := B3.lt
    clear k0 k1 lk p0 p1 p2 p3 lp q0 q1 q2 q3 lq
    obtain ⟨k0, k1⟩ := B1.c2; have lk := B1.lt
    obtain ⟨p0, p1, p2, p3⟩ := B2.c4; have lp := B2.lt
    obtain ⟨q0, q1, q2, q3⟩ := B3.c4; have lq := B3.lt
    go_wp2_with (first | (go_at_call 94; (with_reducible refine Calls.mono (N1 _ C) ?_); rintro e v3 ⟨rfl, h1⟩; have C3 := C.ext h1; clear k0 k1 lk q0 q1 q2 q3 lq; obtain ⟨k0, k1⟩ := (B1.ext h1).c2; have lk := (B1.ext h1).lt; obtain ⟨q0, q1, q2, q3⟩ := (B3.ext h1).c4; have lq := (B3.ext h1).lt) | (go_at_call 94; (with_reducible refine Calls.mono (N2 _ C3) ?_); rintro e v4 ⟨rfl, h2⟩))
    go_ret
    exact ⟨rfl, E.trans (h1.trans h2)⟩
   ·rw [hb] at N2
    clear hb
    go_enter Tryz.func96, Tryz.ntmps96
    go_upto_region 1 with (fail)
    obtain ⟨v, hv⟩ := Qg (((w.alloc (.cells #[.slice A c.nk ca, .slice A' c.ny cb] 25)).alloc (.cells #[.int .i64 a.y, .int .i64 a.m, .bool a.s, .int .i64 a.d] 27)).alloc (.cells #[.int .i64 b.y, .int .i64 b.m, .bool b.s, .int .i64 b.d] 27))
    rw [← hv]
    have E : Qa w v := by rw [hv]; exact (((Qa.refl _).alloc _).alloc _).alloc _
    have B1 : Qb v w.heap.size 25 #[.slice A c.nk ca, .slice A' c.ny cb] := by rw [hv]; exact ((Qb.new _ _ _).alloc _).alloc _
    have B2 : Qb v (w.heap.size + 1) 27 #[.int .i64 a.y, .int .i64 a.m, .bool a.s, .int .i64 a.d] := by rw [hv]; exact (Qb.at _ _ _ _ (by simp)).alloc _
    have B3 : Qb v (w.heap.size + 1 + 1) 27 #[.int .i64 b.y, .int .i64 b.m, .bool b.s, .int .i64 b.d] := by rw [hv]; exact Qb.at _ _ _ _ (by simp)
    clear hv
    have C := hC.ext E
    clear hC
    generalize hb1 : w.heap.size = b1 at *
    replace hb1 := Lib.hid hb1
    obtain ⟨k0, k1⟩ := B1.c2; have lk := B1.lt
    obtain ⟨p0, p1, p2, p3⟩ := B2.c4; have lp := B2.lt
    obtain ⟨q0, q1, q2, q3⟩ := B3.c4; have lq := B3.lt
    go_upto_region 3 with (go_at_call 31; (with_reducible refine Calls.mono (NV _ C) ?_); rintro e v2 ⟨rfl, h⟩)
    replace E := Qa.trans E h
    replace C := C.ext h
    replace B1 := B1.ext h
    replace B2 := B2.ext h
    replace B3 := B3.ext h
    clear h
    clear k0 k1 lk
    clear p0 p1 p2 p3 lp
    clear q0 q1 q2 q3 lq
    obtain ⟨k0, k1⟩ := B1.c2; have lk := B1.lt
    obtain ⟨p0, p1, p2, p3⟩ := B2.c4; have lp := B2.lt
    obtain ⟨q0, q1, q2, q3⟩ := B3.c4; have lq := B3.lt
    clear k0 k1 lk p0 p1 p2 p3 lp q0 q1 q2 q3 lq
    obtain ⟨k0, k1⟩ := B1.c2; have lk := B1.lt
    obtain ⟨p0, p1, p2, p3⟩ := B2.c4; have lp := B2.lt
    obtain ⟨q0, q1, q2, q3⟩ := B3.c4; have lq := B3.lt
    go_wp2_with (first | (go_at_call 94; (with_reducible refine Calls.mono (N1 _ C) ?_); rintro e v3 ⟨rfl, h1⟩; have C3 := C.ext h1; clear k0 k1 lk q0 q1 q2 q3 lq; obtain ⟨k0, k1⟩ := (B1.ext h1).c2; have lk := (B1.ext h1).lt; obtain ⟨q0, q1, q2, q3⟩ := (B3.ext h1).c4; have lq := (B3.ext h1).lt) | (go_at_call 94; (with_reducible refine Calls.mono (N2 _ C3) ?_); rintro e v4 ⟨rfl, h2⟩))
    go_ret
    exact ⟨rfl, E.trans (h1.trans h2)⟩
theorem Eg (c : Qf) (d : Dt) : c.in2E d d = c.inE d := by unfold Qf.in2E Qf.inE; cases c.has d <;> rfl
end
section
open Go Go.RowKit Go.Shelf
attribute [local go_sem] Zt
theorem Gm (A A' : Option Addr) (ca cb : Nat) (c : Qf) (d : Dt) (w : World) (hC : Qv w A ca A' cb c) (hv : c.valid = true) :
  Calls Tryz.prog 60 #[.agg #[.slice A c.nk ca, .slice A' c.ny cb], .agg #[.int .i64 d.y, .int .i64 d.m, .bool d.s, .int .i64 d.d]] w fun e w' => e = .returned (.int .i64 (c.numV d)) ∧ Qa w w' := by
 have NH := fun v (h : Qv v A ca A' cb c) => Oi A A' ca cb c d v h hv
 unfold Qf.numV
 cases hh : c.has d
 ·have hE : c.inE d ≠ 0 := by rcases Lw c d with ⟨h, _⟩ | ⟨_, _, h⟩ | ⟨_, h, _⟩ <;> first | (rw [hv] at h; cases h) | (rw [h]; decide) | (rw [hh] at h; cases h)
  simp only [hh] at NH
  rw [if_neg hE]
  clear hE hh hv
  go_enter Tryz.func60, Tryz.ntmps60
  go_upto_region 1 with (fail)
  obtain ⟨v, hv⟩ := Qg ((w.alloc (.cells #[.slice A c.nk ca, .slice A' c.ny cb] 25)).alloc (.cells #[.int .i64 d.y, .int .i64 d.m, .bool d.s, .int .i64 d.d] 27))
  rw [← hv]
  have E : Qa w v := by rw [hv]; exact ((Qa.refl _).alloc _).alloc _
  have B1 : Qb v w.heap.size 25 #[.slice A c.nk ca, .slice A' c.ny cb] := by rw [hv]; exact (Qb.new _ _ _).alloc _
  have B2 : Qb v (w.heap.size + 1) 27 #[.int .i64 d.y, .int .i64 d.m, .bool d.s, .int .i64 d.d] := by rw [hv]; exact Qb.at _ _ _ _ (by simp)
  clear hv
  obtain ⟨b2, hb2⟩ := Qg (w.heap.size + 1)
  rw [← hb2] at B2 ⊢
  obtain ⟨b1, hb1⟩ := Qg (w.heap.size)
  rw [← hb1] at B1 ⊢
  have hbr : w.heap.size ≤ b2 := by omega
  have hbr1 : w.heap.size ≤ b1 := by omega
  have hn21 : b2 ≠ b1 := by omega
  clear hb1 hb2
  have C := hC.ext E
  clear hC
  obtain ⟨k0, k1⟩ := B1.c2
  have kl := B1.lt
  obtain ⟨p0, p1, p2, p3⟩ := B2.c4
  have pl := B2.lt
  go_wp2_with (go_at_call 94; (with_reducible refine Calls.mono (NH _ C) ?_); rintro e w1 ⟨rfl, h1⟩; replace E := E.trans h1; replace C := C.ext h1; replace B1 := B1.ext h1; replace B2 := B2.ext h1; clear k0 k1 kl; obtain ⟨k0, k1⟩ := B1.c2; have kl := B1.lt; clear p0 p1 p2 p3 pl; obtain ⟨p0, p1, p2, p3⟩ := B2.c4; have pl := B2.lt; clear h1)
  go_ret
  exact ⟨rfl, E⟩
 ·have hE : c.inE d = 0 := by rcases Lw c d with ⟨h, _⟩ | ⟨_, h, _⟩ | ⟨_, _, h⟩ <;> first | (rw [hv] at h; cases h) | exact h | (rw [hh] at h; cases h)
  have NK := fun v (h : Qv v A ca A' cb c) => Tq A A' ca cb c d v h hv hh
  simp only [hh] at NH
  rw [if_pos hE]
  generalize c.num d = V at *
  clear hE hh hv
  go_enter Tryz.func60, Tryz.ntmps60
  go_upto_region 1 with (fail)
  obtain ⟨v, hv⟩ := Qg ((w.alloc (.cells #[.slice A c.nk ca, .slice A' c.ny cb] 25)).alloc (.cells #[.int .i64 d.y, .int .i64 d.m, .bool d.s, .int .i64 d.d] 27))
  rw [← hv]
  have E : Qa w v := by rw [hv]; exact ((Qa.refl _).alloc _).alloc _
  have B1 : Qb v w.heap.size 25 #[.slice A c.nk ca, .slice A' c.ny cb] := by rw [hv]; exact (Qb.new _ _ _).alloc _
  have B2 : Qb v (w.heap.size + 1) 27 #[.int .i64 d.y, .int .i64 d.m, .bool d.s, .int .i64 d.d] := by rw [hv]; exact Qb.at _ _ _ _ (by simp)
  clear hv
  obtain ⟨b2, hb2⟩ := Qg (w.heap.size + 1)
  rw [← hb2] at B2 ⊢
  obtain ⟨b1, hb1⟩ := Qg (w.heap.size)
  rw [← hb1] at B1 ⊢
  have hbr : w.heap.size ≤ b2 := by omega
  have hbr1 : w.heap.size ≤ b1 := by omega
  have hn21 : b2 ≠ b1 := by omega
  clear hb1 hb2
  have C := hC.ext E
  clear hC
  obtain ⟨k0, k1⟩ := B1.c2
  have kl := B1.lt
  obtain ⟨p0, p1, p2, p3⟩ := B2.c4
  have pl := B2.lt
  go_wp2_with (first | (go_at_call 94; (with_reducible refine Calls.mono (NH _ C) ?_); rintro e w1 ⟨rfl, h1⟩; replace E := E.trans h1; replace C := C.ext h1; replace B1 := B1.ext h1; replace B2 := B2.ext h1; clear k0 k1 kl; obtain ⟨k0, k1⟩ := B1.c2; have kl := B1.lt; clear p0 p1 p2 p3 pl; obtain ⟨p0, p1, p2, p3⟩ := B2.c4; have pl := B2.lt; clear h1) | (go_at_call 95; (with_reducible refine Calls.mono (NK _ C) ?_); rintro e w2 ⟨rfl, h1⟩; replace E := E.trans h1; replace C := C.ext h1; replace B1 := B1.ext h1; replace B2 := B2.ext h1; clear k0 k1 kl; obtain ⟨k0, k1⟩ := B1.c2; have kl := B1.lt; clear p0 p1 p2 p3 pl; obtain ⟨p0, p1, p2, p3⟩ := B2.c4; have pl := B2.lt; clear h1))
  go_ret
  exact ⟨rfl, E⟩
theorem Vx (A A' : Option Addr) (ca cb : Nat) (c : Qf) (a b : Dt) (w : World) (hC : Qv w A ca A' cb c) (hv : c.valid = true) :
  Calls Tryz.prog 61 #[.agg #[.slice A c.nk ca, .slice A' c.ny cb], .agg #[.int .i64 a.y, .int .i64 a.m, .bool a.s, .int .i64 a.d], .agg #[.int .i64 b.y, .int .i64 b.m, .bool b.s, .int .i64 b.d]] w fun e w' => e = .returned (.bool (decide (0 < c.numV a) && decide (c.numV a ≤ c.numV b))) ∧ Qa w w' := by
 have NA := fun v (h : Qv v A ca A' cb c) => Gm A A' ca cb c a v h hv
 have NB := fun v (h : Qv v A ca A' cb c) => Gm A A' ca cb c b v h hv
 generalize c.numV a = x at *
 generalize c.numV b = y at *
 clear hv
 go_enter Tryz.func61, Tryz.ntmps61
 go_upto_region 1 with (fail)
 obtain ⟨v, hv⟩ := Qg (((w.alloc (.cells #[.slice A c.nk ca, .slice A' c.ny cb] 25)).alloc (.cells #[.int .i64 a.y, .int .i64 a.m, .bool a.s, .int .i64 a.d] 27)).alloc (.cells #[.int .i64 b.y, .int .i64 b.m, .bool b.s, .int .i64 b.d] 27))
 rw [← hv]
 have E : Qa w v := by rw [hv]; exact (((Qa.refl _).alloc _).alloc _).alloc _
 have B1 : Qb v w.heap.size 25 #[.slice A c.nk ca, .slice A' c.ny cb] := by rw [hv]; exact ((Qb.new _ _ _).alloc _).alloc _
 have B2 : Qb v (w.heap.size + 1) 27 #[.int .i64 a.y, .int .i64 a.m, .bool a.s, .int .i64 a.d] := by rw [hv]; exact (Qb.at _ _ _ _ (by simp)).alloc _
 have B3 : Qb v (w.heap.size + 1 + 1) 27 #[.int .i64 b.y, .int .i64 b.m, .bool b.s, .int .i64 b.d] := by rw [hv]; exact Qb.at _ _ _ _ (by simp)
 clear hv
 obtain ⟨b3, hb3⟩ := Qg (w.heap.size + 1 + 1)
 rw [← hb3] at B3 ⊢
 obtain ⟨b2, hb2⟩ := Qg (w.heap.size + 1)
 rw [← hb2] at B2 ⊢
 obtain ⟨b1, hb1⟩ := Qg (w.heap.size)
 rw [← hb1] at B1 ⊢
 have hbr : w.heap.size ≤ b3 := by omega
 have hbr1 : w.heap.size ≤ b1 := by omega
 have hbr2 : w.heap.size ≤ b2 := by omega
 have hn21 : b2 ≠ b1 := by omega
 have hn31 : b3 ≠ b1 := by omega
 have hn32 : b3 ≠ b2 := by omega
 clear hb1 hb2 hb3
 have C := hC.ext E
 clear hC
 obtain ⟨k0, k1⟩ := B1.c2
 have kl := B1.lt
 obtain ⟨p0, p1, p2, p3⟩ := B2.c4
 have pl := B2.lt
 obtain ⟨q0, q1, q2, q3⟩ := B3.c4
 have ql := B3.lt
 refine Q8 v Qm (by kernel_rfl) (by repeat (first | exact Qa.refl _ | (refine Qa.alloc ?_ _) | (refine Qa.trans ?_ (by assumption)))) ?_
 intro hne hrx hry
 try simp only []
 try simp only [List.append_eq, List.cons_append, List.nil_append]
 skip
 repeat (first
  | go_big_quiet_skip
  | (go_big_quiet_want; go_big_quiet_op; go_big_quiet_on)
  | (go_big_quiet_want; go_big_quiet_op; apply Exists.intro; refine ⟨fun u => ?_, ?_⟩
     ·first
       | (go_at_call 60; (with_reducible refine Calls.mono (NA _ (C.ext u.e)) ?_); rintro e w' ⟨rfl, hb⟩; exact ⟨rfl, u.back hb⟩)
       | (go_at_call 60; (with_reducible refine Calls.mono (NB _ (C.ext u.e)) ?_); rintro e w' ⟨rfl, hb⟩; exact ⟨rfl, u.back hb⟩)
     go_big_quiet_on))
 clear hne hry hrx
 refine wpQuiet_nil ?_
 intro v1 h1
 obtain ⟨hcv1, hfv1, hzv1⟩ := Qa.rules h1
 try simp only [World.size_alloc] at hzv1
 obtain ⟨hcbv1, hfbv1, hzbv1⟩ := Qa.rules (show Qa v v1 from (by repeat (first | exact Qa.refl _ | (refine Qa.alloc ?_ _) | (refine Qa.trans ?_ (by assumption)))))
 clear hcv1 hfv1
 clear NA NB C k0 k1 kl p0 p1 p2 p3 pl q0 q1 q2 q3 ql
 replace E := E.trans h1
 clear h1
 by_cases c1 : 0 < x
 ·have g1 : decide (0 < x) = true := decide_eq_true c1
  by_cases c2 : 0 < y
  ·have g2 : decide (0 < y) = true := decide_eq_true c2
   clear c1 c2
   cases g3 : decide (x ≤ y)
   ·go_wp2
    go_ret
    exact ⟨by rw [g1]; first | rfl | (rw [g3]; rfl), E⟩
   ·go_wp2
    go_ret
    exact ⟨by rw [g1]; first | rfl | (rw [g3]; rfl), E⟩
  ·have g2 : decide (0 < y) = false := decide_eq_false c2
   have g3 : decide (x ≤ y) = false := decide_eq_false (by omega)
   clear c1 c2
   go_wp2
   go_ret
   exact ⟨by rw [g3, Bool.and_false]; rfl, E⟩
 ·have g1 : decide (0 < x) = false := decide_eq_false c1
  clear c1
  go_wp2
  go_ret
  exact ⟨by rw [g1]; rfl, E⟩
end
section
open Go Go.RowKit
theorem Qbn (w : World) (x0 y0 : ByteArray) (x1 y1 : Int) : (Op.equalIn 10000 68 (.agg #[.string x0, .int .i64 x1]) (.agg #[.string y0, .int .i64 y1])).run Tryz.prog w = .ok ((x0.toList == y0.toList) && (x1 == y1)) w := by
 go_simp
 by_cases h0 : x0.toList = y0.toList
 rotate_left
 ·simp [h0]
 by_cases h1 : x1 = y1
 rotate_left
 ·simp [h1]
 simp [h0, h1]
theorem Pc (w : World) (x0 y0 : ByteArray) (x1 y1 : Int) : (binOp .neq 68 (.agg #[.string x0, .int .i64 x1]) (.agg #[.string y0, .int .i64 y1])).run Tryz.prog w = .ok (.bool (!((x0.toList == y0.toList) && (x1 == y1)))) w := by rw [run_neq_struct, Qbn]; rfl
theorem Qch (w : World) (x0 y0 : Int) (x1 y1 : Int) : (Op.equalIn 10000 73 (.agg #[.int .i64 x0, .int .i64 x1]) (.agg #[.int .i64 y0, .int .i64 y1])).run Tryz.prog w = .ok ((x0 == y0) && (x1 == y1)) w := by
 go_simp
 by_cases h0 : x0 = y0
 rotate_left
 ·simp [h0]
 by_cases h1 : x1 = y1
 rotate_left
 ·simp [h1]
 simp [h0, h1]
theorem Qef (w : World) (x0 y0 : Int) (x1 y1 : Int) : (binOp .neq 73 (.agg #[.int .i64 x0, .int .i64 x1]) (.agg #[.int .i64 y0, .int .i64 y1])).run Tryz.prog w = .ok (.bool (!((x0 == y0) && (x1 == y1)))) w := by rw [run_neq_struct, Qch]; rfl
theorem Qb5 (w : World) (x0 y0 : Int) (x1 y1 : Int) (x2 y2 : Int) (x3 y3 : Int) (x4 y4 : Int) (x5 y5 : Int) : (Op.equalIn 10000 85 (.agg #[.int .i64 x0, .int .i64 x1, .int .i64 x2, .int .i64 x3, .int .i64 x4, .int .i64 x5]) (.agg #[.int .i64 y0, .int .i64 y1, .int .i64 y2, .int .i64 y3, .int .i64 y4, .int .i64 y5])).run Tryz.prog w = .ok ((x0 == y0) && ((x1 == y1) && ((x2 == y2) && ((x3 == y3) && ((x4 == y4) && (x5 == y5)))))) w := by
 go_simp
 by_cases h0 : x0 = y0
 rotate_left
 ·simp [h0]
 by_cases h1 : x1 = y1
 rotate_left
 ·simp [h1]
 by_cases h2 : x2 = y2
 rotate_left
 ·simp [h2]
 by_cases h3 : x3 = y3
 rotate_left
 ·simp [h3]
 by_cases h4 : x4 = y4
 rotate_left
 ·simp [h4]
 by_cases h5 : x5 = y5
 rotate_left
 ·simp [h5]
 simp [h0, h1, h2, h3, h4, h5]
theorem Qfb (w : World) (x0 y0 : Int) (x1 y1 : Int) (x2 y2 : Int) (x3 y3 : Int) (x4 y4 : Int) (x5 y5 : Int) : (binOp .neq 85 (.agg #[.int .i64 x0, .int .i64 x1, .int .i64 x2, .int .i64 x3, .int .i64 x4, .int .i64 x5]) (.agg #[.int .i64 y0, .int .i64 y1, .int .i64 y2, .int .i64 y3, .int .i64 y4, .int .i64 y5])).run Tryz.prog w = .ok (.bool (!((x0 == y0) && ((x1 == y1) && ((x2 == y2) && ((x3 == y3) && ((x4 == y4) && (x5 == y5)))))))) w := by rw [run_neq_struct, Qb5]; rfl
theorem Qa7 (w : World) (x0 y0 : Int) (x1 y1 : Int) (x2 y2 : Int) : (Op.equalIn 10000 99 (.agg #[.int .i64 x0, .int .i64 x1, .int .i64 x2]) (.agg #[.int .i64 y0, .int .i64 y1, .int .i64 y2])).run Tryz.prog w = .ok ((x0 == y0) && ((x1 == y1) && (x2 == y2))) w := by
 go_simp
 by_cases h0 : x0 = y0
 rotate_left
 ·simp [h0]
 by_cases h1 : x1 = y1
 rotate_left
 ·simp [h1]
 by_cases h2 : x2 = y2
 rotate_left
 ·simp [h2]
 simp [h0, h1, h2]
theorem Ir (w : World) (x0 y0 : Int) (x1 y1 : Int) (x2 y2 : Int) : (binOp .neq 99 (.agg #[.int .i64 x0, .int .i64 x1, .int .i64 x2]) (.agg #[.int .i64 y0, .int .i64 y1, .int .i64 y2])).run Tryz.prog w = .ok (.bool (!((x0 == y0) && ((x1 == y1) && (x2 == y2))))) w := by rw [run_neq_struct, Qa7]; rfl
end
section
open Go Go.RowKit Go.Shelf
attribute [local go_sem] Zt
attribute [local go_sem high] Pc
theorem Gs (v1 v2 : Value) (l : List Lt) (w : World) (h1 : Zp w v1 l) (h2 : Zp w v2 l) :
  Calls Tryz.prog 13 #[v1, v2] w fun e w' => e = .returned (.bool true) ∧ Qa w w' := by
 obtain ⟨A, ca, rfl, hA, hca, hca', _⟩ := h1
 obtain ⟨B, cb, rfl, hB, hcb, hcb', _⟩ := h2
 have hn : l.length ≤ 9223372036854775807 := Nat.le_trans hca (Nat.le_trans hca' (by decide))
 clear hca hca' hcb hcb'
 generalize l.length = n at *
 generalize Za l = f at *
 go_enter Tryz.func13, Tryz.ntmps13
 go_upto_region 4 with (fail)
 go_loopw [5] (fun i wr => ∃ k : Nat, k ≤ n ∧ i = .int .i64 k ∧ Qa w wr) (fun i _ => n - (intOf i).toNat)
 case atStart => exact ⟨0, Nat.zero_le _, rfl, Qa.refl _⟩
 case round =>
  obtain ⟨k, hk, rfl, hE⟩ := hrel
  obtain ⟨wo, rfl⟩ := Qg wr
  by_cases hlt : k < n
  ·obtain ⟨b, off, rfl, hb, hc⟩ := (hA.ext hE) (by omega)
   have c0 : wo.cell? ⟨b, off + k * 2, none⟩ = some (.string (f k).g) := by simpa [Qz] using hc k 0 _ hlt rfl
   have c1 : wo.cell? ⟨b, off + k * 2 + 1, none⟩ = some (.int .i64 (f k).n) := by simpa [Qz] using hc k 1 _ hlt rfl
   clear hc
   obtain ⟨b2, off2, rfl, hb2, hc⟩ := (hB.ext hE) (by omega)
   have d0 : wo.cell? ⟨b2, off2 + k * 2, none⟩ = some (.string (f k).g) := by simpa [Qz] using hc k 0 _ hlt rfl
   have d1 : wo.cell? ⟨b2, off2 + k * 2 + 1, none⟩ = some (.int .i64 (f k).n) := by simpa [Qz] using hc k 1 _ hlt rfl
   clear hc hA hB
   generalize (f k).g = s at *
   generalize (f k).n = z at *
   go_upto_region 6 with (fail)
   refine Q8 wo Qm (by kernel_rfl) (by repeat (first | exact Qa.refl _ | (refine Qa.alloc ?_ _) | (refine Qa.trans ?_ (by assumption)))) ?_
   intro hne hrx hry
   try simp only []
   try simp only [List.append_eq, List.cons_append, List.nil_append]
   skip
   repeat (first
    | go_big_quiet_skip
    | (go_big_quiet_want; go_big_quiet_op; go_big_quiet_on))
   clear hne hry hrx
   refine wpQuiet_nil ?_
   intro w2 h2
   obtain ⟨hcw2, hfw2, hzw2⟩ := Qa.rules h2
   try simp only [World.size_alloc] at hzw2
   obtain ⟨hcbw2, hfbw2, hzbw2⟩ := Qa.rules (show Qa wo w2 from (by repeat (first | exact Qa.refl _ | (refine Qa.alloc ?_ _) | (refine Qa.trans ?_ (by assumption)))))
   clear hcw2 hfw2
   go_wp2
   exact ⟨⟨k + 1, by omega, by go_num, hE.trans h2⟩, by simp [intOf]; omega⟩
  ·obtain rfl : k = n := by omega
   go_wp2
   go_ret
   exact ⟨rfl, hE⟩
theorem Vo (v : Value) (l : List Lt) (w : World) (hL : Zp w v l) (hsz : l.length * 24 ≤ 140737488351232) :
  Calls Tryz.prog 20 #[v] w fun e w' => ∃ v', e = .returned v' ∧ Qa w w' ∧ w'.ownsRow w.heap.size 68 2 v' l.length (l.flatMap Jd) := by
 have hfl := Gy l
 obtain ⟨T, cap, rfl, hT, hcap, hmax, hnil⟩ := hL
 obtain ⟨i0, hi, hz0, hz1, hz2⟩ := info_parts Cf
 have hlen := Y7 (f := Qz (Za l)) (sz := 2) (fun _ => rfl) l.length
 have hone : ∀ u ∈ Q0 (Qz (Za l)) l.length, u.oneCell' = true := O5 (f := Qz (Za l)) (n := l.length) (fun i u hu => by simp [Qz] at hu; rcases hu with rfl | rfl <;> simp [Value.oneCell'])
 go_enter Tryz.func20, Tryz.ntmps20
 go_upto_region 2 with (fail)
 go_wp2_with (at_builtin; refine Ox rfl _ _ 28 rfl w.heap.size 68 i0 (.agg #[.string ⟨#[]⟩, .int .i64 0]) 2 24 Tryz.underlying28 hi hz0 hz1 hz2 rfl (by decide) rfl T l.length cap (Q0 (Qz (Za l)) l.length) rfl hnil hlen (K9 (f := Qz (Za l)) (sz := 2) (fun _ => rfl) (by decide) hT) hone (by unfold maxLen; omega) (by omega) (Nat.le_refl _) ?_; intro p w3 hP hgrow)
 have hx : Qa w w3 := (Qa.refl _).grown hgrow (fun q hq => by cases hq)
 clear hgrow
 rw [← hfl] at hP
 go_ret
 exact ⟨_, rfl, hx, hP⟩
theorem O8 (v : Value) (l : List Lt) (w : World) (hL : Zp w v l) :
  Calls Tryz.prog 55 #[v] w fun e w' => e = .returned (.int .i64 (Yq l)) ∧ Qa w w' := by
 obtain ⟨T, cap, rfl, hT, hcap, hmax, _⟩ := hL
 exact Fa T l.length cap (Za l) w hT hcap (Nat.le_trans hcap (Nat.le_trans hmax (by decide)))
end
section
open Go Go.RowKit Go.Shelf
attribute [local go_sem] Zt
theorem Qd6 {W : World} {b : Nat} {t : TypeId} {v0 v1 v2 v3 : Value} (h : Qb W b t #[v0, v1, v2, v3]) (u0 u1 u2 u3 : Value) : Qb ((((W.setCell ⟨b, 0, none⟩ u0).setCell ⟨b, 1, none⟩ u1).setCell ⟨b, 2, none⟩ u2).setCell ⟨b, 3, none⟩ u3) b t #[u0, u1, u2, u3] := by unfold Qb at h ⊢; simp [World.setCell, Array.getElem?_modify, h]
theorem ext4Q {w W : World} {b : Nat} (h : Qa w W) (hb : w.heap.size ≤ b) (u0 u1 u2 u3 : Value) : Qa w ((((W.setCell ⟨b, 0, none⟩ u0).setCell ⟨b, 1, none⟩ u1).setCell ⟨b, 2, none⟩ u2).setCell ⟨b, 3, none⟩ u3) :=
 (((h.setCell (p := ⟨b, 0, none⟩) hb u0).setCell (p := ⟨b, 1, none⟩) hb u1).setCell (p := ⟨b, 2, none⟩) hb u2).setCell (p := ⟨b, 3, none⟩) hb u3
def Qf.lastT (p : Pd) : Nat → Dt
 | 0 => p.a
 | k + 1 => (p.dl k).on
theorem Ws {W : World} {b : Nat} {t : TypeId} {v0 v1 v2 v3 v4 v5 v6 : Value} (h : Qb W b t #[v0, v1, v2, v3, v4, v5, v6]) : W.cell? ⟨b, 0, none⟩ = some v0 ∧ W.cell? ⟨b, 1, none⟩ = some v1 ∧ W.cell? ⟨b, 2, none⟩ = some v2 ∧ W.cell? ⟨b, 3, none⟩ = some v3 ∧ W.cell? ⟨b, 4, none⟩ = some v4 ∧ W.cell? ⟨b, 5, none⟩ = some v5 ∧ W.cell? ⟨b, 6, none⟩ = some v6 := ⟨h.cell 0, h.cell 1, h.cell 2, h.cell 3, h.cell 4, h.cell 5, h.cell 6⟩
theorem Qec {l : List Lt} {j : Nat} (hj : j < l.length) (h : (Za l j).n < 0) : (l.any fun x => decide (x.n < 0)) = true := by
 rw [List.any_eq_true]
 exact ⟨Za l j, by rw [Lr hj]; exact List.getElem_mem hj, decide_eq_true h⟩
theorem Qar {l : List Lt} (h : ∀ i, i < l.length → 0 ≤ (Za l i).n) : (l.any fun x => decide (x.n < 0)) = false := by
 rw [List.any_eq_false]
 intro x hx
 obtain ⟨i, hi, rfl⟩ := List.getElem_of_mem hx
 have := h i hi
 rw [Lr hi] at this
 simpa using this
theorem Qea (c : Qf) (p : Pd) (k : Nat) : c.numV (Qf.lastT p k) = c.lastD p k := by cases k <;> rfl
theorem Qfh (A A' : Option Addr) (ca cb : Nat) (c : Qf) (p : Pd) (vo vd vc : Value) (w : World) (hC : Qv w A ca A' cb c) (hv : c.valid = true) (hP : Jj w p vo vd vc) :
  Calls Tryz.prog 32 #[.agg #[.slice A c.nk ca, .slice A' c.ny cb], .agg #[.string p.h, .int .i64 p.a.y, .int .i64 p.a.m, .bool p.a.s, .int .i64 p.a.d, .int .i64 p.b.y, .int .i64 p.b.m, .bool p.b.s, .int .i64 p.b.d, vo, vd, vc]] w fun e w' => e = .returned (.bool (c.perOk p)) ∧ Qa w w' := by
 obtain ⟨hO, hDD, hCC⟩ := hP
 obtain ⟨T0, cc0, rfl, _⟩ := id hO
 obtain ⟨T1, cc1, rfl, _⟩ := id hCC
 obtain ⟨D, cap, vs, rfl, hD, hcap, hmax, _, hat⟩ := hDD
 have hn : p.d.length ≤ 9223372036854775807 := Nat.le_trans hcap (Nat.le_trans hmax (by decide))
 obtain ⟨n, hnl⟩ := Qg (p.d.length)
 rw [← hnl] at hn hD hat hcap
 replace hnl := Lib.hid hnl
 have NN := fun w => Uw p.h w
 have NI := fun v (h : Qv v A ca A' cb c) => Vx A A' ca cb c p.a p.b v h hv
 have NO := fun w h => O8 (.slice T0 p.o.length cc0) p.o w h
 have NK := fun w h => O8 (.slice T1 p.c.length cc1) p.c w h
 obtain ⟨R, hR0⟩ := Qg (c.perOk p)
 rw [← hR0]
 replace hR0 := Lib.hid hR0
 have hhd : Hid (c.perHead p = (Zq p.h && (decide (0 < c.numV p.a) && decide (c.numV p.a ≤ c.numV p.b)) && decide (Yq p.o = 0) && decide (Yq p.c = 0) && decide (n ≤ 64))) := by unfold Hid; rw [hnl.out]; rfl
 have hbad : Hid (c.perHead p = false → R = false) := fun h => by rw [hR0.out]; exact Da h
 rw [← hnl.out]
 go_enter Tryz.func32, Tryz.ntmps32
 go_upto_region 1 with (fail)
 obtain ⟨v, hv⟩ := Qg ((w.alloc (.cells #[.slice A c.nk ca, .slice A' c.ny cb] 25)).alloc (.cells #[.string p.h, .int .i64 p.a.y, .int .i64 p.a.m, .bool p.a.s, .int .i64 p.a.d, .int .i64 p.b.y, .int .i64 p.b.m, .bool p.b.s, .int .i64 p.b.d, .slice T0 p.o.length cc0, .slice D n cap, .slice T1 p.c.length cc1] 31))
 rw [← hv]
 have E : Qa w v := by rw [hv]; exact ((Qa.refl _).alloc _).alloc _
 have B1 : Qb v w.heap.size 25 #[.slice A c.nk ca, .slice A' c.ny cb] := by rw [hv]; exact (Qb.new _ _ _).alloc _
 have B2 : Qb v (w.heap.size + 1) 31 #[.string p.h, .int .i64 p.a.y, .int .i64 p.a.m, .bool p.a.s, .int .i64 p.a.d, .int .i64 p.b.y, .int .i64 p.b.m, .bool p.b.s, .int .i64 p.b.d, .slice T0 p.o.length cc0, .slice D n cap, .slice T1 p.c.length cc1] := by rw [hv]; exact Qb.at _ _ _ _ (by simp)
 clear hv
 obtain ⟨b2, hb2⟩ := Qg (w.heap.size + 1)
 rw [← hb2] at B2 ⊢
 obtain ⟨b1, hb1⟩ := Qg (w.heap.size)
 rw [← hb1] at B1 ⊢
 have hbr : w.heap.size ≤ b2 := by omega
 have hbr1 : w.heap.size ≤ b1 := by omega
 have hn21 : b2 ≠ b1 := by omega
 clear hb1 hb2
 have C := hC.ext E
 have O := hO.ext E
 have K := hCC.ext E
 have DD := hD.ext E
 clear hC hO hCC
 obtain ⟨j0, j1⟩ := B1.c2
 have jl := B1.lt
 obtain ⟨k0, k1, k2, k3, k4, k5, k6, k7, k8, k9, k10, k11⟩ := B2.c12
 have kl := B2.lt
 cases hnm : Zq p.h
 ·simp only [hnm] at NN
  have hr := hbad.out (by rw [hhd.out]; simp [hnm])
  subst hr
  clear hbad hhd hR0
  go_wp2_with (first | (go_at_call 69; (with_reducible refine Calls.mono (NN _) ?_); rintro e _ ⟨rfl, rfl⟩))
  go_ret
  exact ⟨rfl, E⟩
 simp only [hnm] at NN
 cases hsp : (decide (0 < c.numV p.a) && decide (c.numV p.a ≤ c.numV p.b))
 ·simp only [hsp] at NI
  have hr := hbad.out (by rw [hhd.out]; rw [hsp]; simp)
  subst hr
  clear hbad hhd hR0
  go_wp2_with (first | (go_at_call 69; (with_reducible refine Calls.mono (NN _) ?_); rintro e _ ⟨rfl, rfl⟩) | (go_at_call 61; (with_reducible refine Calls.mono (NI _ C) ?_); rintro e w2 ⟨rfl, hx⟩; replace E := E.trans hx; replace C := C.ext hx; replace O := O.ext hx; replace K := K.ext hx; replace DD := DD.ext hx; replace B1 := B1.ext hx; replace B2 := B2.ext hx; clear hx; clear j0 j1 jl k0 k1 k2 k3 k4 k5 k6 k7 k8 k9 k10 k11 kl; obtain ⟨j0, j1⟩ := B1.c2; have jl := B1.lt; obtain ⟨k0, k1, k2, k3, k4, k5, k6, k7, k8, k9, k10, k11⟩ := B2.c12; have kl := B2.lt))
  go_ret
  exact ⟨rfl, E⟩
 simp only [hsp] at NI
 by_cases hlo : Yq p.o = 0
 rotate_left
 ·have go : (Yq p.o == 0) = false := beq_eq_false_iff_ne.2 hlo
  have gon : (Yq p.o != 0) = true := by rw [bne, go]; rfl
  have hr := hbad.out (by rw [hhd.out]; simp [hlo])
  subst hr
  clear hbad hhd hR0
  go_wp2_with (first | (go_at_call 69; (with_reducible refine Calls.mono (NN _) ?_); rintro e _ ⟨rfl, rfl⟩) | (go_at_call 61; (with_reducible refine Calls.mono (NI _ C) ?_); rintro e w2 ⟨rfl, hx⟩; replace E := E.trans hx; replace C := C.ext hx; replace O := O.ext hx; replace K := K.ext hx; replace DD := DD.ext hx; replace B1 := B1.ext hx; replace B2 := B2.ext hx; clear hx; clear j0 j1 jl k0 k1 k2 k3 k4 k5 k6 k7 k8 k9 k10 k11 kl; obtain ⟨j0, j1⟩ := B1.c2; have jl := B1.lt; obtain ⟨k0, k1, k2, k3, k4, k5, k6, k7, k8, k9, k10, k11⟩ := B2.c12; have kl := B2.lt) | (go_at_call 55; (with_reducible refine Calls.mono (NO _ O) ?_); rintro e w3 ⟨rfl, hx⟩; replace E := E.trans hx; replace C := C.ext hx; replace O := O.ext hx; replace K := K.ext hx; replace DD := DD.ext hx; replace B1 := B1.ext hx; replace B2 := B2.ext hx; clear hx; clear j0 j1 jl k0 k1 k2 k3 k4 k5 k6 k7 k8 k9 k10 k11 kl; obtain ⟨j0, j1⟩ := B1.c2; have jl := B1.lt; obtain ⟨k0, k1, k2, k3, k4, k5, k6, k7, k8, k9, k10, k11⟩ := B2.c12; have kl := B2.lt))
  go_ret
  exact ⟨rfl, E⟩
 rw [hlo] at NO
 by_cases hlc : Yq p.c = 0
 rotate_left
 ·have gc : (Yq p.c == 0) = false := beq_eq_false_iff_ne.2 hlc
  have gcn : (Yq p.c != 0) = true := by rw [bne, gc]; rfl
  have hr := hbad.out (by rw [hhd.out]; simp [hlc])
  subst hr
  clear hbad hhd hR0
  go_wp2_with (first | (go_at_call 69; (with_reducible refine Calls.mono (NN _) ?_); rintro e _ ⟨rfl, rfl⟩) | (go_at_call 61; (with_reducible refine Calls.mono (NI _ C) ?_); rintro e w2 ⟨rfl, hx⟩; replace E := E.trans hx; replace C := C.ext hx; replace O := O.ext hx; replace K := K.ext hx; replace DD := DD.ext hx; replace B1 := B1.ext hx; replace B2 := B2.ext hx; clear hx; clear j0 j1 jl k0 k1 k2 k3 k4 k5 k6 k7 k8 k9 k10 k11 kl; obtain ⟨j0, j1⟩ := B1.c2; have jl := B1.lt; obtain ⟨k0, k1, k2, k3, k4, k5, k6, k7, k8, k9, k10, k11⟩ := B2.c12; have kl := B2.lt) | (go_at_call 55; (with_reducible refine Calls.mono (NO _ O) ?_); rintro e w3 ⟨rfl, hx⟩; replace E := E.trans hx; replace C := C.ext hx; replace O := O.ext hx; replace K := K.ext hx; replace DD := DD.ext hx; replace B1 := B1.ext hx; replace B2 := B2.ext hx; clear hx; clear j0 j1 jl k0 k1 k2 k3 k4 k5 k6 k7 k8 k9 k10 k11 kl; obtain ⟨j0, j1⟩ := B1.c2; have jl := B1.lt; obtain ⟨k0, k1, k2, k3, k4, k5, k6, k7, k8, k9, k10, k11⟩ := B2.c12; have kl := B2.lt) | (go_at_call 55; (with_reducible refine Calls.mono (NK _ K) ?_); rintro e w4 ⟨rfl, hx⟩; replace E := E.trans hx; replace C := C.ext hx; replace O := O.ext hx; replace K := K.ext hx; replace DD := DD.ext hx; replace B1 := B1.ext hx; replace B2 := B2.ext hx; clear hx; clear j0 j1 jl k0 k1 k2 k3 k4 k5 k6 k7 k8 k9 k10 k11 kl; obtain ⟨j0, j1⟩ := B1.c2; have jl := B1.lt; obtain ⟨k0, k1, k2, k3, k4, k5, k6, k7, k8, k9, k10, k11⟩ := B2.c12; have kl := B2.lt))
  go_ret
  exact ⟨rfl, E⟩
 rw [hlc] at NK
 by_cases h64 : 64 < n
 ·have g1 : decide (64 < n) = true := decide_eq_true h64
  have h64' : ¬ n ≤ 64 := by omega
  have hr := hbad.out (by rw [hhd.out]; simp [h64'])
  subst hr
  clear hbad hhd hR0
  go_wp2_with (first | (go_at_call 69; (with_reducible refine Calls.mono (NN _) ?_); rintro e _ ⟨rfl, rfl⟩) | (go_at_call 61; (with_reducible refine Calls.mono (NI _ C) ?_); rintro e w2 ⟨rfl, hx⟩; replace E := E.trans hx; replace C := C.ext hx; replace O := O.ext hx; replace K := K.ext hx; replace DD := DD.ext hx; replace B1 := B1.ext hx; replace B2 := B2.ext hx; clear hx; clear j0 j1 jl k0 k1 k2 k3 k4 k5 k6 k7 k8 k9 k10 k11 kl; obtain ⟨j0, j1⟩ := B1.c2; have jl := B1.lt; obtain ⟨k0, k1, k2, k3, k4, k5, k6, k7, k8, k9, k10, k11⟩ := B2.c12; have kl := B2.lt) | (go_at_call 55; (with_reducible refine Calls.mono (NO _ O) ?_); rintro e w3 ⟨rfl, hx⟩; replace E := E.trans hx; replace C := C.ext hx; replace O := O.ext hx; replace K := K.ext hx; replace DD := DD.ext hx; replace B1 := B1.ext hx; replace B2 := B2.ext hx; clear hx; clear j0 j1 jl k0 k1 k2 k3 k4 k5 k6 k7 k8 k9 k10 k11 kl; obtain ⟨j0, j1⟩ := B1.c2; have jl := B1.lt; obtain ⟨k0, k1, k2, k3, k4, k5, k6, k7, k8, k9, k10, k11⟩ := B2.c12; have kl := B2.lt) | (go_at_call 55; (with_reducible refine Calls.mono (NK _ K) ?_); rintro e w4 ⟨rfl, hx⟩; replace E := E.trans hx; replace C := C.ext hx; replace O := O.ext hx; replace K := K.ext hx; replace DD := DD.ext hx; replace B1 := B1.ext hx; replace B2 := B2.ext hx; clear hx; clear j0 j1 jl k0 k1 k2 k3 k4 k5 k6 k7 k8 k9 k10 k11 kl; obtain ⟨j0, j1⟩ := B1.c2; have jl := B1.lt; obtain ⟨k0, k1, k2, k3, k4, k5, k6, k7, k8, k9, k10, k11⟩ := B2.c12; have kl := B2.lt))
  go_ret
  exact ⟨rfl, E⟩
 have g1 : decide (64 < n) = false := decide_eq_false h64
 have hhead : c.perHead p = true := by
  rw [hhd.out, hnm, hsp, decide_eq_true hlo, decide_eq_true hlc, decide_eq_true (show n ≤ 64 by omega)]; rfl
 have hpa : 0 < c.numV (Qf.lastT p 0) := by
  have := (Bool.and_eq_true_iff.1 hsp).1
  exact of_decide_eq_true this
 clear hbad hhd hnm hsp hlo hlc
 go_upto_region 4 with (first | (go_at_call 69; (with_reducible refine Calls.mono (NN _) ?_); rintro e _ ⟨rfl, rfl⟩) | (go_at_call 61; (with_reducible refine Calls.mono (NI _ C) ?_); rintro e w2 ⟨rfl, hx⟩; replace E := E.trans hx; replace C := C.ext hx; replace O := O.ext hx; replace K := K.ext hx; replace DD := DD.ext hx; replace B1 := B1.ext hx; replace B2 := B2.ext hx; clear hx; clear j0 j1 jl k0 k1 k2 k3 k4 k5 k6 k7 k8 k9 k10 k11 kl; obtain ⟨j0, j1⟩ := B1.c2; have jl := B1.lt; obtain ⟨k0, k1, k2, k3, k4, k5, k6, k7, k8, k9, k10, k11⟩ := B2.c12; have kl := B2.lt) | (go_at_call 55; (with_reducible refine Calls.mono (NO _ O) ?_); rintro e w3 ⟨rfl, hx⟩; replace E := E.trans hx; replace C := C.ext hx; replace O := O.ext hx; replace K := K.ext hx; replace DD := DD.ext hx; replace B1 := B1.ext hx; replace B2 := B2.ext hx; clear hx; clear j0 j1 jl k0 k1 k2 k3 k4 k5 k6 k7 k8 k9 k10 k11 kl; obtain ⟨j0, j1⟩ := B1.c2; have jl := B1.lt; obtain ⟨k0, k1, k2, k3, k4, k5, k6, k7, k8, k9, k10, k11⟩ := B2.c12; have kl := B2.lt) | (go_at_call 55; (with_reducible refine Calls.mono (NK _ K) ?_); rintro e w4 ⟨rfl, hx⟩; replace E := E.trans hx; replace C := C.ext hx; replace O := O.ext hx; replace K := K.ext hx; replace DD := DD.ext hx; replace B1 := B1.ext hx; replace B2 := B2.ext hx; clear hx; clear j0 j1 jl k0 k1 k2 k3 k4 k5 k6 k7 k8 k9 k10 k11 kl; obtain ⟨j0, j1⟩ := B1.c2; have jl := B1.lt; obtain ⟨k0, k1, k2, k3, k4, k5, k6, k7, k8, k9, k10, k11⟩ := B2.c12; have kl := B2.lt))
 have hE5 := E.size
 obtain ⟨v5, hv⟩ := Qg (w4.alloc (.cells #[.int .i64 p.a.y, .int .i64 p.a.m, .bool p.a.s, .int .i64 p.a.d] 27))
 rw [← hv]
 have hx : Qa w4 v5 := by rw [hv]; exact (Qa.refl _).alloc _
 have BL : Qb v5 w4.heap.size 27 #[.int .i64 p.a.y, .int .i64 p.a.m, .bool p.a.s, .int .i64 p.a.d] := by rw [hv]; exact Qb.new _ _ _
 clear hv
 obtain ⟨bl, hbl⟩ := Qg (w4.heap.size)
 rw [← hbl] at BL ⊢
 replace hE5 : w4.heap.size ≤ bl := by omega
 clear hbl
 clear j0 j1 jl k0 k1 k2 k3 k4 k5 k6 k7 k8 k9 k10 k11 kl
 clear NN NI NO NK
 obtain ⟨g, hg⟩ := Qg (fun i => p.d.getD i Qx)
 have hg' : ∀ i, p.d.getD i Qx = g i := fun i => by rw [hg]
 have hdk : Hid (∀ k, c.dealOk p k = !(decide (c.numV (g k).on < c.lastD p k) || decide (c.numV p.b < c.numV (g k).on) || !Zq (g k).w || decide ((g k).w = p.h) || !Xm (g k).l)) := fun k => by rw [← hg' k]; rfl
 have hgo : Hid (∀ k, (g k).on = Qf.lastT p (k + 1)) := fun k => by rw [← hg' k]; rfl
 simp only [hg'] at hD hat DD
 clear hg hg'
 replace hat := Lib.hid hat
 have C0 := C
 have A2' := B2
 have A1' := B1
 clear C O K B1 B2
 go_upto_region 5 with (fail)
 go_loopw [6] (fun iv wr => ∃ k : Nat, k ≤ n ∧ iv = .int .i64 k ∧ Hid (∀ j, j < k → c.dealOk p j = true) ∧ 0 < c.numV (Qf.lastT p k) ∧ Qa w4 wr ∧ Qb wr bl 27 #[.int .i64 (Qf.lastT p k).y, .int .i64 (Qf.lastT p k).m, .bool (Qf.lastT p k).s, .int .i64 (Qf.lastT p k).d]) (fun iv _ => n - (intOf iv).toNat)
 case atStart => exact ⟨0, Nat.zero_le _, rfl, (fun j h => absurd h (by omega)), hpa, hx, BL⟩
 case round =>
  clear hpa hx BL
  obtain ⟨k, hk, rfl, hok, hpos, hE, BL⟩ := hrel
  obtain ⟨wo, rfl⟩ := Qg wr
  have C := C0.ext hE
  have B1 := A1'.ext hE
  have B2 := A2'.ext hE
  obtain ⟨j0, j1⟩ := B1.c2
  have jl := B1.lt
  obtain ⟨k0, k1, k2, k3, k4, k5, k6, k7, k8, k9, k10, k11⟩ := B2.c12
  have kl := B2.lt
  obtain ⟨m0, m1, m2, m3⟩ := BL.c4
  have ml := BL.lt
  by_cases hlt : k < n
  rotate_left
  ·obtain rfl : k = n := by omega
   have hr : R = true := by rw [hR0.out]; exact Qco hhead (fun j hj => hok.out j (by rw [hnl.out]; exact hj))
   subst hr
   clear hok hdk hat hgo
   go_wp2
   go_ret
   exact ⟨rfl, E.trans hE⟩
  obtain ⟨b, off, rfl, hb, hc⟩ := (DD.ext hE) (by omega)
  have hL := (hat.out k hlt).ext (E.trans hE)
  have c0 : wo.cell? ⟨b, off + k * 7, none⟩ = some (.int .i64 (g k).on.y) := by simpa [Qq] using hc k 0 _ hlt rfl
  have c1 : wo.cell? ⟨b, off + k * 7 + 1, none⟩ = some (.int .i64 (g k).on.m) := by simpa [Qq] using hc k 1 _ hlt rfl
  have c2 : wo.cell? ⟨b, off + k * 7 + 2, none⟩ = some (.bool (g k).on.s) := by simpa [Qq] using hc k 2 _ hlt rfl
  have c3 : wo.cell? ⟨b, off + k * 7 + 3, none⟩ = some (.int .i64 (g k).on.d) := by simpa [Qq] using hc k 3 _ hlt rfl
  have c4 : wo.cell? ⟨b, off + k * 7 + 4, none⟩ = some (.bool (g k).i) := by simpa [Qq] using hc k 4 _ hlt rfl
  have c5 : wo.cell? ⟨b, off + k * 7 + 5, none⟩ = some (.string (g k).w) := by simpa [Qq] using hc k 5 _ hlt rfl
  have c6 : wo.cell? ⟨b, off + k * 7 + 6, none⟩ = some (vs k) := by simpa [Qq] using hc k 6 _ hlt rfl
  have hno : Hid (c.dealOk p k = false → R = false) := fun h => by rw [hR0.out]; exact Qa9 (by rw [← hnl.out]; exact hlt) h
  have hyes : Hid (c.dealOk p k = true → ∀ j, j < k + 1 → c.dealOk p j = true) := fun h j hj => by
   by_cases e : j = k
   ·subst e; exact h
   ·exact hok.out j (by omega)
  have hdk2 := Lib.hid (hdk.out k)
  have hgo2 := Lib.hid (hgo.out k)
  have hln := Lib.hid (Qea c p k)
  obtain ⟨VL, hvl⟩ := Qg (vs k)
  rw [← hvl] at c6 hL
  clear hvl hc hdk hgo hat hD DD hok
  obtain ⟨TL, cl, hVL, _⟩ := id hL
  subst hVL
  have NI1 := fun v (h : Qv v A ca A' cb c) => Vx A A' ca cb c (Qf.lastT p k) (g k).on v h hv
  have NI2 := fun v (h : Qv v A ca A' cb c) => Vx A A' ca cb c (g k).on p.b v h hv
  have NNK := fun w => Uw (g k).w w
  have NCK := fun w h => O8 (.slice TL (g k).l.length cl) (g k).l w h
  rw [decide_eq_true hpos, Bool.true_and] at NI1
  have hbs : wo.heap.size ≠ bl := by have := BL.lt; omega
  go_upto_region 8 with (fail)
  obtain ⟨vd1, hv⟩ := Qg (wo.alloc (.cells #[.int .i64 (g k).on.y, .int .i64 (g k).on.m, .bool (g k).on.s, .int .i64 (g k).on.d, .bool (g k).i, .string (g k).w, .slice TL (g k).l.length cl] 70))
  rw [← hv]
  have hx : Qa wo vd1 := by rw [hv]; exact (Qa.refl _).alloc _
  have BD : Qb vd1 wo.heap.size 70 #[.int .i64 (g k).on.y, .int .i64 (g k).on.m, .bool (g k).on.s, .int .i64 (g k).on.d, .bool (g k).i, .string (g k).w, .slice TL (g k).l.length cl] := by rw [hv]; exact Qb.new _ _ _
  clear hv
  generalize wo.heap.size = bb1 at *
  clear j0 j1 jl k0 k1 k2 k3 k4 k5 k6 k7 k8 k9 k10 k11 kl m0 m1 m2 m3 ml
  replace hE := hE.trans hx
  replace C := C.ext hx
  replace hL := hL.ext hx
  replace B1 := B1.ext hx
  replace B2 := B2.ext hx
  replace BL := BL.ext hx
  clear hx
  obtain ⟨j0, j1⟩ := B1.c2
  have jl := B1.lt
  obtain ⟨k0, k1, k2, k3, k4, k5, k6, k7, k8, k9, k10, k11⟩ := B2.c12
  have kl := B2.lt
  obtain ⟨m0, m1, m2, m3⟩ := BL.c4
  have ml := BL.lt
  obtain ⟨q0, q1, q2, q3, q4, q5, q6⟩ := Yg BD
  have ql := BD.lt
  clear c0 c1 c2 c3 c4 c5 c6 hb
  generalize hla : Qf.lastT p k = la at *
  clear hla
  by_cases h1 : c.numV la ≤ c.numV (g k).on
  rotate_left
  ·rw [decide_eq_false h1] at NI1
   have hr := hno.out (by rw [hdk2.out]; rw [← hln.out, decide_eq_true (show c.numV (g k).on < c.numV la by omega)]; rfl)
   subst hr
   clear hno hyes hdk2
   go_wp2_with (first | (go_at_call 61; (with_reducible refine Calls.mono (NI1 _ C) ?_); rintro e x1 ⟨rfl, hx⟩; replace hE := hE.trans hx; replace C := C.ext hx; replace hL := hL.ext hx; replace B1 := B1.ext hx; replace B2 := B2.ext hx; replace BL := BL.ext hx; replace BD := BD.ext hx; clear hx; clear j0 j1 jl k0 k1 k2 k3 k4 k5 k6 k7 k8 k9 k10 k11 kl m0 m1 m2 m3 ml q0 q1 q2 q3 q4 q5 q6 ql; obtain ⟨j0, j1⟩ := B1.c2; have jl := B1.lt; obtain ⟨k0, k1, k2, k3, k4, k5, k6, k7, k8, k9, k10, k11⟩ := B2.c12; have kl := B2.lt; obtain ⟨m0, m1, m2, m3⟩ := BL.c4; have ml := BL.lt; obtain ⟨q0, q1, q2, q3, q4, q5, q6⟩ := Yg BD; have ql := BD.lt))
   go_ret
   exact ⟨rfl, E.trans hE⟩
  rw [decide_eq_true h1] at NI1
  have hpk : 0 < c.numV (g k).on := by omega
  rw [decide_eq_true hpk, Bool.true_and] at NI2
  by_cases h2 : c.numV (g k).on ≤ c.numV p.b
  rotate_left
  ·rw [decide_eq_false h2] at NI2
   have hr := hno.out (by rw [hdk2.out]; rw [decide_eq_true (show c.numV p.b < c.numV (g k).on by omega)]; simp)
   subst hr
   clear hno hyes hdk2
   go_wp2_with (first | (go_at_call 61; (with_reducible refine Calls.mono (NI1 _ C) ?_); rintro e x1 ⟨rfl, hx⟩; replace hE := hE.trans hx; replace C := C.ext hx; replace hL := hL.ext hx; replace B1 := B1.ext hx; replace B2 := B2.ext hx; replace BL := BL.ext hx; replace BD := BD.ext hx; clear hx; clear j0 j1 jl k0 k1 k2 k3 k4 k5 k6 k7 k8 k9 k10 k11 kl m0 m1 m2 m3 ml q0 q1 q2 q3 q4 q5 q6 ql; obtain ⟨j0, j1⟩ := B1.c2; have jl := B1.lt; obtain ⟨k0, k1, k2, k3, k4, k5, k6, k7, k8, k9, k10, k11⟩ := B2.c12; have kl := B2.lt; obtain ⟨m0, m1, m2, m3⟩ := BL.c4; have ml := BL.lt; obtain ⟨q0, q1, q2, q3, q4, q5, q6⟩ := Yg BD; have ql := BD.lt) | (go_at_call 61; (with_reducible refine Calls.mono (NI2 _ C) ?_); rintro e x2 ⟨rfl, hx⟩; replace hE := hE.trans hx; replace C := C.ext hx; replace hL := hL.ext hx; replace B1 := B1.ext hx; replace B2 := B2.ext hx; replace BL := BL.ext hx; replace BD := BD.ext hx; clear hx; clear j0 j1 jl k0 k1 k2 k3 k4 k5 k6 k7 k8 k9 k10 k11 kl m0 m1 m2 m3 ml q0 q1 q2 q3 q4 q5 q6 ql; obtain ⟨j0, j1⟩ := B1.c2; have jl := B1.lt; obtain ⟨k0, k1, k2, k3, k4, k5, k6, k7, k8, k9, k10, k11⟩ := B2.c12; have kl := B2.lt; obtain ⟨m0, m1, m2, m3⟩ := BL.c4; have ml := BL.lt; obtain ⟨q0, q1, q2, q3, q4, q5, q6⟩ := Yg BD; have ql := BD.lt))
   go_ret
   exact ⟨rfl, E.trans hE⟩
  rw [decide_eq_true h2] at NI2
  cases h3 : Zq (g k).w
  ·simp only [h3] at NNK
   have hr := hno.out (by rw [hdk2.out]; rw [h3]; simp)
   subst hr
   clear hno hyes hdk2
   go_wp2_with (first | (go_at_call 61; (with_reducible refine Calls.mono (NI1 _ C) ?_); rintro e x1 ⟨rfl, hx⟩; replace hE := hE.trans hx; replace C := C.ext hx; replace hL := hL.ext hx; replace B1 := B1.ext hx; replace B2 := B2.ext hx; replace BL := BL.ext hx; replace BD := BD.ext hx; clear hx; clear j0 j1 jl k0 k1 k2 k3 k4 k5 k6 k7 k8 k9 k10 k11 kl m0 m1 m2 m3 ml q0 q1 q2 q3 q4 q5 q6 ql; obtain ⟨j0, j1⟩ := B1.c2; have jl := B1.lt; obtain ⟨k0, k1, k2, k3, k4, k5, k6, k7, k8, k9, k10, k11⟩ := B2.c12; have kl := B2.lt; obtain ⟨m0, m1, m2, m3⟩ := BL.c4; have ml := BL.lt; obtain ⟨q0, q1, q2, q3, q4, q5, q6⟩ := Yg BD; have ql := BD.lt) | (go_at_call 61; (with_reducible refine Calls.mono (NI2 _ C) ?_); rintro e x2 ⟨rfl, hx⟩; replace hE := hE.trans hx; replace C := C.ext hx; replace hL := hL.ext hx; replace B1 := B1.ext hx; replace B2 := B2.ext hx; replace BL := BL.ext hx; replace BD := BD.ext hx; clear hx; clear j0 j1 jl k0 k1 k2 k3 k4 k5 k6 k7 k8 k9 k10 k11 kl m0 m1 m2 m3 ml q0 q1 q2 q3 q4 q5 q6 ql; obtain ⟨j0, j1⟩ := B1.c2; have jl := B1.lt; obtain ⟨k0, k1, k2, k3, k4, k5, k6, k7, k8, k9, k10, k11⟩ := B2.c12; have kl := B2.lt; obtain ⟨m0, m1, m2, m3⟩ := BL.c4; have ml := BL.lt; obtain ⟨q0, q1, q2, q3, q4, q5, q6⟩ := Yg BD; have ql := BD.lt) | (go_at_call 69; (with_reducible refine Calls.mono (NNK _) ?_); rintro e _ ⟨rfl, rfl⟩))
   go_ret
   exact ⟨rfl, E.trans hE⟩
  simp only [h3] at NNK
  by_cases h4 : (g k).w = p.h
  ·have g4 : ((g k).w.toList == p.h.toList) = true := by rw [h4]; exact beq_self_eq_true _
   have hr := hno.out (by rw [hdk2.out]; rw [decide_eq_true h4]; simp)
   subst hr
   clear hno hyes hdk2
   clear h4
   go_wp2_with (first | (go_at_call 61; (with_reducible refine Calls.mono (NI1 _ C) ?_); rintro e x1 ⟨rfl, hx⟩; replace hE := hE.trans hx; replace C := C.ext hx; replace hL := hL.ext hx; replace B1 := B1.ext hx; replace B2 := B2.ext hx; replace BL := BL.ext hx; replace BD := BD.ext hx; clear hx; clear j0 j1 jl k0 k1 k2 k3 k4 k5 k6 k7 k8 k9 k10 k11 kl m0 m1 m2 m3 ml q0 q1 q2 q3 q4 q5 q6 ql; obtain ⟨j0, j1⟩ := B1.c2; have jl := B1.lt; obtain ⟨k0, k1, k2, k3, k4, k5, k6, k7, k8, k9, k10, k11⟩ := B2.c12; have kl := B2.lt; obtain ⟨m0, m1, m2, m3⟩ := BL.c4; have ml := BL.lt; obtain ⟨q0, q1, q2, q3, q4, q5, q6⟩ := Yg BD; have ql := BD.lt) | (go_at_call 61; (with_reducible refine Calls.mono (NI2 _ C) ?_); rintro e x2 ⟨rfl, hx⟩; replace hE := hE.trans hx; replace C := C.ext hx; replace hL := hL.ext hx; replace B1 := B1.ext hx; replace B2 := B2.ext hx; replace BL := BL.ext hx; replace BD := BD.ext hx; clear hx; clear j0 j1 jl k0 k1 k2 k3 k4 k5 k6 k7 k8 k9 k10 k11 kl m0 m1 m2 m3 ml q0 q1 q2 q3 q4 q5 q6 ql; obtain ⟨j0, j1⟩ := B1.c2; have jl := B1.lt; obtain ⟨k0, k1, k2, k3, k4, k5, k6, k7, k8, k9, k10, k11⟩ := B2.c12; have kl := B2.lt; obtain ⟨m0, m1, m2, m3⟩ := BL.c4; have ml := BL.lt; obtain ⟨q0, q1, q2, q3, q4, q5, q6⟩ := Yg BD; have ql := BD.lt) | (go_at_call 69; (with_reducible refine Calls.mono (NNK _) ?_); rintro e _ ⟨rfl, rfl⟩))
   go_ret
   exact ⟨rfl, E.trans hE⟩
  have g4 : ((g k).w.toList == p.h.toList) = false := beq_eq_false_iff_ne.2 fun h => h4 (Lx h)
  have hgv : Hid (Xm (g k).l = (decide (0 < (g k).l.length) && decide (Yq (g k).l = 0) && !((g k).l.any fun x => decide (x.n < 0)))) := rfl
  by_cases h5 : (g k).l.length = 0
  ·have g5 : (((g k).l.length : Int) == 0) = true := by rw [h5]; rfl
   have g5' : ((g k).l.length == 0) = true := by rw [h5]; rfl
   have hr := hno.out (by rw [hdk2.out]; rw [show Xm (g k).l = false by rw [hgv.out, h5]; rfl]; simp)
   subst hr
   clear hno hyes hdk2
   go_wp2_with (first | (go_at_call 61; (with_reducible refine Calls.mono (NI1 _ C) ?_); rintro e x1 ⟨rfl, hx⟩; replace hE := hE.trans hx; replace C := C.ext hx; replace hL := hL.ext hx; replace B1 := B1.ext hx; replace B2 := B2.ext hx; replace BL := BL.ext hx; replace BD := BD.ext hx; clear hx; clear j0 j1 jl k0 k1 k2 k3 k4 k5 k6 k7 k8 k9 k10 k11 kl m0 m1 m2 m3 ml q0 q1 q2 q3 q4 q5 q6 ql; obtain ⟨j0, j1⟩ := B1.c2; have jl := B1.lt; obtain ⟨k0, k1, k2, k3, k4, k5, k6, k7, k8, k9, k10, k11⟩ := B2.c12; have kl := B2.lt; obtain ⟨m0, m1, m2, m3⟩ := BL.c4; have ml := BL.lt; obtain ⟨q0, q1, q2, q3, q4, q5, q6⟩ := Yg BD; have ql := BD.lt) | (go_at_call 61; (with_reducible refine Calls.mono (NI2 _ C) ?_); rintro e x2 ⟨rfl, hx⟩; replace hE := hE.trans hx; replace C := C.ext hx; replace hL := hL.ext hx; replace B1 := B1.ext hx; replace B2 := B2.ext hx; replace BL := BL.ext hx; replace BD := BD.ext hx; clear hx; clear j0 j1 jl k0 k1 k2 k3 k4 k5 k6 k7 k8 k9 k10 k11 kl m0 m1 m2 m3 ml q0 q1 q2 q3 q4 q5 q6 ql; obtain ⟨j0, j1⟩ := B1.c2; have jl := B1.lt; obtain ⟨k0, k1, k2, k3, k4, k5, k6, k7, k8, k9, k10, k11⟩ := B2.c12; have kl := B2.lt; obtain ⟨m0, m1, m2, m3⟩ := BL.c4; have ml := BL.lt; obtain ⟨q0, q1, q2, q3, q4, q5, q6⟩ := Yg BD; have ql := BD.lt) | (go_at_call 69; (with_reducible refine Calls.mono (NNK _) ?_); rintro e _ ⟨rfl, rfl⟩))
   go_ret
   exact ⟨rfl, E.trans hE⟩
  have g5 : (((g k).l.length : Int) == 0) = false := beq_eq_false_iff_ne.2 (by omega)
  have g5' : ((g k).l.length == 0) = false := beq_eq_false_iff_ne.2 h5
  by_cases h6 : Yq (g k).l = 0
  rotate_left
  ·have g6 : (Yq (g k).l == 0) = false := beq_eq_false_iff_ne.2 h6
   have g6n : (Yq (g k).l != 0) = true := by rw [bne, g6]; rfl
   have hr := hno.out (by rw [hdk2.out]; rw [show Xm (g k).l = false by rw [hgv.out, decide_eq_false h6]; simp]; simp)
   subst hr
   clear hno hyes hdk2
   go_wp2_with (first | (go_at_call 61; (with_reducible refine Calls.mono (NI1 _ C) ?_); rintro e x1 ⟨rfl, hx⟩; replace hE := hE.trans hx; replace C := C.ext hx; replace hL := hL.ext hx; replace B1 := B1.ext hx; replace B2 := B2.ext hx; replace BL := BL.ext hx; replace BD := BD.ext hx; clear hx; clear j0 j1 jl k0 k1 k2 k3 k4 k5 k6 k7 k8 k9 k10 k11 kl m0 m1 m2 m3 ml q0 q1 q2 q3 q4 q5 q6 ql; obtain ⟨j0, j1⟩ := B1.c2; have jl := B1.lt; obtain ⟨k0, k1, k2, k3, k4, k5, k6, k7, k8, k9, k10, k11⟩ := B2.c12; have kl := B2.lt; obtain ⟨m0, m1, m2, m3⟩ := BL.c4; have ml := BL.lt; obtain ⟨q0, q1, q2, q3, q4, q5, q6⟩ := Yg BD; have ql := BD.lt) | (go_at_call 61; (with_reducible refine Calls.mono (NI2 _ C) ?_); rintro e x2 ⟨rfl, hx⟩; replace hE := hE.trans hx; replace C := C.ext hx; replace hL := hL.ext hx; replace B1 := B1.ext hx; replace B2 := B2.ext hx; replace BL := BL.ext hx; replace BD := BD.ext hx; clear hx; clear j0 j1 jl k0 k1 k2 k3 k4 k5 k6 k7 k8 k9 k10 k11 kl m0 m1 m2 m3 ml q0 q1 q2 q3 q4 q5 q6 ql; obtain ⟨j0, j1⟩ := B1.c2; have jl := B1.lt; obtain ⟨k0, k1, k2, k3, k4, k5, k6, k7, k8, k9, k10, k11⟩ := B2.c12; have kl := B2.lt; obtain ⟨m0, m1, m2, m3⟩ := BL.c4; have ml := BL.lt; obtain ⟨q0, q1, q2, q3, q4, q5, q6⟩ := Yg BD; have ql := BD.lt) | (go_at_call 69; (with_reducible refine Calls.mono (NNK _) ?_); rintro e _ ⟨rfl, rfl⟩) | (go_at_call 55; (with_reducible refine Calls.mono (NCK _ hL) ?_); rintro e x4 ⟨rfl, hx⟩; replace hE := hE.trans hx; replace C := C.ext hx; replace hL := hL.ext hx; replace B1 := B1.ext hx; replace B2 := B2.ext hx; replace BL := BL.ext hx; replace BD := BD.ext hx; clear hx; clear j0 j1 jl k0 k1 k2 k3 k4 k5 k6 k7 k8 k9 k10 k11 kl m0 m1 m2 m3 ml q0 q1 q2 q3 q4 q5 q6 ql; obtain ⟨j0, j1⟩ := B1.c2; have jl := B1.lt; obtain ⟨k0, k1, k2, k3, k4, k5, k6, k7, k8, k9, k10, k11⟩ := B2.c12; have kl := B2.lt; obtain ⟨m0, m1, m2, m3⟩ := BL.c4; have ml := BL.lt; obtain ⟨q0, q1, q2, q3, q4, q5, q6⟩ := Yg BD; have ql := BD.lt))
   go_ret
   exact ⟨rfl, E.trans hE⟩
  rw [h6] at NCK
  have hdk3 : Hid (c.dealOk p k = !((g k).l.any fun x => decide (x.n < 0))) := by
   unfold Hid
   rw [hdk2.out, ← hln.out, decide_eq_false (show ¬ c.numV (g k).on < c.numV la by omega), decide_eq_false (show ¬ c.numV p.b < c.numV (g k).on by omega), h3, decide_eq_false h4, hgv.out, decide_eq_true (show 0 < (g k).l.length by omega), decide_eq_true h6]
   simp
  clear hdk2 hgv h1 h2 h3 h4 h5 h6 hln
  go_upto_region 11 with (first | (go_at_call 61; (with_reducible refine Calls.mono (NI1 _ C) ?_); rintro e x1 ⟨rfl, hx⟩; replace hE := hE.trans hx; replace C := C.ext hx; replace hL := hL.ext hx; replace B1 := B1.ext hx; replace B2 := B2.ext hx; replace BL := BL.ext hx; replace BD := BD.ext hx; clear hx; clear j0 j1 jl k0 k1 k2 k3 k4 k5 k6 k7 k8 k9 k10 k11 kl m0 m1 m2 m3 ml q0 q1 q2 q3 q4 q5 q6 ql; obtain ⟨j0, j1⟩ := B1.c2; have jl := B1.lt; obtain ⟨k0, k1, k2, k3, k4, k5, k6, k7, k8, k9, k10, k11⟩ := B2.c12; have kl := B2.lt; obtain ⟨m0, m1, m2, m3⟩ := BL.c4; have ml := BL.lt; obtain ⟨q0, q1, q2, q3, q4, q5, q6⟩ := Yg BD; have ql := BD.lt) | (go_at_call 61; (with_reducible refine Calls.mono (NI2 _ C) ?_); rintro e x2 ⟨rfl, hx⟩; replace hE := hE.trans hx; replace C := C.ext hx; replace hL := hL.ext hx; replace B1 := B1.ext hx; replace B2 := B2.ext hx; replace BL := BL.ext hx; replace BD := BD.ext hx; clear hx; clear j0 j1 jl k0 k1 k2 k3 k4 k5 k6 k7 k8 k9 k10 k11 kl m0 m1 m2 m3 ml q0 q1 q2 q3 q4 q5 q6 ql; obtain ⟨j0, j1⟩ := B1.c2; have jl := B1.lt; obtain ⟨k0, k1, k2, k3, k4, k5, k6, k7, k8, k9, k10, k11⟩ := B2.c12; have kl := B2.lt; obtain ⟨m0, m1, m2, m3⟩ := BL.c4; have ml := BL.lt; obtain ⟨q0, q1, q2, q3, q4, q5, q6⟩ := Yg BD; have ql := BD.lt) | (go_at_call 69; (with_reducible refine Calls.mono (NNK _) ?_); rintro e _ ⟨rfl, rfl⟩) | (go_at_call 55; (with_reducible refine Calls.mono (NCK _ hL) ?_); rintro e x4 ⟨rfl, hx⟩; replace hE := hE.trans hx; replace C := C.ext hx; replace hL := hL.ext hx; replace B1 := B1.ext hx; replace B2 := B2.ext hx; replace BL := BL.ext hx; replace BD := BD.ext hx; clear hx; clear j0 j1 jl k0 k1 k2 k3 k4 k5 k6 k7 k8 k9 k10 k11 kl m0 m1 m2 m3 ml q0 q1 q2 q3 q4 q5 q6 ql; obtain ⟨j0, j1⟩ := B1.c2; have jl := B1.lt; obtain ⟨k0, k1, k2, k3, k4, k5, k6, k7, k8, k9, k10, k11⟩ := B2.c12; have kl := B2.lt; obtain ⟨m0, m1, m2, m3⟩ := BL.c4; have ml := BL.lt; obtain ⟨q0, q1, q2, q3, q4, q5, q6⟩ := Yg BD; have ql := BD.lt))
  clear j0 j1 jl k0 k1 k2 k3 k4 k5 k6 k7 k8 k9 k10 k11 kl m0 m1 m2 m3 ml q0 q1 q2 q3 q4 q5 q6 ql
  clear NI1 NI2 NNK NCK g4 g5 g5'
  obtain ⟨TL', cl', hTL, hTR, hcl, hclm, _⟩ := id hL
  obtain ⟨rfl, rfl⟩ : TL = TL' ∧ cl = cl' := by simpa using hTL
  clear hTL
  generalize g k = G at *
  have hl63 : G.l.length ≤ 9223372036854775807 := Nat.le_trans hcl (Nat.le_trans hclm (by decide))
  have hEx := hE
  go_loopw [8] (fun iv wr => ∃ j : Nat, j ≤ G.l.length ∧ iv = .int .i64 j ∧ Hid (∀ i, i < j → 0 ≤ (Za G.l i).n) ∧ Qa x4 wr) (fun iv _ => G.l.length - (intOf iv).toNat)
  case atStart => exact ⟨0, Nat.zero_le _, rfl, (fun i h => absurd h (by omega)), Qa.refl _⟩
  case round =>
   obtain ⟨j, hj, rfl, hnn, hEj⟩ := hrel
   obtain ⟨wi, rfl⟩ := Qg wr
   have BDi := BD.ext hEj
   have BLi := BL.ext hEj
   obtain ⟨q0, q1, q2, q3, q4, q5, q6⟩ := Ws BDi
   have ql := Qb.lt BDi
   by_cases hlj : j < G.l.length
   ·obtain ⟨b2, off2, rfl, hb2, hc2⟩ := (hTR.ext hEj) (by omega)
    have d1 : wi.cell? ⟨b2, off2 + j * 2 + 1, none⟩ = some (.int .i64 (Za G.l j).n) := by simpa [Qz] using hc2 j 1 _ hlj rfl
    have hin2 : j < G.l.length := hlj
    clear hc2
    by_cases hneg : (Za G.l j).n < 0
    ·have g7 : decide ((Za G.l j).n < 0) = true := decide_eq_true hneg
     have hany : (G.l.any fun x => decide (x.n < 0)) = true := Qec hlj hneg
     have hr := hno.out (by rw [hdk3.out, hany]; rfl)
     subst hr
     clear hno hyes hdk3 hany hneg hnn
     go_wp2
     go_ret
     exact ⟨rfl, E.trans (hE.trans hEj)⟩
    ·have g7 : decide ((Za G.l j).n < 0) = false := decide_eq_false hneg
     have hnn2 : Hid (∀ i, i < j + 1 → 0 ≤ (Za G.l i).n) := fun i hi => by
      by_cases e : i = j
      ·subst e; omega
      ·exact hnn.out i (by omega)
     clear hno hyes hdk3 hneg hnn
     go_wp2
     exact ⟨⟨j + 1, by omega, by go_num, hnn2, hEj⟩, by simp [intOf]; omega⟩
   ·obtain rfl : j = G.l.length := by omega
    have hany : (G.l.any fun x => decide (x.n < 0)) = false := Qar (fun i hi => hnn.out i hi)
    have hnx := Lib.hid (hyes.out (by rw [hdk3.out, hany]; rfl))
    clear hno hyes hdk3 hany hnn
    obtain ⟨f0, f1, f2, f3⟩ : (_ ∧ _ ∧ _ ∧ _) := ⟨BLi.frozen 0, BLi.frozen 1, BLi.frozen 2, BLi.frozen 3⟩
    obtain ⟨m0, m1, m2, m3⟩ := BLi.c4
    have ml := BLi.lt
    have X := Qd6 BLi (.int .i64 G.on.y) (.int .i64 G.on.m) (.bool G.on.s) (.int .i64 G.on.d)
    have E4 := ext4Q (hE.trans hEj) hE5 (.int .i64 G.on.y) (.int .i64 G.on.m) (.bool G.on.s) (.int .i64 G.on.d)
    have hps : 0 < c.numV (Qf.lastT p (k + 1)) := by rw [← hgo2.out]; exact hpk
    clear hpk
    go_wp2
    exact ⟨⟨k + 1, by omega, by go_num, hnx, hps, E4, by rw [← hgo2.out]; exact X⟩, by simp [intOf]; omega⟩
end
end Go.Proofs.YtneiofnlmblglaaGreatDoor

/- Walks of the program's functions and plain facts, packed; proved: the lemmas below; no conditions but those that each states. -/
import Derived.Test.YthmjpbafbohelaaGreatDoorL10
import Derived.Test.YthmjpbafbohelaaGreatDoorL8
import Derived.Test.YthmjpbafbohelaaGreatDoorL6
import Derived.Test.YthmjpbafbohelaaGreatDoorL5
import Derived.Laws.EntriesVeiled
set_option maxRecDepth 100000
set_option maxHeartbeats 4000000
namespace Go.Proofs.YthmjpbafbohelaaGreatDoor
open Go Go.RowKit Go.Shelf
attribute [local go_sem] gv_yes
theorem dayR_any (A A' : Option Addr) (ca cb : Nat) (c : Cal) (d : Dt) (w : World) (hC : CalAt w A ca A' cb c) (hv : c.valid = true) :
  Calls Tryz.prog 80 #[.agg #[.slice A c.nk ca, .slice A' c.ny cb], .agg #[.int .i64 d.y, .int .i64 d.m, .bool d.s, .int .i64 d.d]] w fun e w' => e = .returned (.int .i64 (c.numV d)) ∧ Ext w w' := by
 have NH := fun v (h : CalAt v A ca A' cb c) => has_any_r A A' ca cb c d v h hv
 unfold Cal.numV
 cases hh : c.has d
 ·have hE : c.inE d ≠ 0 := by rcases inE_cases c d with ⟨h, _⟩ | ⟨_, _, h⟩ | ⟨_, h, _⟩ <;> first | (rw [hv] at h; cases h) | (rw [h]; decide) | (rw [hh] at h; cases h)
  simp only [hh] at NH
  rw [if_neg hE]
  clear hE hh hv
  go_enter Tryz.func80, Tryz.ntmps80
  go_upto_region 1 with (fail)
  obtain ⟨v, hv⟩ := zgE ((w.alloc (.cells #[.slice A c.nk ca, .slice A' c.ny cb] 34)).alloc (.cells #[.int .i64 d.y, .int .i64 d.m, .bool d.s, .int .i64 d.d] 37))
  rw [← hv]
  have E : Ext w v := by rw [hv]; exact ((Ext.refl _).alloc _).alloc _
  have B1 : Held v w.heap.size 34 #[.slice A c.nk ca, .slice A' c.ny cb] := by rw [hv]; exact (Held.new _ _ _).alloc _
  have B2 : Held v (w.heap.size + 1) 37 #[.int .i64 d.y, .int .i64 d.m, .bool d.s, .int .i64 d.d] := by rw [hv]; exact Held.at _ _ _ _ (by simp)
  clear hv
  obtain ⟨b2, hb2⟩ := zgE (w.heap.size + 1)
  rw [← hb2] at B2 ⊢
  obtain ⟨b1, hb1⟩ := zgE (w.heap.size)
  rw [← hb1] at B1 ⊢
  have hbr : w.heap.size ≤ b2 := by omega
  have hbr1 : w.heap.size ≤ b1 := by omega
  have hn21 : b2 ≠ b1 := by omega
  clear hb1 hb2
  have C := hC.ext E
  clear hC
  obtain ⟨k0, k1⟩ := B1.c2
  have kl := B1.lt
  obtain ⟨p0, p1, p2, p3⟩ := B2.c4
  have pl := B2.lt
  go_wp2_with (go_at_call 129; (with_reducible refine Calls.mono (NH _ C) ?_); rintro e w1 ⟨rfl, h1⟩; replace E := E.trans h1; replace C := C.ext h1; replace B1 := B1.ext h1; replace B2 := B2.ext h1; clear k0 k1 kl; obtain ⟨k0, k1⟩ := B1.c2; have kl := B1.lt; clear p0 p1 p2 p3 pl; obtain ⟨p0, p1, p2, p3⟩ := B2.c4; have pl := B2.lt; clear h1)
  go_ret
  exact ⟨rfl, E⟩
 ·have hE : c.inE d = 0 := by rcases inE_cases c d with ⟨h, _⟩ | ⟨_, h, _⟩ | ⟨_, _, h⟩ <;> first | (rw [hv] at h; cases h) | exact h | (rw [hh] at h; cases h)
  have NK := fun v (h : CalAt v A ca A' cb c) => counted_any_r A A' ca cb c d v h hv hh
  simp only [hh] at NH
  rw [if_pos hE]
  generalize c.num d = V at *
  clear hE hh hv
  go_enter Tryz.func80, Tryz.ntmps80
  go_upto_region 1 with (fail)
  obtain ⟨v, hv⟩ := zgE ((w.alloc (.cells #[.slice A c.nk ca, .slice A' c.ny cb] 34)).alloc (.cells #[.int .i64 d.y, .int .i64 d.m, .bool d.s, .int .i64 d.d] 37))
  rw [← hv]
  have E : Ext w v := by rw [hv]; exact ((Ext.refl _).alloc _).alloc _
  have B1 : Held v w.heap.size 34 #[.slice A c.nk ca, .slice A' c.ny cb] := by rw [hv]; exact (Held.new _ _ _).alloc _
  have B2 : Held v (w.heap.size + 1) 37 #[.int .i64 d.y, .int .i64 d.m, .bool d.s, .int .i64 d.d] := by rw [hv]; exact Held.at _ _ _ _ (by simp)
  clear hv
  obtain ⟨b2, hb2⟩ := zgE (w.heap.size + 1)
  rw [← hb2] at B2 ⊢
  obtain ⟨b1, hb1⟩ := zgE (w.heap.size)
  rw [← hb1] at B1 ⊢
  have hbr : w.heap.size ≤ b2 := by omega
  have hbr1 : w.heap.size ≤ b1 := by omega
  have hn21 : b2 ≠ b1 := by omega
  clear hb1 hb2
  have C := hC.ext E
  clear hC
  obtain ⟨k0, k1⟩ := B1.c2
  have kl := B1.lt
  obtain ⟨p0, p1, p2, p3⟩ := B2.c4
  have pl := B2.lt
  go_wp2_with (first | (go_at_call 129; (with_reducible refine Calls.mono (NH _ C) ?_); rintro e w1 ⟨rfl, h1⟩; replace E := E.trans h1; replace C := C.ext h1; replace B1 := B1.ext h1; replace B2 := B2.ext h1; clear k0 k1 kl; obtain ⟨k0, k1⟩ := B1.c2; have kl := B1.lt; clear p0 p1 p2 p3 pl; obtain ⟨p0, p1, p2, p3⟩ := B2.c4; have pl := B2.lt; clear h1) | (go_at_call 117; (with_reducible refine Calls.mono (NK _ C) ?_); rintro e w2 ⟨rfl, h1⟩; replace E := E.trans h1; replace C := C.ext h1; replace B1 := B1.ext h1; replace B2 := B2.ext h1; clear k0 k1 kl; obtain ⟨k0, k1⟩ := B1.c2; have kl := B1.lt; clear p0 p1 p2 p3 pl; obtain ⟨p0, p1, p2, p3⟩ := B2.c4; have pl := B2.lt; clear h1))
  go_ret
  exact ⟨rfl, E⟩
theorem inOrderR_any (A A' : Option Addr) (ca cb : Nat) (c : Cal) (a b : Dt) (w : World) (hC : CalAt w A ca A' cb c) (hv : c.valid = true) :
  Calls Tryz.prog 68 #[.agg #[.slice A c.nk ca, .slice A' c.ny cb], .agg #[.int .i64 a.y, .int .i64 a.m, .bool a.s, .int .i64 a.d], .agg #[.int .i64 b.y, .int .i64 b.m, .bool b.s, .int .i64 b.d]] w fun e w' => e = .returned (.bool (decide (0 < c.numV a) && decide (c.numV a ≤ c.numV b))) ∧ Ext w w' := by
 have NA := fun v (h : CalAt v A ca A' cb c) => dayR_any A A' ca cb c a v h hv
 have NB := fun v (h : CalAt v A ca A' cb c) => dayR_any A A' ca cb c b v h hv
 generalize c.numV a = x at *
 generalize c.numV b = y at *
 clear hv
 go_enter Tryz.func68, Tryz.ntmps68
 go_upto_region 1 with (fail)
 obtain ⟨v, hv⟩ := zgE (((w.alloc (.cells #[.slice A c.nk ca, .slice A' c.ny cb] 34)).alloc (.cells #[.int .i64 a.y, .int .i64 a.m, .bool a.s, .int .i64 a.d] 37)).alloc (.cells #[.int .i64 b.y, .int .i64 b.m, .bool b.s, .int .i64 b.d] 37))
 rw [← hv]
 have E : Ext w v := by rw [hv]; exact (((Ext.refl _).alloc _).alloc _).alloc _
 have B1 : Held v w.heap.size 34 #[.slice A c.nk ca, .slice A' c.ny cb] := by rw [hv]; exact ((Held.new _ _ _).alloc _).alloc _
 have B2 : Held v (w.heap.size + 1) 37 #[.int .i64 a.y, .int .i64 a.m, .bool a.s, .int .i64 a.d] := by rw [hv]; exact (Held.at _ _ _ _ (by simp)).alloc _
 have B3 : Held v (w.heap.size + 1 + 1) 37 #[.int .i64 b.y, .int .i64 b.m, .bool b.s, .int .i64 b.d] := by rw [hv]; exact Held.at _ _ _ _ (by simp)
 clear hv
 obtain ⟨b3, hb3⟩ := zgE (w.heap.size + 1 + 1)
 rw [← hb3] at B3 ⊢
 obtain ⟨b2, hb2⟩ := zgE (w.heap.size + 1)
 rw [← hb2] at B2 ⊢
 obtain ⟨b1, hb1⟩ := zgE (w.heap.size)
 rw [← hb1] at B1 ⊢
 have hbr : w.heap.size ≤ b3 := by omega
 have hbr1 : w.heap.size ≤ b1 := by omega
 have hbr2 : w.heap.size ≤ b2 := by omega
 have hn21 : b2 ≠ b1 := by omega
 have hn31 : b3 ≠ b1 := by omega
 have hn32 : b3 ≠ b2 := by omega
 clear hb1 hb2 hb3
 have C := hC.ext E
 clear hC
 obtain ⟨k0, k1⟩ := B1.c2
 have kl := B1.lt
 obtain ⟨p0, p1, p2, p3⟩ := B2.c4
 have pl := B2.lt
 obtain ⟨q0, q1, q2, q3⟩ := B3.c4
 have ql := B3.lt
 refine wp_region_xw v mixed (by kernel_rfl) (by repeat (first | exact Ext.refl _ | (refine Ext.alloc ?_ _) | (refine Ext.trans ?_ (by assumption)))) ?_
 intro hne hrx hry
 try simp only []
 try simp only [List.append_eq, List.cons_append, List.nil_append]
 skip
 repeat (first
  | go_big_quiet_skip
  | (go_big_quiet_want; go_big_quiet_op; go_big_quiet_on)
  | (go_big_quiet_want; go_big_quiet_op; apply Exists.intro; refine ⟨fun u => ?_, ?_⟩
     ·first
       | (go_at_call 80; (with_reducible refine Calls.mono (NA _ (C.ext u.e)) ?_); rintro e w' ⟨rfl, hb⟩; exact ⟨rfl, u.back hb⟩)
       | (go_at_call 80; (with_reducible refine Calls.mono (NB _ (C.ext u.e)) ?_); rintro e w' ⟨rfl, hb⟩; exact ⟨rfl, u.back hb⟩)
     go_big_quiet_on))
 clear hne hry hrx
 refine wpQuiet_nil ?_
 intro v1 h1
 obtain ⟨hcv1, hfv1, hzv1⟩ := Ext.rules h1
 try simp only [World.size_alloc] at hzv1
 obtain ⟨hcbv1, hfbv1, hzbv1⟩ := Ext.rules (show Ext v v1 from (by repeat (first | exact Ext.refl _ | (refine Ext.alloc ?_ _) | (refine Ext.trans ?_ (by assumption)))))
 clear hcv1 hfv1
 clear NA NB C k0 k1 kl p0 p1 p2 p3 pl q0 q1 q2 q3 ql
 replace E := E.trans h1
 clear h1
 by_cases c1 : 0 < x
 ·have g1 : decide (0 < x) = true := decide_eq_true c1
  by_cases c2 : 0 < y
  ·have g2 : decide (0 < y) = true := decide_eq_true c2
   clear c1 c2
   cases g3 : decide (x ≤ y)
   ·go_wp2
    go_ret
    exact ⟨by rw [g1]; first | rfl | (rw [g3]; rfl), E⟩
   ·go_wp2
    go_ret
    exact ⟨by rw [g1]; first | rfl | (rw [g3]; rfl), E⟩
  ·have g2 : decide (0 < y) = false := decide_eq_false c2
   have g3 : decide (x ≤ y) = false := decide_eq_false (by omega)
   clear c1 c2
   go_wp2
   go_ret
   exact ⟨by rw [g3, Bool.and_false]; rfl, E⟩
 ·have g1 : decide (0 < x) = false := decide_eq_false c1
  clear c1
  go_wp2
  go_ret
  exact ⟨by rw [g1]; rfl, E⟩
end Go.Proofs.YthmjpbafbohelaaGreatDoor
namespace Go.Proofs.YthmjpbafbohelaaGreatDoor
open Go Go.RowKit Go.Shelf
attribute [local go_sem] gv_yes
theorem sch_lo (c : Cal) (a b : Dt) : -9223372036854775808 ≤ c.schV a b := by
 by_cases h : c.in2E a b = 0
 ·have hv : c.valid = true := by
   rcases in2E_cases c a b with ⟨_, hE⟩ | ⟨hv, _, _⟩ | ⟨hv, _, _⟩
   ·rw [hE] at h; exact absurd h (by decide)
   ·exact hv
   ·exact hv
  have hh : (c.has a && c.has b) = true := by
   rcases in2E_cases c a b with ⟨_, hE⟩ | ⟨_, _, hE⟩ | ⟨_, hh, _⟩
   ·rw [hE] at h; exact absurd h (by decide)
   ·rw [hE] at h; exact absurd h (by decide)
   ·exact hh
  obtain ⟨h1, h2⟩ := Bool.and_eq_true_iff.1 hh
  rw [sch_of hv h1 h2]
  have := num2_bd hv h1
  have := num2_bd hv h2
  omega
 ·unfold Cal.schV; rw [if_neg h]; decide
theorem sch_hi (c : Cal) (a b : Dt) : c.schV a b ≤ 9223372036854775807 := by
 by_cases h : c.in2E a b = 0
 ·have hv : c.valid = true := by
   rcases in2E_cases c a b with ⟨_, hE⟩ | ⟨hv, _, _⟩ | ⟨hv, _, _⟩
   ·rw [hE] at h; exact absurd h (by decide)
   ·exact hv
   ·exact hv
  have hh : (c.has a && c.has b) = true := by
   rcases in2E_cases c a b with ⟨_, hE⟩ | ⟨_, _, hE⟩ | ⟨_, hh, _⟩
   ·rw [hE] at h; exact absurd h (by decide)
   ·rw [hE] at h; exact absurd h (by decide)
   ·exact hh
  obtain ⟨h1, h2⟩ := Bool.and_eq_true_iff.1 hh
  rw [sch_of hv h1 h2]
  have := num2_bd hv h1
  have := num2_bd hv h2
  omega
 ·unfold Cal.schV; rw [if_neg h]; decide
theorem accrue_any (A A' : Option Addr) (ca cb : Nat) (c : Cal) (l : Ln) (hr : l.r.In) (X : Db) (hX : X.In) (fr tu : Dt) (bt bd bl bb bf be : Nat) (v0 w : World) (hv0 : Ext v0 w) (C : CalAt v0 A ca A' cb c) (Z : Zro v0) (ht : Held w bt 166 #[.func (.func 126) #[] #[.pointer (some ⟨be, 0, none⟩)]]) (hd : Held w bd 60 #[.int .i64 X.p.n, .int .i64 X.p.d, .int .i64 X.i.n, .int .i64 X.i.d, .int .i64 X.s.n, .int .i64 X.s.d]) (hl : Held w bl 54 #[.int .i64 l.p.n, .int .i64 l.p.d, .int .i64 l.r.n, .int .i64 l.r.d, .int .i64 l.f.y, .int .i64 l.f.m, .bool l.f.s, .int .i64 l.f.d]) (hb : Held w bb 108 #[.slice A c.nk ca, .slice A' c.ny cb]) (hf : Held w bf 37 #[.int .i64 fr.y, .int .i64 fr.m, .bool fr.s, .int .i64 fr.d]) (he : Held w be 24 #[.int .i64 0]) (g3 : v0.heap.size ≤ be) (n1 : bd ≠ bf) (n2 : bd ≠ be) (n3 : bf ≠ be) (n4 : bt ∉ [bd, bf, be]) (n5 : bl ∉ [bd, bf, be]) (n6 : bb ∉ [bd, bf, be]) :
  Calls Tryz.prog 127 #[.agg #[.int .i64 tu.y, .int .i64 tu.m, .bool tu.s, .int .i64 tu.d], .pointer (some ⟨bt, 0, none⟩), .pointer (some ⟨bd, 0, none⟩), .pointer (some ⟨bl, 0, none⟩), .pointer (some ⟨bb, 0, none⟩), .pointer (some ⟨bf, 0, none⟩), .pointer (some ⟨be, 0, none⟩)] w fun e w' => e = .returned (.tuple #[]) ∧ Only [bd, bf, be] w w' ∧ Held w' bf 37 #[.int .i64 tu.y, .int .i64 tu.m, .bool tu.s, .int .i64 tu.d] ∧ Held w' be 24 #[.int .i64 (accV c l.r X fr tu).2] ∧ ∃ Y : Db, Y.In ∧ Held w' bd 60 #[.int .i64 Y.p.n, .int .i64 Y.p.d, .int .i64 Y.i.n, .int .i64 Y.i.d, .int .i64 Y.s.n, .int .i64 Y.s.d] ∧ ((accV c l.r X fr tu).2 = 0 → Y = (accV c l.r X fr tu).1) := by
 have NI := fun w z => interest_any X.p l.r (c.schV fr tu) hX.p hr (sch_lo c fr tu) (sch_hi c fr tu) w z
 have HV : Hid (accV c l.r X fr tu = if (intV X.p l.r (c.schV fr tu)).2 ≠ 0 then (X, (intV X.p l.r (c.schV fr tu)).2) else if (addR X.i (intV X.p l.r (c.schV fr tu)).1).2 ≠ 0 then (X, (addR X.i (intV X.p l.r (c.schV fr tu)).1).2) else (⟨X.p, (addR X.i (intV X.p l.r (c.schV fr tu)).1).1, X.s⟩, 0)) := rfl
 have hMi := intV_in X.p l.r (c.schV fr tu)
 generalize accV c l.r X fr tu = V at *
 generalize intV X.p l.r (c.schV fr tu) = M at *
 obtain ⟨⟨Mn, Md⟩, Me⟩ := M
 simp only [] at HV NI hMi
 go_enter Tryz.func127, Tryz.ntmps127
 go_upto_region 1 with (fail)
 obtain ⟨v, hv⟩ := zgE (w.alloc (.cells #[.int .i64 tu.y, .int .i64 tu.m, .bool tu.s, .int .i64 tu.d] 37))
 rw [← hv]
 have E : Ext w v := by rw [hv]; exact (Ext.refl _).alloc _
 have H7 : Held v w.heap.size 37 #[.int .i64 tu.y, .int .i64 tu.m, .bool tu.s, .int .i64 tu.d] := by rw [hv]; exact (Held.new _ _ _)
 clear hv
 obtain ⟨b1, hb1⟩ := zgE (w.heap.size)
 rw [← hb1] at H7 ⊢
 have hbr : w.heap.size ≤ b1 := by omega
 clear hb1
 have n7 : b1 ≠ be := by have := he.lt; omega
 have n8 : b1 ≠ bd := by have := hd.lt; omega
 have HE := hv0.trans E
 have HO : Only [bd, bf, be] w v := Only.of_ext E
 have Ht := ht.ext E
 have Hd := hd.ext E
 have Hl := hl.ext E
 have Hb := hb.ext E
 have Hf := hf.ext E
 have He := he.ext E
 clear E hv0
 apply wp_cut1y (S := fun w' b => Ext v0 w' ∧ w.heap.size ≤ b ∧ Only [bd, bf, be] w w' ∧ Held w' bt 166 #[.func (.func 126) #[] #[.pointer (some ⟨be, 0, none⟩)]] ∧ Held w' bd 60 #[.int .i64 X.p.n, .int .i64 X.p.d, .int .i64 X.i.n, .int .i64 X.i.d, .int .i64 X.s.n, .int .i64 X.s.d] ∧ Held w' bf 37 #[.int .i64 fr.y, .int .i64 fr.m, .bool fr.s, .int .i64 fr.d] ∧ Held w' b1 37 #[.int .i64 tu.y, .int .i64 tu.m, .bool tu.s, .int .i64 tu.d] ∧ Held w' be 24 #[.int .i64 Me] ∧ Held w' b 23 #[.int .i64 Mn, .int .i64 Md] ∧ b1 ≠ b)
 ·refine wp_region_z 15 [14] (fun x => Ext v0 x ∧ Held x bt 166 #[.func (.func 126) #[] #[.pointer (some ⟨be, 0, none⟩)]] ∧ Held x bd 60 #[.int .i64 X.p.n, .int .i64 X.p.d, .int .i64 X.i.n, .int .i64 X.i.d, .int .i64 X.s.n, .int .i64 X.s.d] ∧ Held x bl 54 #[.int .i64 l.p.n, .int .i64 l.p.d, .int .i64 l.r.n, .int .i64 l.r.d, .int .i64 l.f.y, .int .i64 l.f.m, .bool l.f.s, .int .i64 l.f.d] ∧ Held x bb 108 #[.slice A c.nk ca, .slice A' c.ny cb] ∧ Held x bf 37 #[.int .i64 fr.y, .int .i64 fr.m, .bool fr.s, .int .i64 fr.d] ∧ Held x b1 37 #[.int .i64 tu.y, .int .i64 tu.m, .bool tu.s, .int .i64 tu.d]) mixed rfl ?_
  intro vz hvz
  replace HO := HO.trans (Only.of_ext hvz)
  replace HE := HE.trans hvz
  replace Ht := Ht.ext hvz
  replace Hd := Hd.ext hvz
  replace Hl := Hl.ext hvz
  replace Hb := Hb.ext hvz
  replace Hf := Hf.ext hvz
  replace H7 := H7.ext hvz
  replace He := He.ext hvz
  try replace Q := Q.ext hvz
  clear hvz
  refine z_stills (g := 7) [0, 1, 2, 3, 4, 5, 6, 7] [_, _, _, _, _, _, _, _] ⟨rfl, rfl, rfl, rfl, rfl, rfl, rfl, rfl, trivial⟩ (by kernel_rfl) (by kernel_rfl) ⟨HE, Ht, Hd, Hl, Hb, Hf, H7⟩ ?_
  simp only [zgA, zgB, zgC]
  apply Exists.intro
  refine ⟨fun u hu => ?_, ?_⟩
  ·have t0 := hu.2.1.c1
   have lt := hu.2.1.lt
   obtain ⟨d0, d1, d2, d3, d4, d5⟩ := hu.2.2.1.c6
   have ld := hu.2.2.1.lt
   obtain ⟨p0, p1, p2, p3, p4, p5, p6, p7⟩ := hu.2.2.2.1.c8
   have lp := hu.2.2.2.1.lt
   obtain ⟨k0, k1⟩ := hu.2.2.2.2.1.c2
   have lk := hu.2.2.2.2.1.lt
   obtain ⟨f0, f1, f2, f3⟩ := hu.2.2.2.2.2.1.c4
   have lf := hu.2.2.2.2.2.1.lt
   obtain ⟨s0, s1, s2, s3⟩ := hu.2.2.2.2.2.2.c4
   have ls := hu.2.2.2.2.2.2.lt
   repeat (first | go_big_quiet_skip | (go_big_quiet_want; go_big_quiet_op; go_big_quiet_on))
   refine wpQuiet_nil ?_
   rfl
  refine z_two 8 13 rfl rfl (by kernel_rfl) ?_ ?_
  ·simp only [zgA, zgB, zgC]
   go_wp2_with (go_at_call 66; (with_reducible refine Calls.mono (bet_any A A' ca cb c fr tu _ (C.ext HE)) ?_); rintro e wa ⟨rfl, h4⟩)
   replace HO := HO.trans (Only.of_ext h4)
   replace HE := HE.trans h4
   replace Ht := Ht.ext h4
   replace Hd := Hd.ext h4
   replace Hl := Hl.ext h4
   replace Hb := Hb.ext h4
   replace Hf := Hf.ext h4
   replace H7 := H7.ext h4
   replace He := He.ext h4
   try replace Q := Q.ext h4
   clear h4
   refine onQ_in ⟨HE, Ht, Hd, Hl, Hb, Hf, H7⟩ ?_
   refine z_two 9 13 rfl rfl (by kernel_rfl) ?_ ?_
   ·simp only [zgA, zgB, zgC]
    go_wp2_with (go_at_call 11; (with_reducible refine Calls.mono (NI _ (Z.ext HE)) ?_); rintro e wc ⟨rfl, h4⟩)
    replace HO := HO.trans (Only.of_ext h4)
    replace HE := HE.trans h4
    replace Ht := Ht.ext h4
    replace Hd := Hd.ext h4
    replace Hl := Hl.ext h4
    replace Hb := Hb.ext h4
    replace Hf := Hf.ext h4
    replace H7 := H7.ext h4
    replace He := He.ext h4
    try replace Q := Q.ext h4
    clear h4
    refine onQ_in ⟨HE, Ht, Hd, Hl, Hb, Hf, H7⟩ ?_
    refine z_stills (g := 3) [10, 11] [_, _] ⟨rfl, rfl, trivial⟩ (by kernel_rfl) (by kernel_rfl) ⟨HE, Ht, Hd, Hl, Hb, Hf, H7⟩ ?_
    simp only [zgA, zgB, zgC]
    apply Exists.intro
    refine ⟨fun u hu => ?_, ?_⟩
    ·have t0 := hu.2.1.c1
     have lt := hu.2.1.lt
     obtain ⟨d0, d1, d2, d3, d4, d5⟩ := hu.2.2.1.c6
     have ld := hu.2.2.1.lt
     obtain ⟨p0, p1, p2, p3, p4, p5, p6, p7⟩ := hu.2.2.2.1.c8
     have lp := hu.2.2.2.1.lt
     obtain ⟨k0, k1⟩ := hu.2.2.2.2.1.c2
     have lk := hu.2.2.2.2.1.lt
     obtain ⟨f0, f1, f2, f3⟩ := hu.2.2.2.2.2.1.c4
     have lf := hu.2.2.2.2.2.1.lt
     obtain ⟨s0, s1, s2, s3⟩ := hu.2.2.2.2.2.2.c4
     have ls := hu.2.2.2.2.2.2.lt
     repeat (first | go_big_quiet_skip | (go_big_quiet_want; go_big_quiet_op; go_big_quiet_on))
     refine wpQuiet_nil ?_
     rfl
    refine z_two 12 13 rfl rfl (by kernel_rfl) ?_ ?_
    ·simp only [zgA, zgB, zgC]
     go_wp2_with (first | (go_at_call 126; (with_reducible refine Calls.mono (try_any ⟨Mn, Md⟩ Me 0 be _ He) ?_); rintro e we ⟨rfl, h5, He2⟩) | (go_at_fn 126; (with_reducible refine Calls.mono (try_any ⟨Mn, Md⟩ Me 0 be _ He) ?_); rintro e we ⟨rfl, h5, He2⟩))
     try rw [if_pos rfl] at He2
     have h5' := h5.mono (T := [bd, bf, be]) (fun k hk => by rw [List.mem_singleton.1 hk]; simp)
     replace HO := HO.trans h5'
     replace HE := h5.ext HE (fun k hk => by rw [List.mem_singleton.1 hk]; exact g3)
     replace Ht := h5.held Ht (by simp only [List.mem_singleton]; exact fun e => n4 (by rw [e]; simp))
     replace Hd := h5.held Hd (by simp only [List.mem_singleton]; exact n2)
     replace Hl := h5.held Hl (by simp only [List.mem_singleton]; exact fun e => n5 (by rw [e]; simp))
     replace Hb := h5.held Hb (by simp only [List.mem_singleton]; exact fun e => n6 (by rw [e]; simp))
     replace Hf := h5.held Hf (by simp only [List.mem_singleton]; exact n3)
     replace H7 := h5.held H7 (by simp only [List.mem_singleton]; exact n7)
     try replace Q := h5.held Q (by simp only [List.mem_singleton]; have := he.lt; omega)
     have He := He2
     clear h5 h5' He2
     refine onQ_in ⟨HE, Ht, Hd, Hl, Hb, Hf, H7⟩ ?_
     refine z_one 13 rfl (by kernel_rfl) ?_
     simp only [zgA, zgB, zgC]
     go_wp2
     obtain ⟨bq, hbq, Q, HE', hge⟩ := ex_new HE 23 #[.int .i64 0, .int .i64 0]
     rw [← hbq]
     have hb1q : b1 ≠ bq := by have := H7.lt; omega
     have hwq : w.heap.size ≤ bq := by have := HO.size; omega
     have HO' := HO.trans (Only.of_ext (S := [bd, bf, be]) ((Ext.refl _).alloc (.cells #[.int .i64 0, .int .i64 0] 23)))
     clear hbq
     replace Ht := Ht.alloc (.cells #[.int .i64 0, .int .i64 0] 23)
     replace Hd := Hd.alloc (.cells #[.int .i64 0, .int .i64 0] 23)
     replace Hl := Hl.alloc (.cells #[.int .i64 0, .int .i64 0] 23)
     replace Hb := Hb.alloc (.cells #[.int .i64 0, .int .i64 0] 23)
     replace Hf := Hf.alloc (.cells #[.int .i64 0, .int .i64 0] 23)
     replace H7 := H7.alloc (.cells #[.int .i64 0, .int .i64 0] 23)
     replace He := He.alloc (.cells #[.int .i64 0, .int .i64 0] 23)
     replace HE := HE'
     replace HO := HO'
     clear HE' HO'
     refine onQ_in ⟨HE, Ht, Hd, Hl, Hb, Hf, H7⟩ ?_
     refine z_end 14 rfl (by kernel_rfl) ?_
     simp only [zgA, zgB, zgC]
     have z0 := Q.frozen 0
     have z1 := Q.frozen 1
     obtain ⟨x0, x1⟩ := Q.c2
     have lx := Q.lt
     have Q2 := held_two Q (.int .i64 Mn) (.int .i64 Md)
     have hbq2 : ∀ b, b < w.heap.size → b ≠ bq := fun b h => by omega
     have Ht' := held_oth (held_oth Ht (hbq2 _ ht.lt) 0 (.int .i64 Mn)) (hbq2 _ ht.lt) 1 (.int .i64 Md)
     have Hd' := held_oth (held_oth Hd (hbq2 _ hd.lt) 0 (.int .i64 Mn)) (hbq2 _ hd.lt) 1 (.int .i64 Md)
     have Hl' := held_oth (held_oth Hl (hbq2 _ hl.lt) 0 (.int .i64 Mn)) (hbq2 _ hl.lt) 1 (.int .i64 Md)
     have Hb' := held_oth (held_oth Hb (hbq2 _ hb.lt) 0 (.int .i64 Mn)) (hbq2 _ hb.lt) 1 (.int .i64 Md)
     have Hf' := held_oth (held_oth Hf (hbq2 _ hf.lt) 0 (.int .i64 Mn)) (hbq2 _ hf.lt) 1 (.int .i64 Md)
     have He' := held_oth (held_oth He (hbq2 _ he.lt) 0 (.int .i64 Mn)) (hbq2 _ he.lt) 1 (.int .i64 Md)
     have H7' := held_oth (held_oth H7 hb1q 0 (.int .i64 Mn)) hb1q 1 (.int .i64 Md)
     have HO2 := HO.far hwq 0 1 (.int .i64 Mn) (.int .i64 Md)
     have HE2 := (HE.setCell (p := ⟨bq, 0, none⟩) hge (.int .i64 Mn)).setCell (p := ⟨bq, 1, none⟩) hge (.int .i64 Md)
     go_wp2
     refine onQ_last ?_
     refine z_done (by kernel_rfl) ?_
     exact cut1y_is bq ⟨HE2, hwq, HO2, Ht', Hd', Hf', H7', He', Q2, hb1q⟩ rfl
    ·simp only [zgA, zgB, zgC]
     go_wp2
     obtain ⟨bq, hbq, Q, HE', hge⟩ := ex_new HE 23 #[.int .i64 0, .int .i64 0]
     rw [← hbq]
     have hb1q : b1 ≠ bq := by have := H7.lt; omega
     have hwq : w.heap.size ≤ bq := by have := HO.size; omega
     have HO' := HO.trans (Only.of_ext (S := [bd, bf, be]) ((Ext.refl _).alloc (.cells #[.int .i64 0, .int .i64 0] 23)))
     clear hbq
     replace Ht := Ht.alloc (.cells #[.int .i64 0, .int .i64 0] 23)
     replace Hd := Hd.alloc (.cells #[.int .i64 0, .int .i64 0] 23)
     replace Hl := Hl.alloc (.cells #[.int .i64 0, .int .i64 0] 23)
     replace Hb := Hb.alloc (.cells #[.int .i64 0, .int .i64 0] 23)
     replace Hf := Hf.alloc (.cells #[.int .i64 0, .int .i64 0] 23)
     replace H7 := H7.alloc (.cells #[.int .i64 0, .int .i64 0] 23)
     replace He := He.alloc (.cells #[.int .i64 0, .int .i64 0] 23)
     replace HE := HE'
     replace HO := HO'
     clear HE' HO'
     refine onQ_in ⟨HE, Ht, Hd, Hl, Hb, Hf, H7⟩ ?_
     refine z_one 12 rfl (by kernel_rfl) ?_
     simp only [zgA, zgB, zgC]
     go_wp2_with (first | (go_at_call 126; (with_reducible refine Calls.mono (try_any ⟨Mn, Md⟩ Me 0 be _ He) ?_); rintro e we ⟨rfl, h5, He2⟩) | (go_at_fn 126; (with_reducible refine Calls.mono (try_any ⟨Mn, Md⟩ Me 0 be _ He) ?_); rintro e we ⟨rfl, h5, He2⟩))
     try rw [if_pos rfl] at He2
     have h5' := h5.mono (T := [bd, bf, be]) (fun k hk => by rw [List.mem_singleton.1 hk]; simp)
     replace HO := HO.trans h5'
     replace HE := h5.ext HE (fun k hk => by rw [List.mem_singleton.1 hk]; exact g3)
     replace Ht := h5.held Ht (by simp only [List.mem_singleton]; exact fun e => n4 (by rw [e]; simp))
     replace Hd := h5.held Hd (by simp only [List.mem_singleton]; exact n2)
     replace Hl := h5.held Hl (by simp only [List.mem_singleton]; exact fun e => n5 (by rw [e]; simp))
     replace Hb := h5.held Hb (by simp only [List.mem_singleton]; exact fun e => n6 (by rw [e]; simp))
     replace Hf := h5.held Hf (by simp only [List.mem_singleton]; exact n3)
     replace H7 := h5.held H7 (by simp only [List.mem_singleton]; exact n7)
     try replace Q := h5.held Q (by simp only [List.mem_singleton]; have := he.lt; omega)
     have He := He2
     clear h5 h5' He2
     refine onQ_in ⟨HE, Ht, Hd, Hl, Hb, Hf, H7⟩ ?_
     refine z_end 14 rfl (by kernel_rfl) ?_
     simp only [zgA, zgB, zgC]
     have z0 := Q.frozen 0
     have z1 := Q.frozen 1
     obtain ⟨x0, x1⟩ := Q.c2
     have lx := Q.lt
     have Q2 := held_two Q (.int .i64 Mn) (.int .i64 Md)
     have hbq2 : ∀ b, b < w.heap.size → b ≠ bq := fun b h => by omega
     have Ht' := held_oth (held_oth Ht (hbq2 _ ht.lt) 0 (.int .i64 Mn)) (hbq2 _ ht.lt) 1 (.int .i64 Md)
     have Hd' := held_oth (held_oth Hd (hbq2 _ hd.lt) 0 (.int .i64 Mn)) (hbq2 _ hd.lt) 1 (.int .i64 Md)
     have Hl' := held_oth (held_oth Hl (hbq2 _ hl.lt) 0 (.int .i64 Mn)) (hbq2 _ hl.lt) 1 (.int .i64 Md)
     have Hb' := held_oth (held_oth Hb (hbq2 _ hb.lt) 0 (.int .i64 Mn)) (hbq2 _ hb.lt) 1 (.int .i64 Md)
     have Hf' := held_oth (held_oth Hf (hbq2 _ hf.lt) 0 (.int .i64 Mn)) (hbq2 _ hf.lt) 1 (.int .i64 Md)
     have He' := held_oth (held_oth He (hbq2 _ he.lt) 0 (.int .i64 Mn)) (hbq2 _ he.lt) 1 (.int .i64 Md)
     have H7' := held_oth (held_oth H7 hb1q 0 (.int .i64 Mn)) hb1q 1 (.int .i64 Md)
     have HO2 := HO.far hwq 0 1 (.int .i64 Mn) (.int .i64 Md)
     have HE2 := (HE.setCell (p := ⟨bq, 0, none⟩) hge (.int .i64 Mn)).setCell (p := ⟨bq, 1, none⟩) hge (.int .i64 Md)
     go_wp2
     refine onQ_last ?_
     refine z_done (by kernel_rfl) ?_
     exact cut1y_is bq ⟨HE2, hwq, HO2, Ht', Hd', Hf', H7', He', Q2, hb1q⟩ rfl
   ·simp only [zgA, zgB, zgC]
    go_wp2
    obtain ⟨bq, hbq, Q, HE', hge⟩ := ex_new HE 23 #[.int .i64 0, .int .i64 0]
    rw [← hbq]
    have hb1q : b1 ≠ bq := by have := H7.lt; omega
    have hwq : w.heap.size ≤ bq := by have := HO.size; omega
    have HO' := HO.trans (Only.of_ext (S := [bd, bf, be]) ((Ext.refl _).alloc (.cells #[.int .i64 0, .int .i64 0] 23)))
    clear hbq
    replace Ht := Ht.alloc (.cells #[.int .i64 0, .int .i64 0] 23)
    replace Hd := Hd.alloc (.cells #[.int .i64 0, .int .i64 0] 23)
    replace Hl := Hl.alloc (.cells #[.int .i64 0, .int .i64 0] 23)
    replace Hb := Hb.alloc (.cells #[.int .i64 0, .int .i64 0] 23)
    replace Hf := Hf.alloc (.cells #[.int .i64 0, .int .i64 0] 23)
    replace H7 := H7.alloc (.cells #[.int .i64 0, .int .i64 0] 23)
    replace He := He.alloc (.cells #[.int .i64 0, .int .i64 0] 23)
    replace HE := HE'
    replace HO := HO'
    clear HE' HO'
    refine onQ_in ⟨HE, Ht, Hd, Hl, Hb, Hf, H7⟩ ?_
    refine z_one 9 rfl (by kernel_rfl) ?_
    simp only [zgA, zgB, zgC]
    go_wp2_with (go_at_call 11; (with_reducible refine Calls.mono (NI _ (Z.ext HE)) ?_); rintro e wc ⟨rfl, h4⟩)
    replace HO := HO.trans (Only.of_ext h4)
    replace HE := HE.trans h4
    replace Ht := Ht.ext h4
    replace Hd := Hd.ext h4
    replace Hl := Hl.ext h4
    replace Hb := Hb.ext h4
    replace Hf := Hf.ext h4
    replace H7 := H7.ext h4
    replace He := He.ext h4
    try replace Q := Q.ext h4
    clear h4
    refine onQ_in ⟨HE, Ht, Hd, Hl, Hb, Hf, H7⟩ ?_
    refine z_stills (g := 2) [10, 11] [_, _] ⟨rfl, rfl, trivial⟩ (by kernel_rfl) (by kernel_rfl) ⟨HE, Ht, Hd, Hl, Hb, Hf, H7⟩ ?_
    simp only [zgA, zgB, zgC]
    apply Exists.intro
    refine ⟨fun u hu => ?_, ?_⟩
    ·have t0 := hu.2.1.c1
     have lt := hu.2.1.lt
     obtain ⟨d0, d1, d2, d3, d4, d5⟩ := hu.2.2.1.c6
     have ld := hu.2.2.1.lt
     obtain ⟨p0, p1, p2, p3, p4, p5, p6, p7⟩ := hu.2.2.2.1.c8
     have lp := hu.2.2.2.1.lt
     obtain ⟨k0, k1⟩ := hu.2.2.2.2.1.c2
     have lk := hu.2.2.2.2.1.lt
     obtain ⟨f0, f1, f2, f3⟩ := hu.2.2.2.2.2.1.c4
     have lf := hu.2.2.2.2.2.1.lt
     obtain ⟨s0, s1, s2, s3⟩ := hu.2.2.2.2.2.2.c4
     have ls := hu.2.2.2.2.2.2.lt
     repeat (first | go_big_quiet_skip | (go_big_quiet_want; go_big_quiet_op; go_big_quiet_on))
     refine wpQuiet_nil ?_
     rfl
    refine z_one 12 rfl (by kernel_rfl) ?_
    simp only [zgA, zgB, zgC]
    go_wp2_with (first | (go_at_call 126; (with_reducible refine Calls.mono (try_any ⟨Mn, Md⟩ Me 0 be _ He) ?_); rintro e we ⟨rfl, h5, He2⟩) | (go_at_fn 126; (with_reducible refine Calls.mono (try_any ⟨Mn, Md⟩ Me 0 be _ He) ?_); rintro e we ⟨rfl, h5, He2⟩))
    try rw [if_pos rfl] at He2
    have h5' := h5.mono (T := [bd, bf, be]) (fun k hk => by rw [List.mem_singleton.1 hk]; simp)
    replace HO := HO.trans h5'
    replace HE := h5.ext HE (fun k hk => by rw [List.mem_singleton.1 hk]; exact g3)
    replace Ht := h5.held Ht (by simp only [List.mem_singleton]; exact fun e => n4 (by rw [e]; simp))
    replace Hd := h5.held Hd (by simp only [List.mem_singleton]; exact n2)
    replace Hl := h5.held Hl (by simp only [List.mem_singleton]; exact fun e => n5 (by rw [e]; simp))
    replace Hb := h5.held Hb (by simp only [List.mem_singleton]; exact fun e => n6 (by rw [e]; simp))
    replace Hf := h5.held Hf (by simp only [List.mem_singleton]; exact n3)
    replace H7 := h5.held H7 (by simp only [List.mem_singleton]; exact n7)
    try replace Q := h5.held Q (by simp only [List.mem_singleton]; have := he.lt; omega)
    have He := He2
    clear h5 h5' He2
    refine onQ_in ⟨HE, Ht, Hd, Hl, Hb, Hf, H7⟩ ?_
    refine z_end 14 rfl (by kernel_rfl) ?_
    simp only [zgA, zgB, zgC]
    have z0 := Q.frozen 0
    have z1 := Q.frozen 1
    obtain ⟨x0, x1⟩ := Q.c2
    have lx := Q.lt
    have Q2 := held_two Q (.int .i64 Mn) (.int .i64 Md)
    have hbq2 : ∀ b, b < w.heap.size → b ≠ bq := fun b h => by omega
    have Ht' := held_oth (held_oth Ht (hbq2 _ ht.lt) 0 (.int .i64 Mn)) (hbq2 _ ht.lt) 1 (.int .i64 Md)
    have Hd' := held_oth (held_oth Hd (hbq2 _ hd.lt) 0 (.int .i64 Mn)) (hbq2 _ hd.lt) 1 (.int .i64 Md)
    have Hl' := held_oth (held_oth Hl (hbq2 _ hl.lt) 0 (.int .i64 Mn)) (hbq2 _ hl.lt) 1 (.int .i64 Md)
    have Hb' := held_oth (held_oth Hb (hbq2 _ hb.lt) 0 (.int .i64 Mn)) (hbq2 _ hb.lt) 1 (.int .i64 Md)
    have Hf' := held_oth (held_oth Hf (hbq2 _ hf.lt) 0 (.int .i64 Mn)) (hbq2 _ hf.lt) 1 (.int .i64 Md)
    have He' := held_oth (held_oth He (hbq2 _ he.lt) 0 (.int .i64 Mn)) (hbq2 _ he.lt) 1 (.int .i64 Md)
    have H7' := held_oth (held_oth H7 hb1q 0 (.int .i64 Mn)) hb1q 1 (.int .i64 Md)
    have HO2 := HO.far hwq 0 1 (.int .i64 Mn) (.int .i64 Md)
    have HE2 := (HE.setCell (p := ⟨bq, 0, none⟩) hge (.int .i64 Mn)).setCell (p := ⟨bq, 1, none⟩) hge (.int .i64 Md)
    go_wp2
    refine onQ_last ?_
    refine z_done (by kernel_rfl) ?_
    exact cut1y_is bq ⟨HE2, hwq, HO2, Ht', Hd', Hf', H7', He', Q2, hb1q⟩ rfl
  ·simp only [zgA, zgB, zgC]
   go_wp2
   obtain ⟨bq, hbq, Q, HE', hge⟩ := ex_new HE 23 #[.int .i64 0, .int .i64 0]
   rw [← hbq]
   have hb1q : b1 ≠ bq := by have := H7.lt; omega
   have hwq : w.heap.size ≤ bq := by have := HO.size; omega
   have HO' := HO.trans (Only.of_ext (S := [bd, bf, be]) ((Ext.refl _).alloc (.cells #[.int .i64 0, .int .i64 0] 23)))
   clear hbq
   replace Ht := Ht.alloc (.cells #[.int .i64 0, .int .i64 0] 23)
   replace Hd := Hd.alloc (.cells #[.int .i64 0, .int .i64 0] 23)
   replace Hl := Hl.alloc (.cells #[.int .i64 0, .int .i64 0] 23)
   replace Hb := Hb.alloc (.cells #[.int .i64 0, .int .i64 0] 23)
   replace Hf := Hf.alloc (.cells #[.int .i64 0, .int .i64 0] 23)
   replace H7 := H7.alloc (.cells #[.int .i64 0, .int .i64 0] 23)
   replace He := He.alloc (.cells #[.int .i64 0, .int .i64 0] 23)
   replace HE := HE'
   replace HO := HO'
   clear HE' HO'
   refine onQ_in ⟨HE, Ht, Hd, Hl, Hb, Hf, H7⟩ ?_
   refine z_one 8 rfl (by kernel_rfl) ?_
   simp only [zgA, zgB, zgC]
   go_wp2_with (go_at_call 66; (with_reducible refine Calls.mono (bet_any A A' ca cb c fr tu _ (C.ext HE)) ?_); rintro e wa ⟨rfl, h4⟩)
   replace HO := HO.trans (Only.of_ext h4)
   replace HE := HE.trans h4
   replace Ht := Ht.ext h4
   replace Hd := Hd.ext h4
   replace Hl := Hl.ext h4
   replace Hb := Hb.ext h4
   replace Hf := Hf.ext h4
   replace H7 := H7.ext h4
   replace He := He.ext h4
   try replace Q := Q.ext h4
   clear h4
   refine onQ_in ⟨HE, Ht, Hd, Hl, Hb, Hf, H7⟩ ?_
   refine z_one 9 rfl (by kernel_rfl) ?_
   simp only [zgA, zgB, zgC]
   go_wp2_with (go_at_call 11; (with_reducible refine Calls.mono (NI _ (Z.ext HE)) ?_); rintro e wc ⟨rfl, h4⟩)
   replace HO := HO.trans (Only.of_ext h4)
   replace HE := HE.trans h4
   replace Ht := Ht.ext h4
   replace Hd := Hd.ext h4
   replace Hl := Hl.ext h4
   replace Hb := Hb.ext h4
   replace Hf := Hf.ext h4
   replace H7 := H7.ext h4
   replace He := He.ext h4
   try replace Q := Q.ext h4
   clear h4
   refine onQ_in ⟨HE, Ht, Hd, Hl, Hb, Hf, H7⟩ ?_
   refine z_stills (g := 2) [10, 11] [_, _] ⟨rfl, rfl, trivial⟩ (by kernel_rfl) (by kernel_rfl) ⟨HE, Ht, Hd, Hl, Hb, Hf, H7⟩ ?_
   simp only [zgA, zgB, zgC]
   apply Exists.intro
   refine ⟨fun u hu => ?_, ?_⟩
   ·have t0 := hu.2.1.c1
    have lt := hu.2.1.lt
    obtain ⟨d0, d1, d2, d3, d4, d5⟩ := hu.2.2.1.c6
    have ld := hu.2.2.1.lt
    obtain ⟨p0, p1, p2, p3, p4, p5, p6, p7⟩ := hu.2.2.2.1.c8
    have lp := hu.2.2.2.1.lt
    obtain ⟨k0, k1⟩ := hu.2.2.2.2.1.c2
    have lk := hu.2.2.2.2.1.lt
    obtain ⟨f0, f1, f2, f3⟩ := hu.2.2.2.2.2.1.c4
    have lf := hu.2.2.2.2.2.1.lt
    obtain ⟨s0, s1, s2, s3⟩ := hu.2.2.2.2.2.2.c4
    have ls := hu.2.2.2.2.2.2.lt
    repeat (first | go_big_quiet_skip | (go_big_quiet_want; go_big_quiet_op; go_big_quiet_on))
    refine wpQuiet_nil ?_
    rfl
   refine z_one 12 rfl (by kernel_rfl) ?_
   simp only [zgA, zgB, zgC]
   go_wp2_with (first | (go_at_call 126; (with_reducible refine Calls.mono (try_any ⟨Mn, Md⟩ Me 0 be _ He) ?_); rintro e we ⟨rfl, h5, He2⟩) | (go_at_fn 126; (with_reducible refine Calls.mono (try_any ⟨Mn, Md⟩ Me 0 be _ He) ?_); rintro e we ⟨rfl, h5, He2⟩))
   try rw [if_pos rfl] at He2
   have h5' := h5.mono (T := [bd, bf, be]) (fun k hk => by rw [List.mem_singleton.1 hk]; simp)
   replace HO := HO.trans h5'
   replace HE := h5.ext HE (fun k hk => by rw [List.mem_singleton.1 hk]; exact g3)
   replace Ht := h5.held Ht (by simp only [List.mem_singleton]; exact fun e => n4 (by rw [e]; simp))
   replace Hd := h5.held Hd (by simp only [List.mem_singleton]; exact n2)
   replace Hl := h5.held Hl (by simp only [List.mem_singleton]; exact fun e => n5 (by rw [e]; simp))
   replace Hb := h5.held Hb (by simp only [List.mem_singleton]; exact fun e => n6 (by rw [e]; simp))
   replace Hf := h5.held Hf (by simp only [List.mem_singleton]; exact n3)
   replace H7 := h5.held H7 (by simp only [List.mem_singleton]; exact n7)
   try replace Q := h5.held Q (by simp only [List.mem_singleton]; have := he.lt; omega)
   have He := He2
   clear h5 h5' He2
   refine onQ_in ⟨HE, Ht, Hd, Hl, Hb, Hf, H7⟩ ?_
   refine z_end 14 rfl (by kernel_rfl) ?_
   simp only [zgA, zgB, zgC]
   have z0 := Q.frozen 0
   have z1 := Q.frozen 1
   obtain ⟨x0, x1⟩ := Q.c2
   have lx := Q.lt
   have Q2 := held_two Q (.int .i64 Mn) (.int .i64 Md)
   have hbq2 : ∀ b, b < w.heap.size → b ≠ bq := fun b h => by omega
   have Ht' := held_oth (held_oth Ht (hbq2 _ ht.lt) 0 (.int .i64 Mn)) (hbq2 _ ht.lt) 1 (.int .i64 Md)
   have Hd' := held_oth (held_oth Hd (hbq2 _ hd.lt) 0 (.int .i64 Mn)) (hbq2 _ hd.lt) 1 (.int .i64 Md)
   have Hl' := held_oth (held_oth Hl (hbq2 _ hl.lt) 0 (.int .i64 Mn)) (hbq2 _ hl.lt) 1 (.int .i64 Md)
   have Hb' := held_oth (held_oth Hb (hbq2 _ hb.lt) 0 (.int .i64 Mn)) (hbq2 _ hb.lt) 1 (.int .i64 Md)
   have Hf' := held_oth (held_oth Hf (hbq2 _ hf.lt) 0 (.int .i64 Mn)) (hbq2 _ hf.lt) 1 (.int .i64 Md)
   have He' := held_oth (held_oth He (hbq2 _ he.lt) 0 (.int .i64 Mn)) (hbq2 _ he.lt) 1 (.int .i64 Md)
   have H7' := held_oth (held_oth H7 hb1q 0 (.int .i64 Mn)) hb1q 1 (.int .i64 Md)
   have HO2 := HO.far hwq 0 1 (.int .i64 Mn) (.int .i64 Md)
   have HE2 := (HE.setCell (p := ⟨bq, 0, none⟩) hge (.int .i64 Mn)).setCell (p := ⟨bq, 1, none⟩) hge (.int .i64 Md)
   go_wp2
   refine onQ_last ?_
   refine z_done (by kernel_rfl) ?_
   exact cut1y_is bq ⟨HE2, hwq, HO2, Ht', Hd', Hf', H7', He', Q2, hb1q⟩ rfl
 rintro b8 w3 ⟨HE3, hw8, HO3, Ht3, Hd3, Hf3, H73, He3, Q, n9⟩
 clear HE HO Ht Hd Hf He H7 Hl Hb NI
 have HE := HE3
 have HO := HO3
 have Ht := Ht3
 have Hd := Hd3
 have Hf := Hf3
 have H7 := H73
 have He := He3
 clear HE3 HO3 Ht3 Hd3 Hf3 H73 He3
 have e0 := He.c1
 have le := He.lt
 by_cases h0 : Me = 0
 ·subst h0
  have NA := fun w z => addF_any X.i ⟨Mn, Md⟩ hX.i hMi w z
  have hSi := addR_in X.i ⟨Mn, Md⟩
  have hV := HV.out
  rw [if_neg (by simp)] at hV
  generalize addR X.i ⟨Mn, Md⟩ = S at *
  obtain ⟨⟨Sn, Sd⟩, Se⟩ := S
  have hV2 : V.2 = Se ∧ (Se = 0 → V.1 = ⟨X.p, ⟨Sn, Sd⟩, X.s⟩) := by
   rw [hV]
   by_cases hs : Se = 0
   ·rw [if_neg (by simpa using hs)]; exact ⟨hs.symm, fun _ => rfl⟩
   ·rw [if_pos hs]; exact ⟨rfl, fun h => absurd h hs⟩
  replace hV2 := Lib.hid hV2
  clear HV hV
  go_upto_region 3 with (fail)
  clear e0 le
  refine wp_region_z 10 [9] (fun x => Ext v0 x ∧ Held x bt 166 #[.func (.func 126) #[] #[.pointer (some ⟨be, 0, none⟩)]] ∧ Held x bd 60 #[.int .i64 X.p.n, .int .i64 X.p.d, .int .i64 X.i.n, .int .i64 X.i.d, .int .i64 X.s.n, .int .i64 X.s.d] ∧ Held x b8 23 #[.int .i64 Mn, .int .i64 Md] ∧ True) mixed rfl ?_
  intro vz hvz
  replace HO := HO.trans (Only.of_ext hvz)
  replace HE := HE.trans hvz
  replace Ht := Ht.ext hvz
  replace Hd := Hd.ext hvz
  replace Hf := Hf.ext hvz
  replace H7 := H7.ext hvz
  replace He := He.ext hvz
  replace Q := Q.ext hvz
  clear hvz
  refine z_stills (g := 6) [0, 1, 2, 3] [_, _, _, _] ⟨rfl, rfl, rfl, rfl, trivial⟩ (by kernel_rfl) (by kernel_rfl) ⟨HE, Ht, Hd, Q, trivial⟩ ?_
  simp only [zgA, zgB, zgC]
  apply Exists.intro
  refine ⟨fun u hu => ?_, ?_⟩
  ·have t0 := hu.2.1.c1
   have lt := hu.2.1.lt
   obtain ⟨d0, d1, d2, d3, d4, d5⟩ := hu.2.2.1.c6
   have ld := hu.2.2.1.lt
   obtain ⟨r0, r1⟩ := hu.2.2.2.1.c2
   have lr := hu.2.2.2.1.lt
   repeat (first | go_big_quiet_skip | (go_big_quiet_want; go_big_quiet_op; go_big_quiet_on))
   refine wpQuiet_nil ?_
   rfl
  refine z_one 4 rfl (by kernel_rfl) ?_
  simp only [zgA, zgB, zgC]
  go_wp2_with (go_at_call 84; (with_reducible refine Calls.mono (NA _ (Z.ext HE)) ?_); rintro e wc ⟨rfl, h4⟩)
  replace HO := HO.trans (Only.of_ext h4)
  replace HE := HE.trans h4
  replace Ht := Ht.ext h4
  replace Hd := Hd.ext h4
  replace Hf := Hf.ext h4
  replace H7 := H7.ext h4
  replace He := He.ext h4
  replace Q := Q.ext h4
  clear h4
  refine onQ_in ⟨HE, Ht, Hd, Q, trivial⟩ ?_
  refine z_stills (g := 3) [5, 6] [_, _] ⟨rfl, rfl, trivial⟩ (by kernel_rfl) (by kernel_rfl) ⟨HE, Ht, Hd, Q, trivial⟩ ?_
  simp only [zgA, zgB, zgC]
  apply Exists.intro
  refine ⟨fun u hu => ?_, ?_⟩
  ·have t0 := hu.2.1.c1
   have lt := hu.2.1.lt
   obtain ⟨d0, d1, d2, d3, d4, d5⟩ := hu.2.2.1.c6
   have ld := hu.2.2.1.lt
   obtain ⟨r0, r1⟩ := hu.2.2.2.1.c2
   have lr := hu.2.2.2.1.lt
   repeat (first | go_big_quiet_skip | (go_big_quiet_want; go_big_quiet_op; go_big_quiet_on))
   refine wpQuiet_nil ?_
   rfl
  refine z_one 7 rfl (by kernel_rfl) ?_
  simp only [zgA, zgB, zgC]
  go_wp2_with (first | (go_at_call 126; (with_reducible refine Calls.mono (try_any ⟨Sn, Sd⟩ Se 0 be _ He) ?_); rintro e we ⟨rfl, h5, He2⟩) | (go_at_fn 126; (with_reducible refine Calls.mono (try_any ⟨Sn, Sd⟩ Se 0 be _ He) ?_); rintro e we ⟨rfl, h5, He2⟩))
  try rw [if_pos rfl] at He2
  have h5' := h5.mono (T := [bd, bf, be]) (fun k hk => by rw [List.mem_singleton.1 hk]; simp)
  replace HO := HO.trans h5'
  replace HE := h5.ext HE (fun k hk => by rw [List.mem_singleton.1 hk]; exact g3)
  replace Ht := h5.held Ht (by simp only [List.mem_singleton]; exact fun e => n4 (by rw [e]; simp))
  replace Hd := h5.held Hd (by simp only [List.mem_singleton]; exact n2)
  replace Hf := h5.held Hf (by simp only [List.mem_singleton]; exact n3)
  replace H7 := h5.held H7 (by simp only [List.mem_singleton]; exact n7)
  replace Q := h5.held Q (by simp only [List.mem_singleton]; have := he.lt; omega)
  have He := He2
  clear h5 h5' He2
  refine onQ_in ⟨HE, Ht, Hd, Q, trivial⟩ ?_
  refine z_stills (g := 1) [8] [_] ⟨rfl, trivial⟩ (by kernel_rfl) (by kernel_rfl) ⟨HE, Ht, Hd, Q, trivial⟩ ?_
  simp only [zgA, zgB, zgC]
  apply Exists.intro
  refine ⟨fun u hu => ?_, ?_⟩
  ·have t0 := hu.2.1.c1
   have lt := hu.2.1.lt
   obtain ⟨d0, d1, d2, d3, d4, d5⟩ := hu.2.2.1.c6
   have ld := hu.2.2.1.lt
   obtain ⟨r0, r1⟩ := hu.2.2.2.1.c2
   have lr := hu.2.2.2.1.lt
   repeat (first | go_big_quiet_skip | (go_big_quiet_want; go_big_quiet_op; go_big_quiet_on))
   refine wpQuiet_nil ?_
   rfl
  refine z_end 9 rfl (by kernel_rfl) ?_
  simp only [zgA, zgB, zgC]
  have z2 := Hd.frozen 2
  have z3 := Hd.frozen 3
  obtain ⟨x0, x1, x2, x3, x4, x5⟩ := Hd.c6
  have lx := Hd.lt
  have Hd2 := held6_2 Hd (.int .i64 Sn) (.int .i64 Sd)
  have Hf := held_oth (held_oth Hf (Ne.symm n1) 2 (.int .i64 Sn)) (Ne.symm n1) 3 (.int .i64 Sd)
  have He := held_oth (held_oth He (Ne.symm n2) 2 (.int .i64 Sn)) (Ne.symm n2) 3 (.int .i64 Sd)
  have H7 := held_oth (held_oth H7 (n8) 2 (.int .i64 Sn)) (n8) 3 (.int .i64 Sd)
  have HO := (HO.trans (Only.set _ (by simp : bd ∈ [bd, bf, be]) 2 (.int .i64 Sn))).trans (Only.set _ (by simp : bd ∈ [bd, bf, be]) 3 (.int .i64 Sd))
  go_wp2
  refine onQ_last ?_
  refine z_done (by kernel_rfl) ?_
  have Hd := Hd2
  generalize World.setCell _ _ _ = wq at *
  clear z2 z3 x0 x1 x2 x3 x4 x5 lx
  have YY : ∃ Y : Db, Y.In ∧ Held (World.setCell (World.setCell (World.setCell (World.setCell wq ⟨bf, 0, none⟩ (.int .i64 tu.y)) ⟨bf, 1, none⟩ (.int .i64 tu.m)) ⟨bf, 2, none⟩ (.bool tu.s)) ⟨bf, 3, none⟩ (.int .i64 tu.d)) bd 60 #[.int .i64 Y.p.n, .int .i64 Y.p.d, .int .i64 Y.i.n, .int .i64 Y.i.d, .int .i64 Y.s.n, .int .i64 Y.s.d] ∧ (V.2 = 0 → Y = V.1) :=
   ⟨⟨X.p, ⟨Sn, Sd⟩, X.s⟩, ⟨hX.p, hSi, hX.s⟩, held_oth (held_oth (held_oth (held_oth Hd n1 0 (.int .i64 tu.y)) n1 1 (.int .i64 tu.m)) n1 2 (.bool tu.s)) n1 3 (.int .i64 tu.d), fun h => (hV2.out.2 (hV2.out.1.symm.trans h)).symm⟩
  have hVe := Lib.hid hV2.out.1
  obtain ⟨s0, s1, s2, s3⟩ := H7.c4
  have ls := H7.lt
  obtain ⟨f0, f1, f2, f3⟩ := Hf.c4
  have lf := Hf.lt
  have z0 := Hf.frozen 0
  have z1 := Hf.frozen 1
  have z2 := Hf.frozen 2
  have z3 := Hf.frozen 3
  have Hf2 := held4 Hf (.int .i64 tu.y) (.int .i64 tu.m) (.bool tu.s) (.int .i64 tu.d)
  have He2 := held_oth (held_oth (held_oth (held_oth He (Ne.symm n3) 0 (.int .i64 tu.y)) (Ne.symm n3) 1 (.int .i64 tu.m)) (Ne.symm n3) 2 (.bool tu.s)) (Ne.symm n3) 3 (.int .i64 tu.d)
  have Hd2 := held_oth (held_oth (held_oth (held_oth Hd n1 0 (.int .i64 tu.y)) n1 1 (.int .i64 tu.m)) n1 2 (.bool tu.s)) n1 3 (.int .i64 tu.d)
  have OF := (((HO.trans (Only.set _ (by simp : bf ∈ [bd, bf, be]) 0 (.int .i64 tu.y))).trans (Only.set _ (by simp : bf ∈ [bd, bf, be]) 1 (.int .i64 tu.m))).trans (Only.set _ (by simp : bf ∈ [bd, bf, be]) 2 (.bool tu.s))).trans (Only.set _ (by simp : bf ∈ [bd, bf, be]) 3 (.int .i64 tu.d))
  go_wp2
  (try simp only [Exit.inBlock, Exit.then])
  refine bodyPost_end (results_none rfl _ _ _) rfl ⟨rfl, OF, Hf2, by rw [hVe.out]; exact He2, YY⟩
 ·have g0 : (Me == 0) = false := beq_eq_false_iff_ne.2 h0
  have hV := HV.out
  rw [if_pos h0] at hV
  have YY : ∃ Y : Db, Y.In ∧ Held (World.setCell (World.setCell (World.setCell (World.setCell w3 ⟨bf, 0, none⟩ (.int .i64 tu.y)) ⟨bf, 1, none⟩ (.int .i64 tu.m)) ⟨bf, 2, none⟩ (.bool tu.s)) ⟨bf, 3, none⟩ (.int .i64 tu.d)) bd 60 #[.int .i64 Y.p.n, .int .i64 Y.p.d, .int .i64 Y.i.n, .int .i64 Y.i.d, .int .i64 Y.s.n, .int .i64 Y.s.d] ∧ (V.2 = 0 → Y = V.1) :=
   ⟨X, hX, held_oth (held_oth (held_oth (held_oth Hd n1 0 (.int .i64 tu.y)) n1 1 (.int .i64 tu.m)) n1 2 (.bool tu.s)) n1 3 (.int .i64 tu.d), fun h => by rw [hV]⟩
  have hVe : V.2 = Me := by rw [hV]
  clear HV hV h0
  replace hVe := Lib.hid hVe
  obtain ⟨s0, s1, s2, s3⟩ := H7.c4
  have ls := H7.lt
  obtain ⟨f0, f1, f2, f3⟩ := Hf.c4
  have lf := Hf.lt
  have z0 := Hf.frozen 0
  have z1 := Hf.frozen 1
  have z2 := Hf.frozen 2
  have z3 := Hf.frozen 3
  have Hf2 := held4 Hf (.int .i64 tu.y) (.int .i64 tu.m) (.bool tu.s) (.int .i64 tu.d)
  have He2 := held_oth (held_oth (held_oth (held_oth He (Ne.symm n3) 0 (.int .i64 tu.y)) (Ne.symm n3) 1 (.int .i64 tu.m)) (Ne.symm n3) 2 (.bool tu.s)) (Ne.symm n3) 3 (.int .i64 tu.d)
  have Hd2 := held_oth (held_oth (held_oth (held_oth Hd n1 0 (.int .i64 tu.y)) n1 1 (.int .i64 tu.m)) n1 2 (.bool tu.s)) n1 3 (.int .i64 tu.d)
  have OF := (((HO.trans (Only.set _ (by simp : bf ∈ [bd, bf, be]) 0 (.int .i64 tu.y))).trans (Only.set _ (by simp : bf ∈ [bd, bf, be]) 1 (.int .i64 tu.m))).trans (Only.set _ (by simp : bf ∈ [bd, bf, be]) 2 (.bool tu.s))).trans (Only.set _ (by simp : bf ∈ [bd, bf, be]) 3 (.int .i64 tu.d))
  go_wp2
  (try simp only [Exit.inBlock, Exit.then])
  refine bodyPost_end (results_none rfl _ _ _) rfl ⟨rfl, OF, Hf2, by rw [hVe.out]; exact He2, YY⟩
end Go.Proofs.YthmjpbafbohelaaGreatDoor
namespace Go.Proofs.YthmjpbafbohelaaGreatDoor
def nrm (v : Db × Int) : Db × Int := if v.2 ≠ 0 then (db0, v.2) else v
def runK (c : Cal) (r : Rt) (f : Nat → Pay) (on : Dt) (i m : Nat) (x : Db) (a : Dt) : Db × Int := nrm (owedRun c r f on i m x a)
def rest2 (c : Cal) (r : Rt) (f : Nat → Pay) (on : Dt) (i m : Nat) (x : Db) (lf : Rt) : Db × Int := if (addR x.s lf).2 ≠ 0 then (db0, (addR x.s lf).2) else runK c r f on (i + 1) m ⟨x.p, x.i, (addR x.s lf).1⟩ (f i).on
def rest1 (c : Cal) (r : Rt) (f : Nat → Pay) (on : Dt) (i m : Nat) (x : Db) (lf : Rt) : Db × Int := if (payV x.p lf).2 ≠ 0 then (db0, (payV x.p lf).2) else rest2 c r f on i m ⟨(payV x.p lf).1.1, x.i, x.s⟩ (payV x.p lf).1.2
def rest0 (c : Cal) (r : Rt) (f : Nat → Pay) (on : Dt) (i m : Nat) (x : Db) (lf : Rt) : Db × Int := if (payV x.i lf).2 ≠ 0 then (db0, (payV x.i lf).2) else rest1 c r f on i m ⟨x.p, (payV x.i lf).1.1, x.s⟩ (payV x.i lf).1.2
theorem runK_zero (c : Cal) (r : Rt) (f : Nat → Pay) (on : Dt) (i : Nat) (x : Db) (a : Dt) : runK c r f on i 0 x a = nrm (accV c r x a on) := rfl
theorem nrm_err {v : Db × Int} (h : v.2 ≠ 0) : nrm v = (db0, v.2) := by unfold nrm; rw [if_pos h]
theorem nrm_ok {v : Db × Int} (h : v.2 = 0) : nrm v = v := by unfold nrm; rw [if_neg (by simpa using h)]
theorem runK_stop {c : Cal} {r : Rt} {f : Nat → Pay} {on : Dt} {i m : Nat} {x : Db} {a : Dt} (h : c.numV on < c.numV (f i).on) : runK c r f on i (m + 1) x a = nrm (accV c r x a on) := by
 unfold runK; rw [owedRun, if_pos h]
theorem runK_err {c : Cal} {r : Rt} {f : Nat → Pay} {on : Dt} {i m : Nat} {x : Db} {a : Dt} (h : ¬ c.numV on < c.numV (f i).on) (h2 : (accV c r x a (f i).on).2 ≠ 0) : runK c r f on i (m + 1) x a = (db0, (accV c r x a (f i).on).2) := by
 unfold runK; rw [owedRun, if_neg h, if_pos h2]; exact nrm_err h2
theorem runK_go {c : Cal} {r : Rt} {f : Nat → Pay} {on : Dt} {i m : Nat} {x : Db} {a : Dt} (h : ¬ c.numV on < c.numV (f i).on) (h2 : (accV c r x a (f i).on).2 = 0) : runK c r f on i (m + 1) x a = rest0 c r f on i m (accV c r x a (f i).on).1 (f i).n := by
 unfold runK
 rw [owedRun, if_neg h, if_neg (by simpa using h2)]
 generalize (accV c r x a (f i).on).1 = X
 generalize (f i).n = n
 unfold paidV rest0 rest1 rest2 runK
 by_cases e1 : (payV X.i n).2 ≠ 0
 ·rw [if_pos e1, if_pos e1, if_pos e1]; exact nrm_err e1
 ·rw [if_neg e1, if_neg e1]
  simp only
  by_cases e2 : (payV X.p (payV X.i n).1.2).2 ≠ 0
  ·rw [if_pos e2, if_pos e2, if_pos e2]; exact nrm_err e2
  ·rw [if_neg e2, if_neg e2]
   by_cases e3 : (addR X.s (payV X.p (payV X.i n).1.2).1.2).2 ≠ 0
   ·rw [if_pos e3, if_pos e3, if_pos e3]; exact nrm_err e3
   ·rw [if_neg e3, if_neg e3]
    simp
theorem owedV_run {c : Cal} {l : Ln} {f : Nat → Pay} {n : Nat} {on : Dt} (h1 : c.loanE l f n = 0) (h2 : c.numV on ≠ 0) (h3 : ¬ c.numV on < c.numV l.f) : c.owedV l f n on = runK c l.r f on 0 n (start l) l.f := by
 unfold Cal.owedV runK nrm
 rw [if_neg (by rw [h1]; decide), if_neg h2, if_neg h3]
 by_cases e : (owedRun c l.r f on 0 n (start l) l.f).2 ≠ 0
 ·rw [if_pos e, if_pos e]
 ·rw [if_neg e, if_neg e]
  have e' := Decidable.not_not.1 e
  exact Prod.ext rfl e'.symm
end Go.Proofs.YthmjpbafbohelaaGreatDoor
namespace Go.Proofs.YthmjpbafbohelaaGreatDoor
open Go Go.RowKit Go.Shelf
attribute [local go_sem] gv_yes
section
variable {W w : World} {b : Nat} {t : TypeId} {v0 v1 v2 v3 v4 v5 : Value}
theorem held6_all (h : Held W b t #[v0, v1, v2, v3, v4, v5]) (u0 u1 u2 u3 u4 u5 : Value) : Held ((((((W.setCell ⟨b, 0, none⟩ u0).setCell ⟨b, 1, none⟩ u1).setCell ⟨b, 2, none⟩ u2).setCell ⟨b, 3, none⟩ u3).setCell ⟨b, 4, none⟩ u4).setCell ⟨b, 5, none⟩ u5) b t #[u0, u1, u2, u3, u4, u5] := by unfold Held at h ⊢; simp [World.setCell, Array.getElem?_modify, h]
theorem ext6 (h : Ext w W) (hb : w.heap.size ≤ b) (u0 u1 u2 u3 u4 u5 : Value) : Ext w ((((((W.setCell ⟨b, 0, none⟩ u0).setCell ⟨b, 1, none⟩ u1).setCell ⟨b, 2, none⟩ u2).setCell ⟨b, 3, none⟩ u3).setCell ⟨b, 4, none⟩ u4).setCell ⟨b, 5, none⟩ u5) :=
 (((((h.setCell (p := ⟨b, 0, none⟩) hb u0).setCell (p := ⟨b, 1, none⟩) hb u1).setCell (p := ⟨b, 2, none⟩) hb u2).setCell (p := ⟨b, 3, none⟩) hb u3).setCell (p := ⟨b, 4, none⟩) hb u4).setCell (p := ⟨b, 5, none⟩) hb u5
theorem oth6 {b' : Nat} {cs : Array Value} (h : Held W b t cs) (hne : b ≠ b') (u0 u1 u2 u3 u4 u5 : Value) : Held ((((((W.setCell ⟨b', 0, none⟩ u0).setCell ⟨b', 1, none⟩ u1).setCell ⟨b', 2, none⟩ u2).setCell ⟨b', 3, none⟩ u3).setCell ⟨b', 4, none⟩ u4).setCell ⟨b', 5, none⟩ u5) b t cs :=
 held_oth (held_oth (held_oth (held_oth (held_oth (held_oth h hne 0 u0) hne 1 u1) hne 2 u2) hne 3 u3) hne 4 u4) hne 5 u5
end
structure HeldS (W : World) (b : Nat) (t : TypeId) (cs : Array Value) : Prop where
 out : Held W b t cs
def cut0 (A : Act) (S : World → Prop) : Exit → Act → World → Prop := fun e a' w' => e = .normal ∧ S w' ∧ a' = A
theorem wp_cut0 {P : Program} {c : Code} {Q : Exit → Act → World → Prop} {a : Act} {w : World} {A : Act} (S : World → Prop) (h1 : c.wp P (cut0 A S) a w) (h2 : ∀ w', S w' → Q .normal A w') : c.wp P Q a w :=
 Code.wp_mono (fun e a' w' ⟨he, hs, ha⟩ => by subst he; subst ha; exact h2 w' hs) h1
def restJ (c : Cal) (r : Rt) (f : Nat → Pay) (on : Dt) (k m : Nat) : Nat → Db → Rt → Db × Int
 | 0, X, lf => rest0 c r f on k m X lf
 | 1, X, lf => rest1 c r f on k m X lf
 | _, X, lf => rest2 c r f on k m X lf
theorem owed_any (A A' : Option Addr) (ca cb : Nat) (c : Cal) (B : Option Addr) (n cap : Nat) (l : Ln) (f : Nat → Pay) (hp : l.p.In) (hr : l.r.In) (hin : ∀ i, i < n → (f i).n.In) (w : World) (hC : CalAt w A ca A' cb c) (hB : RowsAt w B n 6 (payr f)) (hn : n ≤ 9223372036854775807) (hZ : Zro w) (on : Dt) :
  Calls Tryz.prog 79 #[.agg #[.slice A c.nk ca, .slice A' c.ny cb], .agg #[.int .i64 l.p.n, .int .i64 l.p.d, .int .i64 l.r.n, .int .i64 l.r.d, .int .i64 l.f.y, .int .i64 l.f.m, .bool l.f.s, .int .i64 l.f.d], .slice B n cap, .agg #[.int .i64 on.y, .int .i64 on.m, .bool on.s, .int .i64 on.d]] w fun e w' => e = .returned (.tuple #[.agg #[.int .i64 (runK c l.r f on 0 n (start l) l.f).1.p.n, .int .i64 (runK c l.r f on 0 n (start l) l.f).1.p.d, .int .i64 (runK c l.r f on 0 n (start l) l.f).1.i.n, .int .i64 (runK c l.r f on 0 n (start l) l.f).1.i.d, .int .i64 (runK c l.r f on 0 n (start l) l.f).1.s.n, .int .i64 (runK c l.r f on 0 n (start l) l.f).1.s.d], .int .i64 (runK c l.r f on 0 n (start l) l.f).2]) ∧ Ext w w' := by
 obtain ⟨V, hV0⟩ := zgE (runK c l.r f on 0 n (start l) l.f)
 rw [← hV0]
 replace hV0 := Lib.hid hV0
 go_enter Tryz.func79, Tryz.ntmps79
 go_upto_region 1 with (fail)
 obtain ⟨v, hv⟩ := zgE ((((w.alloc (.cells #[.slice A c.nk ca, .slice A' c.ny cb] 108)).alloc (.cells #[.int .i64 l.p.n, .int .i64 l.p.d, .int .i64 l.r.n, .int .i64 l.r.d, .int .i64 l.f.y, .int .i64 l.f.m, .bool l.f.s, .int .i64 l.f.d] 54)).alloc (.cells #[.int .i64 on.y, .int .i64 on.m, .bool on.s, .int .i64 on.d] 37)).alloc (.cells #[.int .i64 0, .int .i64 0, .int .i64 0, .int .i64 0, .int .i64 0, .int .i64 0] 60))
 rw [← hv]
 have E : Ext w v := by rw [hv]; exact ((((Ext.refl _).alloc _).alloc _).alloc _).alloc _
 have B1 : Held v w.heap.size 108 #[.slice A c.nk ca, .slice A' c.ny cb] := by rw [hv]; exact (((Held.new _ _ _).alloc _).alloc _).alloc _
 have B2 : Held v (w.heap.size + 1) 54 #[.int .i64 l.p.n, .int .i64 l.p.d, .int .i64 l.r.n, .int .i64 l.r.d, .int .i64 l.f.y, .int .i64 l.f.m, .bool l.f.s, .int .i64 l.f.d] := by rw [hv]; exact ((Held.at _ _ _ _ (by simp)).alloc _).alloc _
 have B3 : Held v (w.heap.size + 1 + 1) 37 #[.int .i64 on.y, .int .i64 on.m, .bool on.s, .int .i64 on.d] := by rw [hv]; exact (Held.at _ _ _ _ (by simp)).alloc _
 have B4 : Held v (w.heap.size + 1 + 1 + 1) 60 #[.int .i64 0, .int .i64 0, .int .i64 0, .int .i64 0, .int .i64 0, .int .i64 0] := by rw [hv]; exact Held.at _ _ _ _ (by simp)
 clear hv
 obtain ⟨b4, hb4⟩ := zgE (w.heap.size + 1 + 1 + 1)
 rw [← hb4] at B4 ⊢
 obtain ⟨b3, hb3⟩ := zgE (w.heap.size + 1 + 1)
 rw [← hb3] at B3 ⊢
 obtain ⟨b2, hb2⟩ := zgE (w.heap.size + 1)
 rw [← hb2] at B2 ⊢
 obtain ⟨b1, hb1⟩ := zgE (w.heap.size)
 rw [← hb1] at B1 ⊢
 have hbr : w.heap.size ≤ b4 := by omega
 have hbr1 : w.heap.size ≤ b1 := by omega
 have hbr2 : w.heap.size ≤ b2 := by omega
 have hbr3 : w.heap.size ≤ b3 := by omega
 have hn21 : b2 ≠ b1 := by omega
 have hn31 : b3 ≠ b1 := by omega
 have hn32 : b3 ≠ b2 := by omega
 have hn41 : b4 ≠ b1 := by omega
 have hn42 : b4 ≠ b2 := by omega
 have hn43 : b4 ≠ b3 := by omega
 clear hb1 hb2 hb3 hb4
 have C := hC.ext E
 have RB := hB.ext E
 have Z0 := hZ.ext E
 clear hC hB hZ
 have hv4 := B4.lt
 apply wp_cut1y (S := fun w' b => Ext v w' ∧ v.heap.size ≤ b ∧ Held w' b 60 #[.int .i64 l.p.n, .int .i64 l.p.d, .int .i64 0, .int .i64 1, .int .i64 0, .int .i64 1])
 ·refine wp_region_z 7 [6] (fun x => Ext v x) mixed rfl ?_
  intro vz hvz
  have HC := hvz
  refine z_stills (g := 5) [0, 1] [_, _] ⟨rfl, rfl, trivial⟩ (by kernel_rfl) (by kernel_rfl) HC ?_
  simp only [zgA, zgB, zgC]
  apply Exists.intro
  refine ⟨fun u hu => ?_, ?_⟩
  ·obtain ⟨p0, p1, p2, p3, p4, p5, p6, p7⟩ := (B2.ext hu).c8
   have lp := (B2.ext hu).lt
   repeat (first | go_big_quiet_skip | (go_big_quiet_want; go_big_quiet_op; go_big_quiet_on))
   refine wpQuiet_nil ?_
   rfl
  refine z_two 2 5 rfl rfl (by kernel_rfl) ?_ ?_
  ·simp only [zgA, zgB, zgC]
   go_wp2_with (go_at_call 50; (with_reducible refine Calls.mono (whole_any _ _) ?_); rintro e wa ⟨rfl, h4⟩)
   replace HC := HC.trans h4
   try replace Q := Q.ext h4
   clear h4
   refine onQ_in HC ?_
   refine z_two 3 5 rfl rfl (by kernel_rfl) ?_ ?_
   ·simp only [zgA, zgB, zgC]
    go_wp2_with (go_at_call 50; (with_reducible refine Calls.mono (whole_any _ _) ?_); rintro e wa ⟨rfl, h4⟩)
    replace HC := HC.trans h4
    try replace Q := Q.ext h4
    clear h4
    refine onQ_in HC ?_
    refine z_stills (g := 2) [4] [_] ⟨rfl, trivial⟩ (by kernel_rfl) (by kernel_rfl) HC ?_
    simp only [zgA, zgB, zgC]
    apply Exists.intro
    refine ⟨fun u hu => ?_, ?_⟩
    ·obtain ⟨p0, p1, p2, p3, p4, p5, p6, p7⟩ := (B2.ext hu).c8
     have lp := (B2.ext hu).lt
     repeat (first | go_big_quiet_skip | (go_big_quiet_want; go_big_quiet_op; go_big_quiet_on))
     refine wpQuiet_nil ?_
     rfl
    refine z_one 5 rfl (by kernel_rfl) ?_
    simp only [zgA, zgB, zgC]
    go_wp2
    obtain ⟨bq, hbq, Q, HC', hge⟩ := ex_new HC 60 #[.int .i64 0, .int .i64 0, .int .i64 0, .int .i64 0, .int .i64 0, .int .i64 0]
    rw [← hbq]
    clear hbq
    replace HC := HC'
    clear HC'
    refine onQ_in HC ?_
    refine z_end 6 rfl (by kernel_rfl) ?_
    simp only [zgA, zgB, zgC]
    have z0 := Q.frozen 0
    have z1 := Q.frozen 1
    have z2 := Q.frozen 2
    have z3 := Q.frozen 3
    have z4 := Q.frozen 4
    have z5 := Q.frozen 5
    obtain ⟨x0, x1, x2, x3, x4, x5⟩ := Q.c6
    have lx := Q.lt
    have Q2 := held6_all Q (.int .i64 l.p.n) (.int .i64 l.p.d) (.int .i64 0) (.int .i64 1) (.int .i64 0) (.int .i64 1)
    have HE2 := ext6 HC hge (.int .i64 l.p.n) (.int .i64 l.p.d) (.int .i64 0) (.int .i64 1) (.int .i64 0) (.int .i64 1)
    go_wp2
    refine onQ_last ?_
    refine z_done (by kernel_rfl) ?_
    exact cut1y_is bq ⟨HE2, hge, Q2⟩ rfl
   ·simp only [zgA, zgB, zgC]
    go_wp2
    obtain ⟨bq, hbq, Q, HC', hge⟩ := ex_new HC 60 #[.int .i64 0, .int .i64 0, .int .i64 0, .int .i64 0, .int .i64 0, .int .i64 0]
    rw [← hbq]
    clear hbq
    replace HC := HC'
    clear HC'
    refine onQ_in HC ?_
    refine z_one 3 rfl (by kernel_rfl) ?_
    simp only [zgA, zgB, zgC]
    go_wp2_with (go_at_call 50; (with_reducible refine Calls.mono (whole_any _ _) ?_); rintro e wa ⟨rfl, h4⟩)
    replace HC := HC.trans h4
    try replace Q := Q.ext h4
    clear h4
    refine onQ_in HC ?_
    refine z_stills (g := 1) [4] [_] ⟨rfl, trivial⟩ (by kernel_rfl) (by kernel_rfl) HC ?_
    simp only [zgA, zgB, zgC]
    apply Exists.intro
    refine ⟨fun u hu => ?_, ?_⟩
    ·obtain ⟨p0, p1, p2, p3, p4, p5, p6, p7⟩ := (B2.ext hu).c8
     have lp := (B2.ext hu).lt
     repeat (first | go_big_quiet_skip | (go_big_quiet_want; go_big_quiet_op; go_big_quiet_on))
     refine wpQuiet_nil ?_
     rfl
    refine z_end 6 rfl (by kernel_rfl) ?_
    simp only [zgA, zgB, zgC]
    have z0 := Q.frozen 0
    have z1 := Q.frozen 1
    have z2 := Q.frozen 2
    have z3 := Q.frozen 3
    have z4 := Q.frozen 4
    have z5 := Q.frozen 5
    obtain ⟨x0, x1, x2, x3, x4, x5⟩ := Q.c6
    have lx := Q.lt
    have Q2 := held6_all Q (.int .i64 l.p.n) (.int .i64 l.p.d) (.int .i64 0) (.int .i64 1) (.int .i64 0) (.int .i64 1)
    have HE2 := ext6 HC hge (.int .i64 l.p.n) (.int .i64 l.p.d) (.int .i64 0) (.int .i64 1) (.int .i64 0) (.int .i64 1)
    go_wp2
    refine onQ_last ?_
    refine z_done (by kernel_rfl) ?_
    exact cut1y_is bq ⟨HE2, hge, Q2⟩ rfl
  ·simp only [zgA, zgB, zgC]
   go_wp2
   obtain ⟨bq, hbq, Q, HC', hge⟩ := ex_new HC 60 #[.int .i64 0, .int .i64 0, .int .i64 0, .int .i64 0, .int .i64 0, .int .i64 0]
   rw [← hbq]
   clear hbq
   replace HC := HC'
   clear HC'
   refine onQ_in HC ?_
   refine z_one 2 rfl (by kernel_rfl) ?_
   simp only [zgA, zgB, zgC]
   go_wp2_with (go_at_call 50; (with_reducible refine Calls.mono (whole_any _ _) ?_); rintro e wa ⟨rfl, h4⟩)
   replace HC := HC.trans h4
   try replace Q := Q.ext h4
   clear h4
   refine onQ_in HC ?_
   refine z_one 3 rfl (by kernel_rfl) ?_
   simp only [zgA, zgB, zgC]
   go_wp2_with (go_at_call 50; (with_reducible refine Calls.mono (whole_any _ _) ?_); rintro e wa ⟨rfl, h4⟩)
   replace HC := HC.trans h4
   try replace Q := Q.ext h4
   clear h4
   refine onQ_in HC ?_
   refine z_stills (g := 1) [4] [_] ⟨rfl, trivial⟩ (by kernel_rfl) (by kernel_rfl) HC ?_
   simp only [zgA, zgB, zgC]
   apply Exists.intro
   refine ⟨fun u hu => ?_, ?_⟩
   ·obtain ⟨p0, p1, p2, p3, p4, p5, p6, p7⟩ := (B2.ext hu).c8
    have lp := (B2.ext hu).lt
    repeat (first | go_big_quiet_skip | (go_big_quiet_want; go_big_quiet_op; go_big_quiet_on))
    refine wpQuiet_nil ?_
    rfl
   refine z_end 6 rfl (by kernel_rfl) ?_
   simp only [zgA, zgB, zgC]
   have z0 := Q.frozen 0
   have z1 := Q.frozen 1
   have z2 := Q.frozen 2
   have z3 := Q.frozen 3
   have z4 := Q.frozen 4
   have z5 := Q.frozen 5
   obtain ⟨x0, x1, x2, x3, x4, x5⟩ := Q.c6
   have lx := Q.lt
   have Q2 := held6_all Q (.int .i64 l.p.n) (.int .i64 l.p.d) (.int .i64 0) (.int .i64 1) (.int .i64 0) (.int .i64 1)
   have HE2 := ext6 HC hge (.int .i64 l.p.n) (.int .i64 l.p.d) (.int .i64 0) (.int .i64 1) (.int .i64 0) (.int .i64 1)
   go_wp2
   refine onQ_last ?_
   refine z_done (by kernel_rfl) ?_
   exact cut1y_is bq ⟨HE2, hge, Q2⟩ rfl
 rintro bd w1 ⟨HE, gd, Hd⟩
 obtain ⟨p0, p1, p2, p3, p4, p5, p6, p7⟩ := (B2.ext HE).c8
 have lp := (B2.ext HE).lt
 go_upto_region 6 with (fail)
 obtain ⟨w2, hw2⟩ := zgE (((w1.alloc (.cells #[.int .i64 l.f.y, .int .i64 l.f.m, .bool l.f.s, .int .i64 l.f.d] 37)).alloc (.cells #[.int .i64 0] 24)).alloc (.cells #[.func (.func 126) #[] #[.pointer (some ⟨w1.heap.size + 1, 0, none⟩)]] 166))
 rw [← hw2]
 have h12 : Ext w1 w2 := by rw [hw2]; exact (((Ext.refl _).alloc _).alloc _).alloc _
 have Hf : Held w2 w1.heap.size 37 #[.int .i64 l.f.y, .int .i64 l.f.m, .bool l.f.s, .int .i64 l.f.d] := by rw [hw2]; exact ((Held.new _ _ _).alloc _).alloc _
 have He : Held w2 (w1.heap.size + 1) 24 #[.int .i64 0] := by rw [hw2]; exact (Held.at _ _ _ _ (by simp)).alloc _
 have Ht : Held w2 (w1.heap.size + 1 + 1) 166 #[.func (.func 126) #[] #[.pointer (some ⟨w1.heap.size + 1, 0, none⟩)]] := by rw [hw2]; exact Held.at _ _ _ _ (by simp)
 clear hw2 p0 p1 p2 p3 p4 p5 p6 p7 lp
 have hw1 := HE.size
 have hdw := Hd.lt
 replace Hd := Hd.ext h12
 replace HE := HE.trans h12
 clear h12
 obtain ⟨bt, hbt⟩ := zgE (w1.heap.size + 1 + 1)
 rw [← hbt] at Ht ⊢
 obtain ⟨be, hbe⟩ := zgE (w1.heap.size + 1)
 rw [← hbe] at Ht He ⊢
 obtain ⟨bf, hbf⟩ := zgE (w1.heap.size)
 rw [← hbf] at Hf ⊢
 have g2 : v.heap.size ≤ bf := by omega
 have g3 : v.heap.size ≤ be := by omega
 have n1 : bd ≠ bf := by omega
 have n2 : bd ≠ be := by omega
 have n3 : bf ≠ be := by omega
 have n4 : bt ∉ [bd, bf, be] := by simp; omega
 have hb1v := B1.lt
 have hb2v := B2.lt
 have n5 : b2 ∉ [bd, bf, be] := by simp; omega
 have n6 : b1 ∉ [bd, bf, be] := by simp; omega
 have hbe4 : be ≠ b4 := by omega
 have ntd : bt ≠ bd := by omega
 have gS : ∀ k, k ∈ [bd, bf, be] → v.heap.size ≤ k := fun k hk => by simp at hk; omega
 clear hbt hbe hbf hw1 hdw
 replace gS := Lib.hid gS
 replace n4 := Lib.hid n4
 replace n5 := Lib.hid n5
 replace n6 := Lib.hid n6
 obtain ⟨k0, k1⟩ := (B1.ext HE).c2
 have lk := (B1.ext HE).lt
 obtain ⟨o0, o1, o2, o3⟩ := (B3.ext HE).c4
 have lo := (B3.ext HE).lt
 have ND := fun d w h => day_any A A' ca cb c d w h
 go_upto_region 8 with (go_at_call 78; (with_reducible refine Calls.mono (ND on _ (C.ext HE)) ?_); rintro e w3 ⟨rfl, h4⟩)
 replace HE := HE.trans h4
 replace Hd := Hd.ext h4
 replace Hf := Hf.ext h4
 replace He := He.ext h4
 replace Ht := Ht.ext h4
 clear h4 k0 k1 lk o0 o1 o2 o3 lo
 obtain ⟨L0, hL0⟩ := zgE (c.numV on)
 rw [← hL0]
 replace hL0 := Lib.hid hL0
 have hX0 : (start l).In := ⟨hp, ratW0_in, ratW0_in⟩
 go_loopw [35] (fun iv wr => ∃ k : Nat, k ≤ n ∧ iv = .int .i64 (k : Int) ∧ ∃ X fr ee, Db.In X ∧ Ext v wr ∧ Held wr bt 166 #[.func (.func 126) #[] #[.pointer (some ⟨be, 0, none⟩)]] ∧ Held wr bd 60 #[.int .i64 X.p.n, .int .i64 X.p.d, .int .i64 X.i.n, .int .i64 X.i.d, .int .i64 X.s.n, .int .i64 X.s.d] ∧ Held wr bf 37 #[.int .i64 fr.y, .int .i64 fr.m, .bool fr.s, .int .i64 fr.d] ∧ Held wr be 24 #[.int .i64 ee] ∧ Hid (ee = 0 → V = runK c l.r f on k (n - k) X fr) ∧ Hid (ee ≠ 0 → V = (db0, ee))) (fun iv _ => n - (intOf iv).toNat)
 case atStart => exact ⟨0, Nat.zero_le _, rfl, start l, l.f, 0, hX0, HE, Ht, Hd, Hf, He, fun _ => hV0.out, fun h => absurd rfl h⟩
 case round =>
  clear HE Ht Hd Hf He hX0 hV0
  obtain ⟨k, hk, rfl, X, fr, ee, hX, HE, Ht, Hd, Hf, He, h1, h2⟩ := hrel
  obtain ⟨wo, rfl⟩ := zgE wr
  by_cases hlt : k < n
  ·obtain ⟨m, hm⟩ : ∃ m, n - k = m + 1 := ⟨n - k - 1, by omega⟩
   have hm2 : n - (k + 1) = m := by omega
   rw [hm] at h1
   obtain ⟨b, off, rfl, hb, hc⟩ := (RB.ext HE) (by omega)
   have c0 : wo.cell? ⟨b, off + k * 6, none⟩ = some (.int .i64 (f k).on.y) := by simpa [payr] using hc k 0 _ hlt rfl
   have c1 : wo.cell? ⟨b, off + k * 6 + 1, none⟩ = some (.int .i64 (f k).on.m) := by simpa [payr] using hc k 1 _ hlt rfl
   have c2 : wo.cell? ⟨b, off + k * 6 + 2, none⟩ = some (.bool (f k).on.s) := by simpa [payr] using hc k 2 _ hlt rfl
   have c3 : wo.cell? ⟨b, off + k * 6 + 3, none⟩ = some (.int .i64 (f k).on.d) := by simpa [payr] using hc k 3 _ hlt rfl
   have c4 : wo.cell? ⟨b, off + k * 6 + 4, none⟩ = some (.int .i64 (f k).n.n) := by simpa [payr] using hc k 4 _ hlt rfl
   have c5 : wo.cell? ⟨b, off + k * 6 + 5, none⟩ = some (.int .i64 (f k).n.d) := by simpa [payr] using hc k 5 _ hlt rfl
   have hfin := hin k hlt
   clear hc RB hin hm
   go_upto_region 10 with (fail)
   obtain ⟨v3, hv⟩ := zgE (wo.alloc (.cells #[.int .i64 (f k).on.y, .int .i64 (f k).on.m, .bool (f k).on.s, .int .i64 (f k).on.d, .int .i64 (f k).n.n, .int .i64 (f k).n.d] 129))
   rw [← hv]
   have E3 : Ext wo v3 := by rw [hv]; exact (Ext.refl _).alloc _
   have H3 : Held v3 wo.heap.size 129 #[.int .i64 (f k).on.y, .int .i64 (f k).on.m, .bool (f k).on.s, .int .i64 (f k).on.d, .int .i64 (f k).n.n, .int .i64 (f k).n.d] := by rw [hv]; exact Held.new _ _ _
   clear hv c0 c1 c2 c3 c4 c5 hb
   have h17v : wo.heap.size < v3.heap.size := H3.lt
   have ht17 := Ht.lt
   have hd17 := Hd.lt
   have hf17 := Hf.lt
   have he17 := He.lt
   obtain ⟨b17, hb17⟩ := zgE (wo.heap.size)
   rw [← hb17] at H3 ⊢
   have n17 : b17 ∉ [bd, bf, be] := by simp; omega
   replace n17 := Lib.hid n17
   clear hb17 ht17 hd17 hf17 he17 h17v
   replace HE := HE.trans E3
   replace Ht := Ht.ext E3
   replace Hd := Hd.ext E3
   replace Hf := Hf.ext E3
   replace He := He.ext E3
   clear E3
   by_cases h0 : ee = 0
   rotate_left
   ·have g0 : (ee == 0) = false := beq_eq_false_iff_ne.2 h0
    have hV := Lib.hid (h2.out h0)
    clear h1 h2 h0
    have g0n : (ee != 0) = true := by rw [bne, g0]; rfl
    have e0 := He.c1
    have le := He.lt
    go_upto_region 25 with (fail)
    clear e0 le
    apply wp_cut0 (S := fun w' => Ext w w' ∧ Held w' b4 60 #[.int .i64 0, .int .i64 0, .int .i64 0, .int .i64 0, .int .i64 0, .int .i64 0])
    ·refine wp_region_z 4 [3] (fun x => HeldS x be 24 #[.int .i64 ee]) mixed rfl ?_
     intro vz hvz
     replace He := He.ext hvz
     replace HE := HE.trans hvz
     clear hvz
     refine z_stills (g := 2) [0, 1] [_, _] ⟨rfl, rfl, trivial⟩ (by kernel_rfl) (by kernel_rfl) (HeldS.mk He) ?_
     simp only [zgA, zgB, zgC]
     apply Exists.intro
     refine ⟨fun u hu => ?_, ?_⟩
     ·have e0 := hu.out.c1
      have le := hu.out.lt
      repeat (first | go_big_quiet_skip | (go_big_quiet_want; go_big_quiet_op; go_big_quiet_on))
      refine wpQuiet_nil ?_
      rfl
     refine z_one 2 rfl (by kernel_rfl) ?_
     simp only [zgA, zgB, zgC]
     have R4 := B4.ext HE
     have z0 := R4.frozen 0
     have z1 := R4.frozen 1
     have z2 := R4.frozen 2
     have z3 := R4.frozen 3
     have z4 := R4.frozen 4
     have z5 := R4.frozen 5
     obtain ⟨x0, x1, x2, x3, x4, x5⟩ := R4.c6
     have lx := R4.lt
     go_wp2
     have R6 := held6_all R4 (.int .i64 0) (.int .i64 0) (.int .i64 0) (.int .i64 0) (.int .i64 0) (.int .i64 0)
     have EF := ext6 (E.trans HE) hbr (.int .i64 0) (.int .i64 0) (.int .i64 0) (.int .i64 0) (.int .i64 0) (.int .i64 0)
     replace He := oth6 He hbe4 (.int .i64 0) (.int .i64 0) (.int .i64 0) (.int .i64 0) (.int .i64 0) (.int .i64 0)
     clear z0 z1 z2 z3 z4 z5 x0 x1 x2 x3 x4 x5 lx R4
     generalize World.setCell _ _ _ = wq at *
     refine onQ_in (HeldS.mk He) ?_
     refine z_end 3 rfl (by kernel_rfl) ?_
     simp only [zgA, zgB, zgC]
     go_wp2
     refine onQ_last ?_
     refine z_done (by kernel_rfl) ?_
     exact ⟨rfl, ⟨EF, R6⟩, rfl⟩
    rintro w9 ⟨EF, R6⟩
    obtain ⟨y0, y1, y2, y3, y4, y5⟩ := R6.c6
    go_wp2
    refine bodyPost_ret (v := .tuple #[.agg #[.int .i64 0, .int .i64 0, .int .i64 0, .int .i64 0, .int .i64 0, .int .i64 0], .int .i64 ee]) (by simp [results, Tryz.results79, go_sem, y0, y1, y2, y3, y4, y5]) rfl ⟨by rw [hV.out]; rfl, EF⟩
   subst h0
   have e0 := He.c1
   have le := He.lt
   obtain ⟨k0, k1⟩ := (B1.ext HE).c2
   have lk := (B1.ext HE).lt
   obtain ⟨q0, q1, q2, q3, q4, q5⟩ := H3.c6
   have lq := H3.lt
   have h1' := Lib.hid (h1.out rfl)
   clear h1 h2
   have hdd := fun w h => day_any A A' ca cb c (f k).on w h
   by_cases hday : L0 < c.numV (f k).on
   ·have gd1 : decide (L0 < c.numV (f k).on) = true := decide_eq_true hday
    have hVA : Hid (V = nrm (accV c l.r X fr on)) := by unfold Hid; rw [h1'.out, runK_stop (by rw [← hL0.out]; exact hday)]
    clear h1' hday
    generalize c.numV (f k).on = L1 at *
    go_upto_region 22 with (go_at_call 78; (with_reducible refine Calls.mono (hdd _ (C.ext HE)) ?_); rintro e w5 ⟨rfl, h4⟩)
    replace HE := HE.trans h4
    replace Ht := Ht.ext h4
    replace Hd := Hd.ext h4
    replace Hf := Hf.ext h4
    replace He := He.ext h4
    clear h4 e0 le k0 k1 lk q0 q1 q2 q3 q4 q5 lq H3 hdd
    have e0 := He.c1
    have le := He.lt
    have B3e := B3.ext HE
    obtain ⟨o0, o1, o2, o3⟩ := B3e.c4
    have lo := B3e.lt
    have NA := accrue_any A A' ca cb c l hr X hX fr on bt bd b2 b1 bf be v _ HE C Z0 Ht Hd (B2.ext HE) (B1.ext HE) Hf He g3 n1 n2 n3 n4.out n5.out n6.out
    go_upto_region 24 with (first | (go_at_call 127; (with_reducible refine Calls.mono (NA) ?_); rintro e wk ⟨rfl, hO, hf, he, Y, hYin, hd, hY⟩) | (go_at_fn 127; (with_reducible refine Calls.mono (NA) ?_); rintro e wk ⟨rfl, hO, hf, he, Y, hYin, hd, hY⟩))
    replace HE := hO.ext HE gS.out
    replace Ht := hO.held Ht n4.out
    clear hO Hd Hf He NA
    have Hd := hd
    have Hf := hf
    have He := he
    clear hd hf he
    clear e0 le o0 o1 o2 o3 lo B3e
    generalize accV c l.r X fr on = a at *
    obtain ⟨aX, ae⟩ := a
    simp only [] at He hY hVA
    by_cases h0 : ae = 0
    ·subst h0
     have hy := hY rfl
     subst hy
     have hV : Hid (V = (Y, 0)) := by unfold Hid; rw [hVA.out]; exact nrm_ok rfl
     clear hVA hY
     have e0 := He.c1
     have le := He.lt
     have R4 := B4.ext HE
     obtain ⟨d0, d1, d2, d3, d4, d5⟩ := Hd.c6
     have ld := Hd.lt
     have z0 := R4.frozen 0
     have z1 := R4.frozen 1
     have z2 := R4.frozen 2
     have z3 := R4.frozen 3
     have z4 := R4.frozen 4
     have z5 := R4.frozen 5
     obtain ⟨x0, x1, x2, x3, x4, x5⟩ := R4.c6
     have lx := R4.lt
     have R6 := held6_all R4 (.int .i64 Y.p.n) (.int .i64 Y.p.d) (.int .i64 Y.i.n) (.int .i64 Y.i.d) (.int .i64 Y.s.n) (.int .i64 Y.s.d)
     have EF := ext6 (E.trans HE) hbr (.int .i64 Y.p.n) (.int .i64 Y.p.d) (.int .i64 Y.i.n) (.int .i64 Y.i.d) (.int .i64 Y.s.n) (.int .i64 Y.s.d)
     obtain ⟨y0, y1, y2, y3, y4, y5⟩ := R6.c6
     go_wp2
     refine bodyPost_ret (v := .tuple #[.agg #[.int .i64 Y.p.n, .int .i64 Y.p.d, .int .i64 Y.i.n, .int .i64 Y.i.d, .int .i64 Y.s.n, .int .i64 Y.s.d], .int .i64 0]) (by simp [results, Tryz.results79, go_sem, y0, y1, y2, y3, y4, y5]) rfl ⟨by rw [hV.out], EF⟩
    ·have g0 : (ae == 0) = false := beq_eq_false_iff_ne.2 h0
     have hV : Hid (V = (db0, ae)) := by unfold Hid; rw [hVA.out]; exact nrm_err h0
     clear hVA hY h0
     have g0n : (ae != 0) = true := by rw [bne, g0]; rfl
     have e0 := He.c1
     have le := He.lt
     go_upto_region 25 with (fail)
     clear e0 le
     apply wp_cut0 (S := fun w' => Ext w w' ∧ Held w' b4 60 #[.int .i64 0, .int .i64 0, .int .i64 0, .int .i64 0, .int .i64 0, .int .i64 0])
     ·refine wp_region_z 4 [3] (fun x => HeldS x be 24 #[.int .i64 ae]) mixed rfl ?_
      intro vz hvz
      replace He := He.ext hvz
      replace HE := HE.trans hvz
      clear hvz
      refine z_stills (g := 2) [0, 1] [_, _] ⟨rfl, rfl, trivial⟩ (by kernel_rfl) (by kernel_rfl) (HeldS.mk He) ?_
      simp only [zgA, zgB, zgC]
      apply Exists.intro
      refine ⟨fun u hu => ?_, ?_⟩
      ·have e0 := hu.out.c1
       have le := hu.out.lt
       repeat (first | go_big_quiet_skip | (go_big_quiet_want; go_big_quiet_op; go_big_quiet_on))
       refine wpQuiet_nil ?_
       rfl
      refine z_one 2 rfl (by kernel_rfl) ?_
      simp only [zgA, zgB, zgC]
      have R4 := B4.ext HE
      have z0 := R4.frozen 0
      have z1 := R4.frozen 1
      have z2 := R4.frozen 2
      have z3 := R4.frozen 3
      have z4 := R4.frozen 4
      have z5 := R4.frozen 5
      obtain ⟨x0, x1, x2, x3, x4, x5⟩ := R4.c6
      have lx := R4.lt
      go_wp2
      have R6 := held6_all R4 (.int .i64 0) (.int .i64 0) (.int .i64 0) (.int .i64 0) (.int .i64 0) (.int .i64 0)
      have EF := ext6 (E.trans HE) hbr (.int .i64 0) (.int .i64 0) (.int .i64 0) (.int .i64 0) (.int .i64 0) (.int .i64 0)
      replace He := oth6 He hbe4 (.int .i64 0) (.int .i64 0) (.int .i64 0) (.int .i64 0) (.int .i64 0) (.int .i64 0)
      clear z0 z1 z2 z3 z4 z5 x0 x1 x2 x3 x4 x5 lx R4
      generalize World.setCell _ _ _ = wq at *
      refine onQ_in (HeldS.mk He) ?_
      refine z_end 3 rfl (by kernel_rfl) ?_
      simp only [zgA, zgB, zgC]
      go_wp2
      refine onQ_last ?_
      refine z_done (by kernel_rfl) ?_
      exact ⟨rfl, ⟨EF, R6⟩, rfl⟩
     rintro w9 ⟨EF, R6⟩
     obtain ⟨y0, y1, y2, y3, y4, y5⟩ := R6.c6
     go_wp2
     refine bodyPost_ret (v := .tuple #[.agg #[.int .i64 0, .int .i64 0, .int .i64 0, .int .i64 0, .int .i64 0, .int .i64 0], .int .i64 ae]) (by simp [results, Tryz.results79, go_sem, y0, y1, y2, y3, y4, y5]) rfl ⟨by rw [hV.out]; rfl, EF⟩
   ·have gd1 : decide (L0 < c.numV (f k).on) = false := decide_eq_false hday
    have hE1 : Hid ((accV c l.r X fr (f k).on).2 ≠ 0 → V = (db0, (accV c l.r X fr (f k).on).2)) := fun h => by rw [h1'.out, runK_err (by rw [← hL0.out]; exact hday) h]
    have hE2 : Hid ((accV c l.r X fr (f k).on).2 = 0 → V = rest0 c l.r f on k m (accV c l.r X fr (f k).on).1 (f k).n) := fun h => by rw [h1'.out, runK_go (by rw [← hL0.out]; exact hday) h]
    clear h1' hday
    generalize c.numV (f k).on = L1 at *
    go_upto_region 11 with (go_at_call 78; (with_reducible refine Calls.mono (hdd _ (C.ext HE)) ?_); rintro e w5 ⟨rfl, h4⟩)
    replace HE := HE.trans h4
    replace Ht := Ht.ext h4
    replace Hd := Hd.ext h4
    replace Hf := Hf.ext h4
    replace He := He.ext h4
    replace H3 := H3.ext h4
    clear h4 e0 le k0 k1 lk q0 q1 q2 q3 q4 q5 lq hdd
    obtain ⟨q0, q1, q2, q3, q4, q5⟩ := H3.c6
    have lq := H3.lt
    have NA := accrue_any A A' ca cb c l hr X hX fr (f k).on bt bd b2 b1 bf be v _ HE C Z0 Ht Hd (B2.ext HE) (B1.ext HE) Hf He g3 n1 n2 n3 n4.out n5.out n6.out
    go_upto_region 12 with (first | (go_at_call 127; (with_reducible refine Calls.mono (NA) ?_); rintro e wk ⟨rfl, hO, hf, he, Y, hYin, hd, hY⟩) | (go_at_fn 127; (with_reducible refine Calls.mono (NA) ?_); rintro e wk ⟨rfl, hO, hf, he, Y, hYin, hd, hY⟩))
    replace HE := hO.ext HE gS.out
    replace Ht := hO.held Ht n4.out
    replace H3 := hO.held H3 (n17.out)
    clear hO Hd Hf He NA
    have Hd := hd
    have Hf := hf
    have He := he
    clear hd hf he
    clear q0 q1 q2 q3 q4 q5 lq hX
    generalize accV c l.r X fr (f k).on = a at *
    obtain ⟨aX, ae⟩ := a
    simp only [] at He hY hE1 hE2
    obtain ⟨q0, q1, q2, q3, q4, q5⟩ := H3.c6
    have lq := H3.lt
    go_upto_region 14 with (fail)
    obtain ⟨v4, hv⟩ := zgE ((wk.alloc (.cells #[.int .i64 (f k).n.n, .int .i64 (f k).n.d] 23)).alloc (.cells #[.pointer (some ⟨bd, 2, none⟩), .pointer (some ⟨bd, 0, none⟩)] 168))
    rw [← hv]
    have E4 : Ext wk v4 := by rw [hv]; exact ((Ext.refl _).alloc _).alloc _
    have H8 : Held v4 wk.heap.size 23 #[.int .i64 (f k).n.n, .int .i64 (f k).n.d] := by rw [hv]; exact (Held.new _ _ _).alloc _
    have Hs : Held v4 (wk.heap.size + 1) 168 #[.pointer (some ⟨bd, 2, none⟩), .pointer (some ⟨bd, 0, none⟩)] := by rw [hv]; exact Held.at _ _ _ _ (by simp)
    clear hv q0 q1 q2 q3 q4 q5 lq H3 n17
    obtain ⟨bs, hbs⟩ := zgE (wk.heap.size + 1)
    rw [← hbs] at Hs ⊢
    obtain ⟨b18, hb18⟩ := zgE (wk.heap.size)
    rw [← hb18] at H8 ⊢
    have hl1 := Ht.lt
    have hl2 := Hd.lt
    have hl3 := Hf.lt
    have hl4 := He.lt
    have hl5 := HE.size
    have n8 : b18 ≠ be := by omega
    have n8d : b18 ≠ bd := by omega
    have ns : bs ≠ be := by omega
    have nsd : bs ≠ bd := by omega
    have nt8 : bt ≠ b18 := by omega
    have nf8 : bf ≠ b18 := by omega
    have ns8 : bs ≠ b18 := by omega
    have g18 : v.heap.size ≤ b18 := by omega
    clear hl1 hl2 hl3 hl4 hl5 hbs hb18
    replace HE := HE.trans E4
    replace Ht := Ht.ext E4
    replace Hd := Hd.ext E4
    replace Hf := Hf.ext E4
    replace He := He.ext E4
    clear E4
    go_loopw [59] (fun jv wr => ∃ j : Nat, j ≤ 2 ∧ jv = .int .i64 (j : Int) ∧ ∃ X lf ee, Db.In X ∧ Rt.In lf ∧ Ext v wr ∧ Held wr bt 166 #[.func (.func 126) #[] #[.pointer (some ⟨be, 0, none⟩)]] ∧ Held wr bd 60 #[.int .i64 X.p.n, .int .i64 X.p.d, .int .i64 X.i.n, .int .i64 X.i.d, .int .i64 X.s.n, .int .i64 X.s.d] ∧ Held wr bf 37 #[.int .i64 (f k).on.y, .int .i64 (f k).on.m, .bool (f k).on.s, .int .i64 (f k).on.d] ∧ Held wr be 24 #[.int .i64 ee] ∧ Held wr b18 23 #[.int .i64 lf.n, .int .i64 lf.d] ∧ Held wr bs 168 #[.pointer (some ⟨bd, 2, none⟩), .pointer (some ⟨bd, 0, none⟩)] ∧ Hid (ee = 0 → V = restJ c l.r f on k m j X lf) ∧ Hid (ee ≠ 0 → V = (db0, ee))) (fun jv _ => 2 - (intOf jv).toNat)
    case atStart => exact ⟨0, by decide, rfl, Y, (f k).n, ae, hYin, hfin, HE, Ht, Hd, Hf, He, H8, Hs, fun h => by rw [hE2.out h, ← hY h]; rfl, fun h => hE1.out h⟩
    case round =>
     clear HE Ht Hd Hf He H8 Hs hE1 hE2 hY hYin hfin
     obtain ⟨j, hj, rfl, X, lf, ee, hX, hlf, HE, Ht, Hd, Hf, He, H8, Hs, h1, h2⟩ := hrel
     obtain ⟨wi, rfl⟩ := zgE wr
     have e0 := He.c1
     have le := He.lt
     by_cases hj2 : j < 2
     ·obtain ⟨s0, s1⟩ := Hs.c2
      have ls := Hs.lt
      by_cases h0 : ee = 0
      ·subst h0
       have hj3 : j = 0 ∨ j = 1 := by omega
       rcases hj3 with rfl | rfl
       ·skip
        have NP := fun w h z => payI_any X lf hX.i hlf bd w h z
        have hpin := payV_in (x := X.i) (n := lf)
        have hpV : Hid (V = if (payV X.i lf).2 ≠ 0 then (db0, (payV X.i lf).2) else rest1 c l.r f on k m ⟨X.p, (payV X.i lf).1.1, X.s⟩ (payV X.i lf).1.2) := h1.out rfl
        clear h1 h2
        generalize payV X.i lf = P at *
        obtain ⟨⟨⟨Pn, Pd⟩, ⟨Ln, Ld⟩⟩, Le⟩ := P
        simp only [] at hpin hpV NP
        go_upto_region 17 with (fail)
        clear e0 le s0 s1 ls
        refine wp_region_z 8 [7] (fun x => Held x bt 166 #[.func (.func 126) #[] #[.pointer (some ⟨be, 0, none⟩)]] ∧ Held x b18 23 #[.int .i64 lf.n, .int .i64 lf.d]) mixed rfl ?_
        intro vz hvz
        replace HE := HE.trans hvz
        replace Ht := Ht.ext hvz
        replace Hd := Hd.ext hvz
        replace Hf := Hf.ext hvz
        replace He := He.ext hvz
        replace H8 := H8.ext hvz
        replace Hs := Hs.ext hvz
        clear hvz
        refine z_stills (g := 5) [0, 1, 2] [_, _, _] ⟨rfl, rfl, rfl, trivial⟩ (by kernel_rfl) (by kernel_rfl) ⟨Ht, H8⟩ ?_
        simp only [zgA, zgB, zgC]
        apply Exists.intro
        refine ⟨fun u hu => ?_, ?_⟩
        ·have t0 := hu.1.c1
         have lt := hu.1.lt
         obtain ⟨r0, r1⟩ := hu.2.c2
         have lr := hu.2.lt
         repeat (first | go_big_quiet_skip | (go_big_quiet_want; go_big_quiet_op; go_big_quiet_on))
         refine wpQuiet_nil ?_
         rfl
        refine z_one 3 rfl (by kernel_rfl) ?_
        simp only [zgA, zgB, zgC]
        go_wp2_with (go_at_call 128; (with_reducible refine Calls.mono (NP _ Hd (Z0.ext HE)) ?_); rintro e wp ⟨rfl, hO, hd⟩)
        replace HE := hO.ext HE (fun k hk => by rw [List.mem_singleton.1 hk]; exact gd)
        replace Ht := hO.held Ht (by simp only [List.mem_singleton]; exact fun e => n4.out (by rw [e]; simp))
        replace Hf := hO.held Hf (by simp only [List.mem_singleton]; exact Ne.symm n1)
        replace He := hO.held He (by simp only [List.mem_singleton]; exact Ne.symm n2)
        replace H8 := hO.held H8 (by simp only [List.mem_singleton]; exact n8d)
        replace Hs := hO.held Hs (by simp only [List.mem_singleton]; exact nsd)
        clear hO Hd
        have Hd := hd
        clear hd
        refine onQ_in ⟨Ht, H8⟩ ?_
        refine z_stills (g := 2) [4, 5] [_, _] ⟨rfl, rfl, trivial⟩ (by kernel_rfl) (by kernel_rfl) ⟨Ht, H8⟩ ?_
        simp only [zgA, zgB, zgC]
        apply Exists.intro
        refine ⟨fun u hu => ?_, ?_⟩
        ·have t0 := hu.1.c1
         have lt := hu.1.lt
         obtain ⟨r0, r1⟩ := hu.2.c2
         have lr := hu.2.lt
         repeat (first | go_big_quiet_skip | (go_big_quiet_want; go_big_quiet_op; go_big_quiet_on))
         refine wpQuiet_nil ?_
         rfl
        refine z_one 6 rfl (by kernel_rfl) ?_
        simp only [zgA, zgB, zgC]
        go_wp2_with (first | (go_at_call 126; (with_reducible refine Calls.mono (try_any ⟨Ln, Ld⟩ Le 0 be _ He) ?_); rintro e we ⟨rfl, h5, He2⟩) | (go_at_fn 126; (with_reducible refine Calls.mono (try_any ⟨Ln, Ld⟩ Le 0 be _ He) ?_); rintro e we ⟨rfl, h5, He2⟩))
        try rw [if_pos rfl] at He2
        replace HE := h5.ext HE (fun k hk => by rw [List.mem_singleton.1 hk]; exact g3)
        replace Ht := h5.held Ht (by simp only [List.mem_singleton]; exact fun e => n4.out (by rw [e]; simp))
        replace Hf := h5.held Hf (by simp only [List.mem_singleton]; exact n3)
        replace H8 := h5.held H8 (by simp only [List.mem_singleton]; exact n8)
        replace Hs := h5.held Hs (by simp only [List.mem_singleton]; exact ns)
        replace Hd := h5.held Hd (by simp only [List.mem_singleton]; exact n2)
        have He := He2
        clear h5 He2
        refine onQ_in ⟨Ht, H8⟩ ?_
        refine z_end 7 rfl (by kernel_rfl) ?_
        simp only [zgA, zgB, zgC]
        have z0 := H8.frozen 0
        have z1 := H8.frozen 1
        obtain ⟨x0, x1⟩ := H8.c2
        have lx := H8.lt
        have HE := (HE.setCell (p := ⟨b18, 0, none⟩) g18 (.int .i64 Ln)).setCell (p := ⟨b18, 1, none⟩) g18 (.int .i64 Ld)
        have H82 := held_two H8 (.int .i64 Ln) (.int .i64 Ld)
        have Ht := held_oth (held_oth Ht nt8 0 (.int .i64 Ln)) nt8 1 (.int .i64 Ld)
        have Hd := held_oth (held_oth Hd (Ne.symm n8d) 0 (.int .i64 Ln)) (Ne.symm n8d) 1 (.int .i64 Ld)
        have Hf := held_oth (held_oth Hf nf8 0 (.int .i64 Ln)) nf8 1 (.int .i64 Ld)
        have He := held_oth (held_oth He (Ne.symm n8) 0 (.int .i64 Ln)) (Ne.symm n8) 1 (.int .i64 Ld)
        have Hs := held_oth (held_oth Hs ns8 0 (.int .i64 Ln)) ns8 1 (.int .i64 Ld)
        have H8 := H82
        go_wp2
        refine onQ_last ?_
        refine z_done (by kernel_rfl) ?_
        generalize World.setCell _ _ _ = wq at *
        clear z0 z1 x0 x1 lx H82
        go_wp2
        exact ⟨⟨1, by decide, by rfl, ⟨X.p, ⟨Pn, Pd⟩, X.s⟩, ⟨Ln, Ld⟩, Le, ⟨hX.p, hpin.1, hX.s⟩, hpin.2, HE, Ht, Hd, Hf, He, H8, Hs, fun h => by rw [hpV.out, if_neg (by simpa using h)]; rfl, fun h => by rw [hpV.out, if_pos h]⟩, by simp [intOf]⟩
       ·skip
        have NP := fun w h z => payP_any X lf hX.p hlf bd w h z
        have hpin := payV_in (x := X.p) (n := lf)
        have hpV : Hid (V = if (payV X.p lf).2 ≠ 0 then (db0, (payV X.p lf).2) else rest2 c l.r f on k m ⟨(payV X.p lf).1.1, X.i, X.s⟩ (payV X.p lf).1.2) := h1.out rfl
        clear h1 h2
        generalize payV X.p lf = P at *
        obtain ⟨⟨⟨Pn, Pd⟩, ⟨Ln, Ld⟩⟩, Le⟩ := P
        simp only [] at hpin hpV NP
        go_upto_region 17 with (fail)
        clear e0 le s0 s1 ls
        refine wp_region_z 8 [7] (fun x => Held x bt 166 #[.func (.func 126) #[] #[.pointer (some ⟨be, 0, none⟩)]] ∧ Held x b18 23 #[.int .i64 lf.n, .int .i64 lf.d]) mixed rfl ?_
        intro vz hvz
        replace HE := HE.trans hvz
        replace Ht := Ht.ext hvz
        replace Hd := Hd.ext hvz
        replace Hf := Hf.ext hvz
        replace He := He.ext hvz
        replace H8 := H8.ext hvz
        replace Hs := Hs.ext hvz
        clear hvz
        refine z_stills (g := 5) [0, 1, 2] [_, _, _] ⟨rfl, rfl, rfl, trivial⟩ (by kernel_rfl) (by kernel_rfl) ⟨Ht, H8⟩ ?_
        simp only [zgA, zgB, zgC]
        apply Exists.intro
        refine ⟨fun u hu => ?_, ?_⟩
        ·have t0 := hu.1.c1
         have lt := hu.1.lt
         obtain ⟨r0, r1⟩ := hu.2.c2
         have lr := hu.2.lt
         repeat (first | go_big_quiet_skip | (go_big_quiet_want; go_big_quiet_op; go_big_quiet_on))
         refine wpQuiet_nil ?_
         rfl
        refine z_one 3 rfl (by kernel_rfl) ?_
        simp only [zgA, zgB, zgC]
        go_wp2_with (go_at_call 128; (with_reducible refine Calls.mono (NP _ Hd (Z0.ext HE)) ?_); rintro e wp ⟨rfl, hO, hd⟩)
        replace HE := hO.ext HE (fun k hk => by rw [List.mem_singleton.1 hk]; exact gd)
        replace Ht := hO.held Ht (by simp only [List.mem_singleton]; exact fun e => n4.out (by rw [e]; simp))
        replace Hf := hO.held Hf (by simp only [List.mem_singleton]; exact Ne.symm n1)
        replace He := hO.held He (by simp only [List.mem_singleton]; exact Ne.symm n2)
        replace H8 := hO.held H8 (by simp only [List.mem_singleton]; exact n8d)
        replace Hs := hO.held Hs (by simp only [List.mem_singleton]; exact nsd)
        clear hO Hd
        have Hd := hd
        clear hd
        refine onQ_in ⟨Ht, H8⟩ ?_
        refine z_stills (g := 2) [4, 5] [_, _] ⟨rfl, rfl, trivial⟩ (by kernel_rfl) (by kernel_rfl) ⟨Ht, H8⟩ ?_
        simp only [zgA, zgB, zgC]
        apply Exists.intro
        refine ⟨fun u hu => ?_, ?_⟩
        ·have t0 := hu.1.c1
         have lt := hu.1.lt
         obtain ⟨r0, r1⟩ := hu.2.c2
         have lr := hu.2.lt
         repeat (first | go_big_quiet_skip | (go_big_quiet_want; go_big_quiet_op; go_big_quiet_on))
         refine wpQuiet_nil ?_
         rfl
        refine z_one 6 rfl (by kernel_rfl) ?_
        simp only [zgA, zgB, zgC]
        go_wp2_with (first | (go_at_call 126; (with_reducible refine Calls.mono (try_any ⟨Ln, Ld⟩ Le 0 be _ He) ?_); rintro e we ⟨rfl, h5, He2⟩) | (go_at_fn 126; (with_reducible refine Calls.mono (try_any ⟨Ln, Ld⟩ Le 0 be _ He) ?_); rintro e we ⟨rfl, h5, He2⟩))
        try rw [if_pos rfl] at He2
        replace HE := h5.ext HE (fun k hk => by rw [List.mem_singleton.1 hk]; exact g3)
        replace Ht := h5.held Ht (by simp only [List.mem_singleton]; exact fun e => n4.out (by rw [e]; simp))
        replace Hf := h5.held Hf (by simp only [List.mem_singleton]; exact n3)
        replace H8 := h5.held H8 (by simp only [List.mem_singleton]; exact n8)
        replace Hs := h5.held Hs (by simp only [List.mem_singleton]; exact ns)
        replace Hd := h5.held Hd (by simp only [List.mem_singleton]; exact n2)
        have He := He2
        clear h5 He2
        refine onQ_in ⟨Ht, H8⟩ ?_
        refine z_end 7 rfl (by kernel_rfl) ?_
        simp only [zgA, zgB, zgC]
        have z0 := H8.frozen 0
        have z1 := H8.frozen 1
        obtain ⟨x0, x1⟩ := H8.c2
        have lx := H8.lt
        have HE := (HE.setCell (p := ⟨b18, 0, none⟩) g18 (.int .i64 Ln)).setCell (p := ⟨b18, 1, none⟩) g18 (.int .i64 Ld)
        have H82 := held_two H8 (.int .i64 Ln) (.int .i64 Ld)
        have Ht := held_oth (held_oth Ht nt8 0 (.int .i64 Ln)) nt8 1 (.int .i64 Ld)
        have Hd := held_oth (held_oth Hd (Ne.symm n8d) 0 (.int .i64 Ln)) (Ne.symm n8d) 1 (.int .i64 Ld)
        have Hf := held_oth (held_oth Hf nf8 0 (.int .i64 Ln)) nf8 1 (.int .i64 Ld)
        have He := held_oth (held_oth He (Ne.symm n8) 0 (.int .i64 Ln)) (Ne.symm n8) 1 (.int .i64 Ld)
        have Hs := held_oth (held_oth Hs ns8 0 (.int .i64 Ln)) ns8 1 (.int .i64 Ld)
        have H8 := H82
        go_wp2
        refine onQ_last ?_
        refine z_done (by kernel_rfl) ?_
        generalize World.setCell _ _ _ = wq at *
        clear z0 z1 x0 x1 lx H82
        go_wp2
        exact ⟨⟨2, by decide, by rfl, ⟨⟨Pn, Pd⟩, X.i, X.s⟩, ⟨Ln, Ld⟩, Le, ⟨hpin.1, hX.i, hX.s⟩, hpin.2, HE, Ht, Hd, Hf, He, H8, Hs, fun h => by rw [hpV.out, if_neg (by simpa using h)]; rfl, fun h => by rw [hpV.out, if_pos h]⟩, by simp [intOf]⟩
      ·have g0 : (ee == 0) = false := beq_eq_false_iff_ne.2 h0
       have hj3 : j = 0 ∨ j = 1 := by omega
       rcases hj3 with rfl | rfl
       ·go_wp2
        exact ⟨⟨1, by decide, rfl, X, lf, ee, hX, hlf, HE, Ht, Hd, Hf, He, H8, Hs, fun h => absurd h h0, h2⟩, by simp [intOf]⟩
       ·go_wp2
        exact ⟨⟨2, by decide, rfl, X, lf, ee, hX, hlf, HE, Ht, Hd, Hf, He, H8, Hs, fun h => absurd h h0, h2⟩, by simp [intOf]⟩
     ·obtain rfl : j = 2 := by omega
      by_cases h0 : ee = 0
      ·subst h0
       have NA := fun w z => addF_any X.s lf hX.s hlf w z
       have hSin := addR_in X.s lf
       have hpV : Hid (V = if (addR X.s lf).2 ≠ 0 then (db0, (addR X.s lf).2) else runK c l.r f on (k + 1) m ⟨X.p, X.i, (addR X.s lf).1⟩ (f k).on) := h1.out rfl
       clear h1 h2
       generalize addR X.s lf = S at *
       obtain ⟨⟨Sn, Sd⟩, Se⟩ := S
       simp only [] at hSin hpV NA
       go_upto_region 20 with (fail)
       clear e0 le
       refine wp_region_z 10 [9] (fun x => Held x bt 166 #[.func (.func 126) #[] #[.pointer (some ⟨be, 0, none⟩)]] ∧ Held x bd 60 #[.int .i64 X.p.n, .int .i64 X.p.d, .int .i64 X.i.n, .int .i64 X.i.d, .int .i64 X.s.n, .int .i64 X.s.d] ∧ Held x b18 23 #[.int .i64 lf.n, .int .i64 lf.d]) mixed rfl ?_
       intro vz hvz
       replace HE := HE.trans hvz
       replace Ht := Ht.ext hvz
       replace Hd := Hd.ext hvz
       replace Hf := Hf.ext hvz
       replace He := He.ext hvz
       replace H8 := H8.ext hvz
       clear hvz
       refine z_stills (g := 6) [0, 1, 2, 3] [_, _, _, _] ⟨rfl, rfl, rfl, rfl, trivial⟩ (by kernel_rfl) (by kernel_rfl) ⟨Ht, Hd, H8⟩ ?_
       simp only [zgA, zgB, zgC]
       apply Exists.intro
       refine ⟨fun u hu => ?_, ?_⟩
       ·have t0 := hu.1.c1
        have lt := hu.1.lt
        obtain ⟨d0, d1, d2, d3, d4, d5⟩ := hu.2.1.c6
        have ld := hu.2.1.lt
        obtain ⟨r0, r1⟩ := hu.2.2.c2
        have lr := hu.2.2.lt
        repeat (first | go_big_quiet_skip | (go_big_quiet_want; go_big_quiet_op; go_big_quiet_on))
        refine wpQuiet_nil ?_
        rfl
       refine z_one 4 rfl (by kernel_rfl) ?_
       simp only [zgA, zgB, zgC]
       go_wp2_with (go_at_call 84; (with_reducible refine Calls.mono (NA _ (Z0.ext HE)) ?_); rintro e wc ⟨rfl, h4⟩)
       replace HE := HE.trans h4
       replace Ht := Ht.ext h4
       replace Hd := Hd.ext h4
       replace Hf := Hf.ext h4
       replace He := He.ext h4
       replace H8 := H8.ext h4
       clear h4
       refine onQ_in ⟨Ht, Hd, H8⟩ ?_
       refine z_stills (g := 3) [5, 6] [_, _] ⟨rfl, rfl, trivial⟩ (by kernel_rfl) (by kernel_rfl) ⟨Ht, Hd, H8⟩ ?_
       simp only [zgA, zgB, zgC]
       apply Exists.intro
       refine ⟨fun u hu => ?_, ?_⟩
       ·have t0 := hu.1.c1
        have lt := hu.1.lt
        obtain ⟨d0, d1, d2, d3, d4, d5⟩ := hu.2.1.c6
        have ld := hu.2.1.lt
        obtain ⟨r0, r1⟩ := hu.2.2.c2
        have lr := hu.2.2.lt
        repeat (first | go_big_quiet_skip | (go_big_quiet_want; go_big_quiet_op; go_big_quiet_on))
        refine wpQuiet_nil ?_
        rfl
       refine z_one 7 rfl (by kernel_rfl) ?_
       simp only [zgA, zgB, zgC]
       go_wp2_with (first | (go_at_call 126; (with_reducible refine Calls.mono (try_any ⟨Sn, Sd⟩ Se 0 be _ He) ?_); rintro e we ⟨rfl, h5, He2⟩) | (go_at_fn 126; (with_reducible refine Calls.mono (try_any ⟨Sn, Sd⟩ Se 0 be _ He) ?_); rintro e we ⟨rfl, h5, He2⟩))
       try rw [if_pos rfl] at He2
       replace HE := h5.ext HE (fun k hk => by rw [List.mem_singleton.1 hk]; exact g3)
       replace Ht := h5.held Ht (by simp only [List.mem_singleton]; exact fun e => n4.out (by rw [e]; simp))
       replace Hf := h5.held Hf (by simp only [List.mem_singleton]; exact n3)
       replace H8 := h5.held H8 (by simp only [List.mem_singleton]; exact n8)
       replace Hd := h5.held Hd (by simp only [List.mem_singleton]; exact n2)
       have He := He2
       clear h5 He2
       refine onQ_in ⟨Ht, Hd, H8⟩ ?_
       refine z_stills (g := 1) [8] [_] ⟨rfl, trivial⟩ (by kernel_rfl) (by kernel_rfl) ⟨Ht, Hd, H8⟩ ?_
       simp only [zgA, zgB, zgC]
       apply Exists.intro
       refine ⟨fun u hu => ?_, ?_⟩
       ·have t0 := hu.1.c1
        have lt := hu.1.lt
        obtain ⟨d0, d1, d2, d3, d4, d5⟩ := hu.2.1.c6
        have ld := hu.2.1.lt
        obtain ⟨r0, r1⟩ := hu.2.2.c2
        have lr := hu.2.2.lt
        repeat (first | go_big_quiet_skip | (go_big_quiet_want; go_big_quiet_op; go_big_quiet_on))
        refine wpQuiet_nil ?_
        rfl
       refine z_end 9 rfl (by kernel_rfl) ?_
       simp only [zgA, zgB, zgC]
       have z4 := Hd.frozen 4
       have z5 := Hd.frozen 5
       obtain ⟨x0, x1, x2, x3, x4, x5⟩ := Hd.c6
       have lx := Hd.lt
       have HE := (HE.setCell (p := ⟨bd, 4, none⟩) gd (.int .i64 Sn)).setCell (p := ⟨bd, 5, none⟩) gd (.int .i64 Sd)
       have Hd2 := held6_4 Hd (.int .i64 Sn) (.int .i64 Sd)
       have Ht := held_oth (held_oth Ht ntd 4 (.int .i64 Sn)) ntd 5 (.int .i64 Sd)
       have Hf := held_oth (held_oth Hf (Ne.symm n1) 4 (.int .i64 Sn)) (Ne.symm n1) 5 (.int .i64 Sd)
       have He := held_oth (held_oth He (Ne.symm n2) 4 (.int .i64 Sn)) (Ne.symm n2) 5 (.int .i64 Sd)
       have Hd := Hd2
       go_wp2
       refine onQ_last ?_
       refine z_done (by kernel_rfl) ?_
       generalize World.setCell _ _ _ = wq at *
       clear z4 z5 x0 x1 x2 x3 x4 x5 lx Hd2
       go_wp2
       exact ⟨⟨k + 1, by omega, by go_num, ⟨X.p, X.i, ⟨Sn, Sd⟩⟩, (f k).on, Se, ⟨hX.p, hX.i, hSin⟩, HE, Ht, Hd, Hf, He, fun h => by rw [hpV.out, if_neg (by simpa using h), hm2], fun h => by rw [hpV.out, if_pos h]⟩, by simp [intOf]; omega⟩
      ·have g0 : (ee == 0) = false := beq_eq_false_iff_ne.2 h0
       go_wp2
       exact ⟨⟨k + 1, by omega, by go_num, X, (f k).on, ee, hX, HE, Ht, Hd, Hf, He, fun h => absurd h h0, h2⟩, by simp [intOf]; omega⟩
  ·obtain rfl : k = n := by omega
   by_cases h0 : ee = 0
   ·subst h0
    have hVA : Hid (V = nrm (accV c l.r X fr on)) := by
     have := h1.out rfl
     rw [Nat.sub_self] at this
     exact this
    clear h1 h2
    have e0 := He.c1
    have le := He.lt
    have B3e := B3.ext HE
    obtain ⟨o0, o1, o2, o3⟩ := B3e.c4
    have lo := B3e.lt
    have NA := accrue_any A A' ca cb c l hr X hX fr on bt bd b2 b1 bf be v _ HE C Z0 Ht Hd (B2.ext HE) (B1.ext HE) Hf He g3 n1 n2 n3 n4.out n5.out n6.out
    go_upto_region 24 with (first | (go_at_call 127; (with_reducible refine Calls.mono (NA) ?_); rintro e wk ⟨rfl, hO, hf, he, Y, hYin, hd, hY⟩) | (go_at_fn 127; (with_reducible refine Calls.mono (NA) ?_); rintro e wk ⟨rfl, hO, hf, he, Y, hYin, hd, hY⟩))
    replace HE := hO.ext HE gS.out
    replace Ht := hO.held Ht n4.out
    clear hO Hd Hf He NA
    have Hd := hd
    have Hf := hf
    have He := he
    clear hd hf he
    clear e0 le o0 o1 o2 o3 lo B3e
    generalize accV c l.r X fr on = a at *
    obtain ⟨aX, ae⟩ := a
    simp only [] at He hY hVA
    by_cases h0 : ae = 0
    ·subst h0
     have hy := hY rfl
     subst hy
     have hV : Hid (V = (Y, 0)) := by unfold Hid; rw [hVA.out]; exact nrm_ok rfl
     clear hVA hY
     have e0 := He.c1
     have le := He.lt
     have R4 := B4.ext HE
     obtain ⟨d0, d1, d2, d3, d4, d5⟩ := Hd.c6
     have ld := Hd.lt
     have z0 := R4.frozen 0
     have z1 := R4.frozen 1
     have z2 := R4.frozen 2
     have z3 := R4.frozen 3
     have z4 := R4.frozen 4
     have z5 := R4.frozen 5
     obtain ⟨x0, x1, x2, x3, x4, x5⟩ := R4.c6
     have lx := R4.lt
     have R6 := held6_all R4 (.int .i64 Y.p.n) (.int .i64 Y.p.d) (.int .i64 Y.i.n) (.int .i64 Y.i.d) (.int .i64 Y.s.n) (.int .i64 Y.s.d)
     have EF := ext6 (E.trans HE) hbr (.int .i64 Y.p.n) (.int .i64 Y.p.d) (.int .i64 Y.i.n) (.int .i64 Y.i.d) (.int .i64 Y.s.n) (.int .i64 Y.s.d)
     obtain ⟨y0, y1, y2, y3, y4, y5⟩ := R6.c6
     go_wp2
     refine bodyPost_ret (v := .tuple #[.agg #[.int .i64 Y.p.n, .int .i64 Y.p.d, .int .i64 Y.i.n, .int .i64 Y.i.d, .int .i64 Y.s.n, .int .i64 Y.s.d], .int .i64 0]) (by simp [results, Tryz.results79, go_sem, y0, y1, y2, y3, y4, y5]) rfl ⟨by rw [hV.out], EF⟩
    ·have g0 : (ae == 0) = false := beq_eq_false_iff_ne.2 h0
     have hV : Hid (V = (db0, ae)) := by unfold Hid; rw [hVA.out]; exact nrm_err h0
     clear hVA hY h0
     have g0n : (ae != 0) = true := by rw [bne, g0]; rfl
     have e0 := He.c1
     have le := He.lt
     go_upto_region 25 with (fail)
     clear e0 le
     apply wp_cut0 (S := fun w' => Ext w w' ∧ Held w' b4 60 #[.int .i64 0, .int .i64 0, .int .i64 0, .int .i64 0, .int .i64 0, .int .i64 0])
     ·refine wp_region_z 4 [3] (fun x => HeldS x be 24 #[.int .i64 ae]) mixed rfl ?_
      intro vz hvz
      replace He := He.ext hvz
      replace HE := HE.trans hvz
      clear hvz
      refine z_stills (g := 2) [0, 1] [_, _] ⟨rfl, rfl, trivial⟩ (by kernel_rfl) (by kernel_rfl) (HeldS.mk He) ?_
      simp only [zgA, zgB, zgC]
      apply Exists.intro
      refine ⟨fun u hu => ?_, ?_⟩
      ·have e0 := hu.out.c1
       have le := hu.out.lt
       repeat (first | go_big_quiet_skip | (go_big_quiet_want; go_big_quiet_op; go_big_quiet_on))
       refine wpQuiet_nil ?_
       rfl
      refine z_one 2 rfl (by kernel_rfl) ?_
      simp only [zgA, zgB, zgC]
      have R4 := B4.ext HE
      have z0 := R4.frozen 0
      have z1 := R4.frozen 1
      have z2 := R4.frozen 2
      have z3 := R4.frozen 3
      have z4 := R4.frozen 4
      have z5 := R4.frozen 5
      obtain ⟨x0, x1, x2, x3, x4, x5⟩ := R4.c6
      have lx := R4.lt
      go_wp2
      have R6 := held6_all R4 (.int .i64 0) (.int .i64 0) (.int .i64 0) (.int .i64 0) (.int .i64 0) (.int .i64 0)
      have EF := ext6 (E.trans HE) hbr (.int .i64 0) (.int .i64 0) (.int .i64 0) (.int .i64 0) (.int .i64 0) (.int .i64 0)
      replace He := oth6 He hbe4 (.int .i64 0) (.int .i64 0) (.int .i64 0) (.int .i64 0) (.int .i64 0) (.int .i64 0)
      clear z0 z1 z2 z3 z4 z5 x0 x1 x2 x3 x4 x5 lx R4
      generalize World.setCell _ _ _ = wq at *
      refine onQ_in (HeldS.mk He) ?_
      refine z_end 3 rfl (by kernel_rfl) ?_
      simp only [zgA, zgB, zgC]
      go_wp2
      refine onQ_last ?_
      refine z_done (by kernel_rfl) ?_
      exact ⟨rfl, ⟨EF, R6⟩, rfl⟩
     rintro w9 ⟨EF, R6⟩
     obtain ⟨y0, y1, y2, y3, y4, y5⟩ := R6.c6
     go_wp2
     refine bodyPost_ret (v := .tuple #[.agg #[.int .i64 0, .int .i64 0, .int .i64 0, .int .i64 0, .int .i64 0, .int .i64 0], .int .i64 ae]) (by simp [results, Tryz.results79, go_sem, y0, y1, y2, y3, y4, y5]) rfl ⟨by rw [hV.out]; rfl, EF⟩
   ·have g0 : (ee == 0) = false := beq_eq_false_iff_ne.2 h0
    have hV := Lib.hid (h2.out h0)
    clear h1 h2 h0
    have g0n : (ee != 0) = true := by rw [bne, g0]; rfl
    have e0 := He.c1
    have le := He.lt
    go_upto_region 25 with (fail)
    clear e0 le
    apply wp_cut0 (S := fun w' => Ext w w' ∧ Held w' b4 60 #[.int .i64 0, .int .i64 0, .int .i64 0, .int .i64 0, .int .i64 0, .int .i64 0])
    ·refine wp_region_z 4 [3] (fun x => HeldS x be 24 #[.int .i64 ee]) mixed rfl ?_
     intro vz hvz
     replace He := He.ext hvz
     replace HE := HE.trans hvz
     clear hvz
     refine z_stills (g := 2) [0, 1] [_, _] ⟨rfl, rfl, trivial⟩ (by kernel_rfl) (by kernel_rfl) (HeldS.mk He) ?_
     simp only [zgA, zgB, zgC]
     apply Exists.intro
     refine ⟨fun u hu => ?_, ?_⟩
     ·have e0 := hu.out.c1
      have le := hu.out.lt
      repeat (first | go_big_quiet_skip | (go_big_quiet_want; go_big_quiet_op; go_big_quiet_on))
      refine wpQuiet_nil ?_
      rfl
     refine z_one 2 rfl (by kernel_rfl) ?_
     simp only [zgA, zgB, zgC]
     have R4 := B4.ext HE
     have z0 := R4.frozen 0
     have z1 := R4.frozen 1
     have z2 := R4.frozen 2
     have z3 := R4.frozen 3
     have z4 := R4.frozen 4
     have z5 := R4.frozen 5
     obtain ⟨x0, x1, x2, x3, x4, x5⟩ := R4.c6
     have lx := R4.lt
     go_wp2
     have R6 := held6_all R4 (.int .i64 0) (.int .i64 0) (.int .i64 0) (.int .i64 0) (.int .i64 0) (.int .i64 0)
     have EF := ext6 (E.trans HE) hbr (.int .i64 0) (.int .i64 0) (.int .i64 0) (.int .i64 0) (.int .i64 0) (.int .i64 0)
     replace He := oth6 He hbe4 (.int .i64 0) (.int .i64 0) (.int .i64 0) (.int .i64 0) (.int .i64 0) (.int .i64 0)
     clear z0 z1 z2 z3 z4 z5 x0 x1 x2 x3 x4 x5 lx R4
     generalize World.setCell _ _ _ = wq at *
     refine onQ_in (HeldS.mk He) ?_
     refine z_end 3 rfl (by kernel_rfl) ?_
     simp only [zgA, zgB, zgC]
     go_wp2
     refine onQ_last ?_
     refine z_done (by kernel_rfl) ?_
     exact ⟨rfl, ⟨EF, R6⟩, rfl⟩
    rintro w9 ⟨EF, R6⟩
    obtain ⟨y0, y1, y2, y3, y4, y5⟩ := R6.c6
    go_wp2
    refine bodyPost_ret (v := .tuple #[.agg #[.int .i64 0, .int .i64 0, .int .i64 0, .int .i64 0, .int .i64 0, .int .i64 0], .int .i64 ee]) (by simp [results, Tryz.results79, go_sem, y0, y1, y2, y3, y4, y5]) rfl ⟨by rw [hV.out]; rfl, EF⟩
end Go.Proofs.YthmjpbafbohelaaGreatDoor

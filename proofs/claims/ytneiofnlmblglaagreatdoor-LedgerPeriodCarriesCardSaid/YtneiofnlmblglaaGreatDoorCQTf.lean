/- archive of the program, all of the reference; CopyAll and SameAll of the reference. -/
import Derived.Test.YtneiofnlmblglaaGreatDoorCQTe
import Derived.Test.YtneiofnlmblglaaGreatDoorQ13
import Derived.Test.YtneiofnlmblglaaGreatDoorCQOb
import Derived.Test.YtneiofnlmblglaaGreatDoorCQZm
set_option maxRecDepth 100000
set_option maxHeartbeats 4000000
namespace Go.Proofs.YtneiofnlmblglaaGreatDoor
open Go Go.RowKit Go.Shelf
attribute [local go_sem] Zt
theorem info_perQ : (Tryz.prog.info? 31).map (fun i => (i.zero, i.size, i.bytes)) = some (some (.agg #[.string ⟨#[]⟩, .int .i64 0, .int .i64 0, .bool false, .int .i64 0, .int .i64 0, .int .i64 0, .bool false, .int .i64 0, .slice none 0 0, .slice none 0 0, .slice none 0 0]), 12, 152) := by kernel_rfl
theorem cells_perQ (p : Pd) (F G H : Option Addr) (n1 m1 n2 m2 n3 m3 : Nat) : ∀ u ∈ Yl p (.slice F n1 m1) (.slice G n2 m2) (.slice H n3 m3), u.oneCell' = true := by simp [Yl, Value.oneCell']
/-- Periods in an own row, each with what it holds in own rows. -/
def PersOwn (W : World) (b : Nat) (v : Value) (n : Nat) (g : Nat → Pd) : Prop := ∃ vo vd vc : Nat → Value, W.ownsRow b 31 12 v n (Q0 (fun i => Yl (g i) (vo i) (vd i) (vc i)) n) ∧ ∀ i, i < n → Ui W b (g i) (vo i) (vd i) (vc i)
theorem pers_nil (W : World) (b : Nat) (g : Nat → Pd) : PersOwn W b (.slice none 0 0) 0 g := ⟨fun _ => .slice none 0 0, fun _ => .slice none 0 0, fun _ => .slice none 0 0, World.ownsRow_nil _ _ _ _, fun i h => absurd h (by omega)⟩
theorem PersOwn.ext {W W' : World} {b n : Nat} {v : Value} {g : Nat → Pd} (h : PersOwn W b v n g) (x : Qa W W') : PersOwn W' b v n g := by
 obtain ⟨vo, vd, vc, h1, h2⟩ := h
 exact ⟨vo, vd, vc, Q5 h1 x, fun i hi => (h2 i hi).ext x⟩
theorem PersOwn.le {W : World} {b b' n : Nat} {v : Value} {g : Nat → Pd} (h : PersOwn W b v n g) (hb : b' ≤ b) : PersOwn W b' v n g := by
 obtain ⟨vo, vd, vc, h1, h2⟩ := h
 exact ⟨vo, vd, vc, h1.mono hb, fun i hi => (h2 i hi).le hb⟩
theorem persAt_own {W : World} {b : Nat} {v : Value} {l : List Pd} (h : PersOwn W b v l.length (fun i => l.getD i Ww)) : U5 W v l := by
 obtain ⟨vo, vd, vc, h1, h2⟩ := h
 obtain ⟨F, c, g1, g2, g3, g4, g5, _⟩ := Ul (f := fun i => Yl (l.getD i Ww) (vo i) (vd i) (vc i)) (fun _ => rfl) h1
 exact ⟨F, c, vo, vd, vc, g1, g2, g3, g4, g5, fun i hi => Qbr (h2 i hi)⟩
theorem Ui.kept {W w1 : World} {b b' k : Nat} {v' vo vd vc : Value} {p : Pd} {xs : List Value} {row : Option Nat} (h : Ui W b p vo vd vc) (hr : W.ownsRow b' 31 12 v' k xs) (hg : W.grownBy w1 row) (hrow : row = v'.ownBlock) : Ui w1 b p vo vd vc := by
 subst hrow
 obtain ⟨vs, d1, d2⟩ := h.d
 exact ⟨World.ownsRow.kept h.o hg (Mt h.o hr (by decide)), ⟨vs, World.ownsRow.kept d1 hg (Mt d1 hr (by decide)), fun i hi => World.ownsRow.kept (d2 i hi) hg (Mt (d2 i hi) hr (by decide))⟩, World.ownsRow.kept h.c hg (Mt h.c hr (by decide))⟩
theorem Ui.alloc {W : World} {b : Nat} {vo vd vc : Value} {p : Pd} (h : Ui W b p vo vd vc) (ob : Obj) : Ui (W.alloc ob) b p vo vd vc := h.ext ((Qa.refl _).alloc ob)
theorem pers_push {W w1 : World} {b k : Nat} {v v' uo ud uc : Value} {g : Nat → Pd} {vo vd vc : Nat → Value} {ob : Obj} (hO : W.ownsRow b 31 12 v k (Q0 (fun i => Yl (g i) (vo i) (vd i) (vc i)) k)) (hL : ∀ i, i < k → Ui W b (g i) (vo i) (vd i) (vc i)) (hl : Ui W b (g k) uo ud uc)
  (hown : w1.ownsRow b 31 12 v' (k + 1) (Q0 (fun i => Yl (g i) (vo i) (vd i) (vc i)) k ++ Yl (g k) uo ud uc)) (hgrow : (W.alloc ob).grownBy w1 v.ownBlock) : PersOwn w1 b v' (k + 1) g := by
 refine ⟨fun i => if i = k then uo else vo i, fun i => if i = k then ud else vd i, fun i => if i = k then uc else vc i, ?_, fun i hi => ?_⟩
 ·rw [W4, Vv (f' := fun i => Yl (g i) (vo i) (vd i) (vc i)) k (fun i hi => by simp [show i ≠ k by omega])]
  simpa using hown
 ·by_cases e : i = k
  ·subst e; simpa using Ui.kept (hl.alloc ob) (hO.alloc ob) hgrow rfl
  ·simpa [e] using Ui.kept ((hL i (by omega)).alloc ob) (hO.alloc ob) hgrow rfl
theorem sameAllR_any (v1 v2 : Value) (l : List Pd) (w : World) (h1 : U5 w v1 l) (h2 : U5 w v2 l) :
  Calls Tryz.prog 19 #[v1, v2] w fun e w' => e = .returned (.bool true) ∧ Qa w w' := by
 obtain ⟨D, cap, vo, vd, vc, rfl, hD, hcap, hmax, _, hat0⟩ := h1
 obtain ⟨B, cb, uo, ud, uc, rfl, hB, hcb, hmb, _, hbt0⟩ := h2
 have hn : l.length ≤ 9223372036854775807 := Nat.le_trans hcap (Nat.le_trans hmax (by decide))
 clear hcap hmax hcb hmb
 obtain ⟨g, hg⟩ := Qg (fun i => l.getD i Ww)
 have hg' : ∀ i, l.getD i Ww = g i := fun i => by rw [hg]
 simp only [hg'] at hD hat0 hB hbt0
 clear hg hg'
 generalize l.length = n at *
 have hat := Lib.hid hat0
 have hbt := Lib.hid hbt0
 clear hat0 hbt0
 go_enter Tryz.func19, Tryz.ntmps19
 go_upto_region 4 with (fail)
 go_loopw [5] (fun i wr => ∃ k : Nat, k ≤ n ∧ i = .int .i64 k ∧ Qa w wr) (fun i _ => n - (intOf i).toNat)
 case atStart => exact ⟨0, Nat.zero_le _, rfl, Qa.refl _⟩
 case round =>
  obtain ⟨k, hk, rfl, hE⟩ := hrel
  obtain ⟨wo, rfl⟩ := Qg wr
  by_cases hlt : k < n
  ·obtain ⟨b, off, rfl, hb, hc⟩ := (hD.ext hE) (by omega)
   have c0 : wo.cell? ⟨b, off + k * 12, none⟩ = some (.string (g k).h) := by simpa [Yl] using hc k 0 _ hlt rfl
   have c1 : wo.cell? ⟨b, off + k * 12 + 1, none⟩ = some (.int .i64 (g k).a.y) := by simpa [Yl] using hc k 1 _ hlt rfl
   have c2 : wo.cell? ⟨b, off + k * 12 + 2, none⟩ = some (.int .i64 (g k).a.m) := by simpa [Yl] using hc k 2 _ hlt rfl
   have c3 : wo.cell? ⟨b, off + k * 12 + 3, none⟩ = some (.bool (g k).a.s) := by simpa [Yl] using hc k 3 _ hlt rfl
   have c4 : wo.cell? ⟨b, off + k * 12 + 4, none⟩ = some (.int .i64 (g k).a.d) := by simpa [Yl] using hc k 4 _ hlt rfl
   have c5 : wo.cell? ⟨b, off + k * 12 + 5, none⟩ = some (.int .i64 (g k).b.y) := by simpa [Yl] using hc k 5 _ hlt rfl
   have c6 : wo.cell? ⟨b, off + k * 12 + 6, none⟩ = some (.int .i64 (g k).b.m) := by simpa [Yl] using hc k 6 _ hlt rfl
   have c7 : wo.cell? ⟨b, off + k * 12 + 7, none⟩ = some (.bool (g k).b.s) := by simpa [Yl] using hc k 7 _ hlt rfl
   have c8 : wo.cell? ⟨b, off + k * 12 + 8, none⟩ = some (.int .i64 (g k).b.d) := by simpa [Yl] using hc k 8 _ hlt rfl
   have c9 : wo.cell? ⟨b, off + k * 12 + 9, none⟩ = some (vo k) := by simpa [Yl] using hc k 9 _ hlt rfl
   have c10 : wo.cell? ⟨b, off + k * 12 + 10, none⟩ = some (vd k) := by simpa [Yl] using hc k 10 _ hlt rfl
   have c11 : wo.cell? ⟨b, off + k * 12 + 11, none⟩ = some (vc k) := by simpa [Yl] using hc k 11 _ hlt rfl
   clear hc
   obtain ⟨b', off', rfl, hb', hc⟩ := (hB.ext hE) (by omega)
   have d0 : wo.cell? ⟨b', off' + k * 12, none⟩ = some (.string (g k).h) := by simpa [Yl] using hc k 0 _ hlt rfl
   have d1 : wo.cell? ⟨b', off' + k * 12 + 1, none⟩ = some (.int .i64 (g k).a.y) := by simpa [Yl] using hc k 1 _ hlt rfl
   have d2 : wo.cell? ⟨b', off' + k * 12 + 2, none⟩ = some (.int .i64 (g k).a.m) := by simpa [Yl] using hc k 2 _ hlt rfl
   have d3 : wo.cell? ⟨b', off' + k * 12 + 3, none⟩ = some (.bool (g k).a.s) := by simpa [Yl] using hc k 3 _ hlt rfl
   have d4 : wo.cell? ⟨b', off' + k * 12 + 4, none⟩ = some (.int .i64 (g k).a.d) := by simpa [Yl] using hc k 4 _ hlt rfl
   have d5 : wo.cell? ⟨b', off' + k * 12 + 5, none⟩ = some (.int .i64 (g k).b.y) := by simpa [Yl] using hc k 5 _ hlt rfl
   have d6 : wo.cell? ⟨b', off' + k * 12 + 6, none⟩ = some (.int .i64 (g k).b.m) := by simpa [Yl] using hc k 6 _ hlt rfl
   have d7 : wo.cell? ⟨b', off' + k * 12 + 7, none⟩ = some (.bool (g k).b.s) := by simpa [Yl] using hc k 7 _ hlt rfl
   have d8 : wo.cell? ⟨b', off' + k * 12 + 8, none⟩ = some (.int .i64 (g k).b.d) := by simpa [Yl] using hc k 8 _ hlt rfl
   have d9 : wo.cell? ⟨b', off' + k * 12 + 9, none⟩ = some (uo k) := by simpa [Yl] using hc k 9 _ hlt rfl
   have d10 : wo.cell? ⟨b', off' + k * 12 + 10, none⟩ = some (ud k) := by simpa [Yl] using hc k 10 _ hlt rfl
   have d11 : wo.cell? ⟨b', off' + k * 12 + 11, none⟩ = some (uc k) := by simpa [Yl] using hc k 11 _ hlt rfl
   clear hc
   have P1 := (hat.out k hlt).ext hE
   have P2 := (hbt.out k hlt).ext hE
   clear hat hbt hD hB
   generalize g k = G at *
   generalize vo k = v1 at *
   generalize vd k = v2 at *
   generalize vc k = v3 at *
   generalize uo k = u1 at *
   generalize ud k = u2 at *
   generalize uc k = u3 at *
   obtain ⟨t1, s1, e1, _⟩ := id P1.o
   subst e1
   obtain ⟨t2, s2, _, e2, _⟩ := id P1.d
   subst e2
   obtain ⟨t3, s3, e3, _⟩ := id P1.c
   subst e3
   obtain ⟨t4, s4, e4, _⟩ := id P2.o
   subst e4
   obtain ⟨t5, s5, _, e5, _⟩ := id P2.d
   subst e5
   obtain ⟨t6, s6, e6, _⟩ := id P2.c
   subst e6
   have NS := fun w h1 h2 => Ii G (.slice t1 G.o.length s1) (.slice t2 G.d.length s2) (.slice t3 G.c.length s3) (.slice t4 G.o.length s4) (.slice t5 G.d.length s5) (.slice t6 G.c.length s6) w h1 h2
   go_upto_region 6 with (fail)
   refine Q8 wo Qm (by kernel_rfl) (by repeat (first | exact Qa.refl _ | (refine Qa.alloc ?_ _) | (refine Qa.trans ?_ (by assumption)))) ?_
   intro hne hrx hry
   try simp only []
   try simp only [List.append_eq, List.cons_append, List.nil_append]
   skip
   repeat (first
    | go_big_quiet_skip
    | (go_big_quiet_want; go_big_quiet_op; go_big_quiet_on)
    | (go_big_quiet_want; go_big_quiet_op; apply Exists.intro; refine ⟨fun u => ?_, ?_⟩
       ·first
         | (go_at_call 14; (with_reducible refine Calls.mono (NS _ (P1.ext u.e) (P2.ext u.e)) ?_); rintro e w' ⟨rfl, hb⟩; exact ⟨rfl, u.back hb⟩)
       go_big_quiet_on))
   clear hne hry hrx
   refine wpQuiet_nil ?_
   intro w2 h2
   obtain ⟨hcw2, hfw2, hzw2⟩ := Qa.rules h2
   try simp only [World.size_alloc] at hzw2
   obtain ⟨hcbw2, hfbw2, hzbw2⟩ := Qa.rules (show Qa wo w2 from (by repeat (first | exact Qa.refl _ | (refine Qa.alloc ?_ _) | (refine Qa.trans ?_ (by assumption)))))
   clear hcw2 hfw2
   go_wp2
   exact ⟨⟨k + 1, by omega, by go_num, hE.trans h2⟩, by simp [intOf]; omega⟩
  ·obtain rfl : k = n := by omega
   go_wp2
   go_ret
   exact ⟨rfl, hE⟩
theorem copyAllR_any (v : Value) (l : List Pd) (w : World) (h1 : U5 w v l) (hL : ∀ i, i < l.length → (l.getD i Ww).Light) (hsd : l.length * 152 ≤ 140737488351232) :
  Calls Tryz.prog 16 #[v] w fun e w' => ∃ v', e = .returned v' ∧ Qa w w' ∧ PersOwn w' w.heap.size v' l.length (fun i => l.getD i Ww) := by
 obtain ⟨i0, hi, hz0, hz1, hz2⟩ := info_parts info_perQ
 obtain ⟨D, cap, vo, vd, vc, rfl, hD, hcap, hmax, _, hat0⟩ := h1
 have hn : l.length ≤ 9223372036854775807 := Nat.le_trans hcap (Nat.le_trans hmax (by decide))
 clear hcap hmax
 obtain ⟨g, hg⟩ := Qg (fun i => l.getD i Ww)
 have hg' : ∀ i, l.getD i Ww = g i := fun i => by rw [hg]
 simp only [hg'] at hD hat0 hL ⊢
 clear hg hg'
 generalize l.length = n at *
 have hat := Lib.hid hat0
 replace hL := Lib.hid hL
 clear hat0
 go_enter Tryz.func16, Tryz.ntmps16
 go_upto_region 3 with (fail)
 go_loopw [3, 4] (fun ov iv wr => ∃ k : Nat, k ≤ n ∧ iv = .int .i64 k ∧ PersOwn wr w.heap.size ov k g ∧ Qa w wr) (fun _ i _ => n - (intOf i).toNat)
 case atStart => exact ⟨0, Nat.zero_le _, rfl, pers_nil _ _ _, Qa.refl _⟩
 case round =>
  obtain ⟨k, hk, rfl, ⟨ro, rd, rc, hO, hLo0⟩, hE⟩ := hrel
  have hLo := Lib.hid hLo0
  clear hLo0
  obtain ⟨wo, rfl⟩ := Qg wr
  obtain ⟨FO, mO, rfl⟩ := Z5 hO
  by_cases hlt : k < n
  ·obtain ⟨b, off, rfl, hb, hc⟩ := (hD.ext hE) (by omega)
   have c0 : wo.cell? ⟨b, off + k * 12, none⟩ = some (.string (g k).h) := by simpa [Yl] using hc k 0 _ hlt rfl
   have c1 : wo.cell? ⟨b, off + k * 12 + 1, none⟩ = some (.int .i64 (g k).a.y) := by simpa [Yl] using hc k 1 _ hlt rfl
   have c2 : wo.cell? ⟨b, off + k * 12 + 2, none⟩ = some (.int .i64 (g k).a.m) := by simpa [Yl] using hc k 2 _ hlt rfl
   have c3 : wo.cell? ⟨b, off + k * 12 + 3, none⟩ = some (.bool (g k).a.s) := by simpa [Yl] using hc k 3 _ hlt rfl
   have c4 : wo.cell? ⟨b, off + k * 12 + 4, none⟩ = some (.int .i64 (g k).a.d) := by simpa [Yl] using hc k 4 _ hlt rfl
   have c5 : wo.cell? ⟨b, off + k * 12 + 5, none⟩ = some (.int .i64 (g k).b.y) := by simpa [Yl] using hc k 5 _ hlt rfl
   have c6 : wo.cell? ⟨b, off + k * 12 + 6, none⟩ = some (.int .i64 (g k).b.m) := by simpa [Yl] using hc k 6 _ hlt rfl
   have c7 : wo.cell? ⟨b, off + k * 12 + 7, none⟩ = some (.bool (g k).b.s) := by simpa [Yl] using hc k 7 _ hlt rfl
   have c8 : wo.cell? ⟨b, off + k * 12 + 8, none⟩ = some (.int .i64 (g k).b.d) := by simpa [Yl] using hc k 8 _ hlt rfl
   have c9 : wo.cell? ⟨b, off + k * 12 + 9, none⟩ = some (vo k) := by simpa [Yl] using hc k 9 _ hlt rfl
   have c10 : wo.cell? ⟨b, off + k * 12 + 10, none⟩ = some (vd k) := by simpa [Yl] using hc k 10 _ hlt rfl
   have c11 : wo.cell? ⟨b, off + k * 12 + 11, none⟩ = some (vc k) := by simpa [Yl] using hc k 11 _ hlt rfl
   clear hc
   have P1 := (hat.out k hlt).ext hE
   have hLk := hL.out k hlt
   clear hat hD hL
   obtain ⟨G, hG⟩ := Qg (g k)
   rw [← hG] at P1 hLk c0 c1 c2 c3 c4 c5 c6 c7 c8
   replace hG := Lib.hid hG
   generalize vo k = v1 at *
   generalize vd k = v2 at *
   generalize vc k = v3 at *
   obtain ⟨t1, s1, e1, _⟩ := id P1.o
   subst e1
   obtain ⟨t2, s2, _, e2, _⟩ := id P1.d
   subst e2
   obtain ⟨t3, s3, e3, _⟩ := id P1.c
   subst e3
   have NC := fun w h => Qe3 G (.slice t1 G.o.length s1) (.slice t2 G.d.length s2) (.slice t3 G.c.length s3) w h hLk.o hLk.c hLk.l hLk.d
   have NC1 := NC wo P1
   clear NC
   go_wp2_with (first | (go_at_call 8; (with_reducible refine Calls.mono (NC1) ?_); rintro e w4 ⟨uo, ud, uc, rfl, h4, PO⟩; obtain ⟨F1, m1, rfl⟩ := Z5 PO.o; obtain ⟨F2, m2, rfl⟩ := G0 PO.d; obtain ⟨F3, m3, rfl⟩ := Z5 PO.c) | (at_builtin; refine wpList_append_own_at _ rfl _ _ 41 rfl w.heap.size 31 i0 (.agg #[.string ⟨#[]⟩, .int .i64 0, .int .i64 0, .bool false, .int .i64 0, .int .i64 0, .int .i64 0, .bool false, .int .i64 0, .slice none 0 0, .slice none 0 0, .slice none 0 0]) 12 152 Tryz.underlying41 hi hz0 hz1 hz2 rfl (by decide) _ _ _ rfl ((Q5 hO h4).alloc _) ⟨w4.heap.size, 0, none⟩ 1 1 (Yl G (.slice F1 G.o.length m1) (.slice F2 G.d.length m2) (.slice F3 G.c.length m3)) rfl rfl (Xy _ _ _) (cells_perQ _ _ _ _ _ _ _ _ _ _) (by unfold maxLen; omega) (by omega) (by have := (hE.trans h4).size; simp; omega) ?_; intro o' w5 hown hgrow _ _))
   have E5 : Qa w w5 := ((hE.trans h4).alloc _).grown hgrow (fun q hq => (hO.lt q hq).1)
   have D5 : PersOwn w5 w.heap.size o' (k + 1) g := pers_push (Q5 hO h4) (fun i hi => (hLo.out i hi).ext h4) (by rw [← hG.out]; exact PO.le hE.size) (by rw [← hG.out]; exact hown) hgrow
   exact ⟨⟨k + 1, by omega, by go_num, D5, E5⟩, by simp [intOf]; omega⟩
  ·obtain rfl : k = n := by omega
   go_wp2
   go_ret
   exact ⟨_, rfl, hE, ro, rd, rc, hO, hLo.out⟩
end Go.Proofs.YtneiofnlmblglaaGreatDoor
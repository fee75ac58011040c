/- Walks of the program's functions and plain facts, packed; proved: the lemmas below; no conditions but those that each states. -/
import Derived.Test.YtoflcheopfppoaaGreatDoorJ10
import Derived.Test.YtoflcheopfppoaaGreatDoorJ3
set_option maxRecDepth 100000
set_option maxHeartbeats 4000000
namespace Go.Proofs.YtoflcheopfppoaaGreatDoor
section
def Qj {α : Type} (f : Nat → α) (k : Nat) (v : α) : Nat → α := fun x => if x = k then v else f x
theorem Zw {α : Type} (f : Nat → α) (k : Nat) (v : α) : Qj f k v k = v := by simp [Qj]
theorem Zf {α : Type} (f : Nat → α) {k x : Nat} (v : α) (h : x ≠ k) : Qj f k v x = f x := by simp [Qj, h]
/-- The partners of the ins, those of the outs. -/
abbrev Mt := (Nat → Int) × (Nat → Int)
abbrev Bl := Nat → Bool
def Y7 (s : Mt) (k i : Nat) : Mt := (Qj s.1 k i, Qj s.2 i k)
def Z2 (rec : Mt → Bl → Nat → Option Mt × Bl) (i : Nat) : List Nat → Mt → Bl → Option Mt × Bl
 | [], _, b => (none, b)
 | k :: r, m, b =>
  if b k then Z2 rec i r m b
  else if m.1 k < 0 then (some (Y7 m k i), Qj b k true)
  else match rec m (Qj b k true) (m.1 k).toNat with
   | (some m', b') => (some (Y7 m' k i), b')
   | (none, b') => Z2 rec i r m b'
def Q9 (adj : Nat → List Nat) : Nat → Mt → Bl → Nat → Option Mt × Bl
 | 0, _, b, _ => (none, b)
 | n + 1, m, b, i => Z2 (Q9 adj n) i (adj i) m b
def Jy : Nat → Bl → Nat
 | 0, _ => 0
 | n + 1, b => Jy n b + (if b n then 0 else 1)
theorem Lp : ∀ (n : Nat) (b : Bl), Jy n b ≤ n
 | 0, _ => Nat.le_refl _
 | n + 1, b => by have := Lp n b; unfold Jy; split <;> omega
theorem Gp {b b' : Bl} (h : ∀ k, b k = true → b' k = true) : ∀ n, Jy n b' ≤ Jy n b
 | 0 => Nat.le_refl _
 | n + 1 => by
  have := Gp h n
  unfold Jy
  by_cases e : b n = true
  ·simp [e, h n e, this]
  ·by_cases e' : b' n = true <;> simp [e, e'] <;> omega
theorem Gq {b : Bl} {k : Nat} (hb : b k = false) : ∀ {n : Nat}, k < n → Jy n (Qj b k true) + 1 = Jy n b
 | n + 1, hk => by
  unfold Jy
  by_cases e : n = k
  ·subst e
   have h : Jy n (Qj b n true) = Jy n b := by
    have : ∀ m, m ≤ n → Jy m (Qj b n true) = Jy m b := fun m => by
     induction m with
     | zero => intro _; rfl
     | succ m ih => intro hm; unfold Jy; rw [ih (by omega), Zf b true (show m ≠ n by omega)]
    exact this n (Nat.le_refl _)
   rw [h, Zw, hb]; simp
  ·have := Gq hb (n := n) (by omega)
   rw [Zf b true e]; omega
theorem Gr {b : Bl} : ∀ {n : Nat}, Jy n b = 0 → ∀ k, k < n → b k = true
 | n + 1, h, k, hk => by
  unfold Jy at h
  by_cases e : k = n
  ·subst e
   cases hb : b k
   ·rw [hb] at h; simp at h
   ·rfl
  ·exact Gr (n := n) (by omega) k (by omega)
theorem T8 {rec : Mt → Bl → Nat → Option Mt × Bl} {i : Nat} {m : Mt} {b : Bl} : ∀ {l : List Nat}, (∀ k ∈ l, b k = true) → Z2 rec i l m b = (none, b)
 | [], _ => rfl
 | k :: r, h => by
  unfold Z2
  rw [if_pos (h k List.mem_cons_self)]
  exact T8 fun x hx => h x (List.mem_cons_of_mem _ hx)
theorem aug_eq {adj : Nat → List Nat} {ni n : Nat} {m : Mt} {b : Bl} {i : Nat} (hi : ∀ k ∈ adj i, k < ni) (h : Jy ni b ≤ n) : Q9 adj n m b i = Z2 (Q9 adj (n - 1)) i (adj i) m b := by
 cases n with
 | zero => rw [T8 fun k hk => Gr (Nat.le_zero.1 h) k (hi k hk)]; rfl
 | succ n => rfl
theorem Hz {rec : Mt → Bl → Nat → Option Mt × Bl} (hr : ∀ m b i k, b k = true → (rec m b i).2 k = true) {i : Nat} {m : Mt} : ∀ {l : List Nat} {b : Bl} {k : Nat}, b k = true → (Z2 rec i l m b).2 k = true
 | [], _, _, h => h
 | x :: r, b, k, h => by
  have hu : Qj b x true k = true := by
   by_cases e : k = x
   ·subst e; exact Zw _ _ _
   ·rw [Zf b true e]; exact h
  unfold Z2
  split
  ·exact Hz hr h
  split
  ·exact hu
  ·have h1 := hr m (Qj b x true) (m.1 x).toNat k hu
   generalize rec m (Qj b x true) (m.1 x).toNat = R at *
   obtain ⟨o, b'⟩ := R
   cases o with
   | none => exact Hz hr h1
   | some m' => exact h1
theorem Vr (adj : Nat → List Nat) : ∀ (n : Nat) (m : Mt) (b : Bl) (i k : Nat), b k = true → (Q9 adj n m b i).2 k = true
 | 0, _, _, _, _, h => h
 | n + 1, _, _, _, _, h => Hz (Vr adj n) h
/-- What a search that failed has seen: it is closed. -/
def Hg (adj : Nat → List Nat) (m : Mt) (l : List Nat) (b b' : Bl) : Prop :=
 (∀ k ∈ l, b' k = true) ∧ (∀ k, b k = true → b' k = true) ∧ ∀ k, b' k = true → b k = false → 0 ≤ m.1 k ∧ ∀ k2 ∈ adj (m.1 k).toNat, b' k2 = true
theorem Hy {adj : Nat → List Nat} {ni n : Nat} {m : Mt} {i : Nat} (IH : ∀ b j b', Jy ni b ≤ n → Q9 adj n m b j = (none, b') → Hg adj m (adj j) b b') : ∀ {l : List Nat} {b b' : Bl}, (∀ k ∈ l, k < ni) → Jy ni b ≤ n + 1 → Z2 (Q9 adj n) i l m b = (none, b') → Hg adj m l b b'
 | [], b, b', _, _, h => by
  obtain rfl : b = b' := by simpa [Z2] using h
  exact ⟨fun k hk => absurd hk (by simp), fun k h => h, fun k h h' => by rw [h] at h'; exact absurd h' (by decide)⟩
 | k :: r, b, b', hl, hc, h => by
  unfold Z2 at h
  have hr : ∀ x ∈ r, x < ni := fun x hx => hl x (List.mem_cons_of_mem _ hx)
  split at h
  ·rename_i hb
   obtain ⟨h1, h2, h3⟩ := Hy IH hr hc h
   refine ⟨fun x hx => ?_, h2, h3⟩
   rcases List.mem_cons.1 hx with rfl | hx
   ·exact h2 _ hb
   ·exact h1 x hx
  rename_i hb
  split at h
  ·exact absurd h (by simp)
  rename_i hm
  have hb' : b k = false := by simpa using hb
  have hcu := Gq hb' (hl k List.mem_cons_self)
  have hmono := Vr adj n m (Qj b k true) (m.1 k).toNat
  generalize hR : Q9 adj n m (Qj b k true) (m.1 k).toNat = R at *
  obtain ⟨o, b2⟩ := R
  cases o with
  | some m' => exact absurd h (by simp)
  | none =>
   obtain ⟨g1, g2, g3⟩ := IH (Qj b k true) (m.1 k).toNat b2 (by omega) hR
   have hbb : ∀ x, b x = true → Qj b k true x = true := fun x hx => by
    by_cases e : x = k
    ·subst e; exact Zw _ _ _
    ·rw [Zf b true e]; exact hx
   obtain ⟨h1, h2, h3⟩ := Hy IH hr (Nat.le_trans (Gp (fun x hx => g2 x (hbb x hx)) ni) hc) h
   have hk : b' k = true := h2 k (g2 k (Zw _ _ _))
   refine ⟨fun x hx => ?_, fun x hx => h2 x (g2 x (hbb x hx)), fun x hx hx' => ?_⟩
   ·rcases List.mem_cons.1 hx with rfl | hx
    ·exact hk
    ·exact h1 x hx
   ·by_cases e : x = k
    ·subst e
     exact ⟨by omega, fun k2 hk2 => h2 k2 (g1 k2 hk2)⟩
    ·cases e2 : b2 x
     ·exact h3 x hx e2
     ·obtain ⟨q1, q2⟩ := g3 x e2 (by rw [Zf b true e]; exact hx')
      exact ⟨q1, fun k2 hk2 => h2 k2 (q2 k2 hk2)⟩
theorem Sa {adj : Nat → List Nat} {ni : Nat} (hadj : ∀ o, ∀ k ∈ adj o, k < ni) {m : Mt} : ∀ (n : Nat) (b : Bl) (i : Nat) (b' : Bl), Jy ni b ≤ n → Q9 adj n m b i = (none, b') → Hg adj m (adj i) b b'
 | 0, b, i, b', hc, h => by
  obtain rfl : b = b' := by simpa [Q9] using h
  exact ⟨fun k hk => Gr (Nat.le_zero.1 hc) k (hadj i k hk), fun k h => h, fun k h h' => by rw [h] at h'; exact absurd h' (by decide)⟩
 | n + 1, b, i, b', hc, h => Hy (fun b j b' => Sa hadj n b j b') (fun k hk => hadj i k hk) hc h
/-- Outs and ins from which no way leads out. -/
def Clo (adj : Nat → List Nat) (fx : Bl) (m : Nat → Int) (A R : Nat → Prop) : Prop := (∀ o, A o → ∀ k ∈ adj o, R k ∨ fx k = true) ∧ ∀ k, R k → 0 ≤ m k ∧ A (m k).toNat
def Uh (adj : Nat → List Nat) (fx : Bl) (m : Nat → Int) (o : Nat) : Prop := ∃ A R, Clo adj fx m A R ∧ A o
theorem Pa {adj : Nat → List Nat} {ni n : Nat} {m : Mt} {fx : Bl} {i : Nat} (hadj : ∀ o, ∀ k ∈ adj o, k < ni) (hc : Jy ni fx ≤ n) (h : (Q9 adj n m fx i).1 = none) : Uh adj fx m.1 i := by
 obtain ⟨b', hb⟩ : ∃ b', Q9 adj n m fx i = (none, b') := ⟨(Q9 adj n m fx i).2, by rw [← h]⟩
 obtain ⟨h1, h2, h3⟩ := Sa hadj n fx i b' hc hb
 refine ⟨fun o => o = i ∨ ∃ k, b' k = true ∧ fx k = false ∧ (m.1 k).toNat = o, fun k => b' k = true ∧ fx k = false, ⟨fun o ho k hk => ?_, fun k hk => ?_⟩, .inl rfl⟩
 ·have hk' : b' k = true := by
   rcases ho with rfl | ⟨k0, g1, g2, rfl⟩
   ·exact h1 k hk
   ·exact (h3 k0 g1 g2).2 k hk
  cases e : fx k
  ·exact .inl ⟨hk', e⟩
  ·exact .inr rfl
 ·exact ⟨(h3 k hk.1 hk.2).1, .inr ⟨k, hk.1, hk.2, rfl⟩⟩
theorem Su {adj : Nat → List Nat} {fx : Bl} {m : Mt} {A R : Nat → Prop} (h : Clo adj fx m.1 A R) : ∀ (n : Nat) (b : Bl) (i : Nat), (∀ k, fx k = true → b k = true) → A i → (Q9 adj n m b i).1 = none
 | 0, _, _, _, _ => rfl
 | n + 1, b, i, hb, hi => by
  have go : ∀ (l : List Nat) (b : Bl), (∀ k ∈ l, k ∈ adj i) → (∀ k, fx k = true → b k = true) → (Z2 (Q9 adj n) i l m b).1 = none := fun l => by
   induction l with
   | nil => intro b _ _; rfl
   | cons k r ih =>
    intro b hl hb
    have hr : ∀ x ∈ r, x ∈ adj i := fun x hx => hl x (List.mem_cons_of_mem _ hx)
    unfold Z2
    split
    ·exact ih b hr hb
    rename_i hbk
    have hR : R k := by
     rcases h.1 i hi k (hl k List.mem_cons_self) with g | g
     ·exact g
     ·exact absurd (hb k g) hbk
    obtain ⟨g1, g2⟩ := h.2 k hR
    rw [if_neg (by omega)]
    have hu : ∀ x, fx x = true → Qj b k true x = true := fun x hx => by
     by_cases e : x = k
     ·subst e; exact Zw _ _ _
     ·rw [Zf b true e]; exact hb x hx
    have hn := Su h n (Qj b k true) (m.1 k).toNat hu g2
    have hm := fun x hx => Vr adj n m (Qj b k true) (m.1 k).toNat x (hu x hx)
    generalize Q9 adj n m (Qj b k true) (m.1 k).toNat = Q at *
    obtain ⟨o, b2⟩ := Q
    obtain rfl : o = none := hn
    exact ih b2 hr hm
  exact go (adj i) b (fun k hk => hk) hb
theorem St {adj : Nat → List Nat} {fx : Bl} {m : Mt} {A R : Nat → Prop} (h : Clo adj fx m.1 A R) : ∀ (n : Nat) (b : Bl) (i : Nat) (m' : Mt), (∀ k, fx k = true → b k = true) → (Q9 adj n m b i).1 = some m' → ∀ k, R k → m'.1 k = m.1 k
 | 0, _, _, _, _, hs => by simp [Q9] at hs
 | n + 1, b, i, m', hb, hs => by
  have go : ∀ (l : List Nat) (b : Bl), (∀ k, fx k = true → b k = true) → (Z2 (Q9 adj n) i l m b).1 = some m' → ∀ k, R k → m'.1 k = m.1 k := fun l => by
   induction l with
   | nil => intro b _ hs; simp [Z2] at hs
   | cons k r ih =>
    intro b hb hs
    unfold Z2 at hs
    split at hs
    ·exact ih b hb hs
    split at hs
    ·rename_i hm
     obtain rfl : Y7 m k i = m' := by simpa using hs
     intro x hx
     have := (h.2 x hx).1
     exact Zf _ _ (fun e => by subst e; omega)
    rename_i hm
    have hu : ∀ x, fx x = true → Qj b k true x = true := fun x hx => by
     by_cases e : x = k
     ·subst e; exact Zw _ _ _
     ·rw [Zf b true e]; exact hb x hx
    have hk := St h n (Qj b k true) (m.1 k).toNat
    have hnn := Su h n (Qj b k true) (m.1 k).toNat hu
    have hm2 := fun x hx => Vr adj n m (Qj b k true) (m.1 k).toNat x (hu x hx)
    generalize Q9 adj n m (Qj b k true) (m.1 k).toNat = Q at *
    obtain ⟨o, b2⟩ := Q
    cases o with
    | none => exact ih b2 hm2 hs
    | some m1 =>
     obtain rfl : Y7 m1 k i = m' := by simpa using hs
     intro x hx
     have h1 := hk m1 hu rfl x hx
     by_cases e : x = k
     ·subst e
      exact absurd (hnn (h.2 x hx).2) (by simp)
     ·exact (Zf _ _ e).trans h1
  exact go (adj i) b hb hs
theorem Qa6 {adj : Nat → List Nat} {fx : Bl} {m m' : Mt} {n i o : Nat} (hs : (Q9 adj n m fx i).1 = some m') (h : Uh adj fx m.1 o) : Uh adj fx m'.1 o := by
 obtain ⟨A, R, hc, ho⟩ := h
 refine ⟨A, R, ⟨hc.1, fun k hk => ?_⟩, ho⟩
 rw [St hc n fx i m' (fun _ h => h) hs k hk]
 exact hc.2 k hk
/-- How many ins have a partner; how many have that one. -/
def Js : Nat → (Nat → Int) → Int → Nat
 | 0, _, _ => 0
 | n + 1, m, x => Js n m x + (if m n = x then 1 else 0)
theorem Sx {m m' : Nat → Int} {x : Int} : ∀ {n : Nat}, (∀ k, k < n → m k = m' k) → Js n m x = Js n m' x
 | 0, _ => rfl
 | n + 1, h => by unfold Js; rw [Sx fun k hk => h k (by omega), h n (by omega)]
theorem Lm (m : Nat → Int) {k : Nat} (v x : Int) : ∀ {n : Nat}, k < n → Js n (Qj m k v) x + (if m k = x then 1 else 0) = Js n m x + (if v = x then 1 else 0)
 | n + 1, hk => by
  unfold Js
  by_cases e : n = k
  ·subst e
   rw [Sx (m' := m) fun j hj => Zf m v (by omega), Zw]; omega
  ·have := Lm m v x (n := n) (k := k) (by omega)
   rw [Zf m v e]; omega
theorem U5 {m : Nat → Int} {x : Int} : ∀ {n : Nat}, 0 < Js n m x → ∃ k, k < n ∧ m k = x
 | n + 1, h => by
  unfold Js at h
  by_cases e : m n = x
  ·exact ⟨n, by omega, e⟩
  ·rw [if_neg e] at h
   obtain ⟨k, h1, h2⟩ := U5 (n := n) (by omega)
   exact ⟨k, by omega, h2⟩
theorem Vs {m : Nat → Int} {x : Int} {k : Nat} : ∀ {n : Nat}, k < n → m k = x → 0 < Js n m x
 | n + 1, hk, h => by
  unfold Js
  by_cases e : k = n
  ·subst e; rw [if_pos h]; omega
  ·have := Vs (n := n) (show k < n by omega) h; omega
theorem Kj {m : Nat → Int} {x : Int} {k j : Nat} : ∀ {n : Nat}, Js n m x ≤ 1 → k < n → j < n → m k = x → m j = x → k = j
 | n + 1, h, hk, hj, h1, h2 => by
  unfold Js at h
  by_cases e : m n = x
  ·rw [if_pos e] at h
   by_cases e1 : k = n
   ·by_cases e2 : j = n
    ·omega
    ·have := Vs (n := n) (show j < n by omega) h2; omega
   ·have := Vs (n := n) (show k < n by omega) h1; omega
  ·have h3 : k ≠ n := fun e' => e (by rw [← e']; exact h1)
   have h4 : j ≠ n := fun e' => e (by rw [← e']; exact h2)
   exact Kj (n := n) (by omega) (by omega) (by omega) h1 h2
/-- The ins that are not fixed and have a partner. -/
def Zi : Nat → Bl → (Nat → Int) → Nat
 | 0, _, _ => 0
 | n + 1, fx, m => Zi n fx m + (if fx n = false ∧ 0 ≤ m n then 1 else 0)
theorem Oz {fx fx' : Bl} {m m' : Nat → Int} : ∀ {n : Nat}, (∀ k, k < n → fx k = fx' k ∧ (fx k = false → (0 ≤ m k ↔ 0 ≤ m' k))) → Zi n fx m = Zi n fx' m'
 | 0, _ => rfl
 | n + 1, h => by
  unfold Zi
  rw [Oz fun k hk => h k (by omega)]
  obtain ⟨h1, h2⟩ := h n (by omega)
  rw [← h1]
  congr 1
  by_cases e : fx n = false
  ·simp [e, h2 e]
  ·simp [e]
theorem O0 {fx : Bl} (m : Nat → Int) {k : Nat} (v : Int) (hf : fx k = false) : ∀ {n : Nat}, k < n → Zi n fx (Qj m k v) + (if 0 ≤ m k then 1 else 0) = Zi n fx m + (if 0 ≤ v then 1 else 0)
 | n + 1, hk => by
  unfold Zi
  by_cases e : n = k
  ·subst e
   rw [Oz (fx' := fx) (m' := m) fun j hj => ⟨rfl, fun _ => by rw [Zf m v (show j ≠ n by omega)]⟩, Zw]
   simp [hf]; omega
  ·have := O0 m v hf (n := n) (k := k) (by omega)
   rw [Zf m v e]; omega
theorem Ry {fx : Bl} {m : Nat → Int} {k : Nat} (hf : fx k = false) (hm : 0 ≤ m k) : ∀ {n : Nat}, k < n → Zi n (Qj fx k true) m + 1 = Zi n fx m
 | n + 1, hk => by
  unfold Zi
  by_cases e : n = k
  ·subst e
   rw [Oz (fx' := fx) (m' := m) fun j hj => ⟨Zf fx true (show j ≠ n by omega), fun _ => Iff.rfl⟩, Zw]
   simp [hf, hm]
  ·have := Ry hf hm (n := n) (k := k) (by omega)
   rw [Zf fx true e]; omega
/-- What a search that succeeded has made. -/
structure Ul (adj : Nat → List Nat) (ni : Nat) (fx : Bl) (m : Mt) (b : Bl) (i : Nat) (m' : Mt) : Prop where
 k : ∀ k, b k = true → m'.1 k = m.1 k
 a : ∀ k, m'.1 k = m.1 k ∨ (0 ≤ m'.1 k ∧ k ∈ adj (m'.1 k).toNat)
 c : ∀ x : Int, 0 ≤ x → Js ni m'.1 x = Js ni m.1 x + (if x = i then 1 else 0)
 p : ∀ k, 0 ≤ m.1 k → 0 ≤ m'.1 k
 s : Zi ni fx m'.1 = Zi ni fx m.1 + 1
theorem Qgv {adj : Nat → List Nat} {ni : Nat} {fx b : Bl} {m : Mt} {k i : Nat} (hk : k ∈ adj i) (hn : k < ni) (hb : b k = false) (hf : ∀ x, fx x = true → b x = true) (hm : m.1 k < 0) : Ul adj ni fx m b i (Y7 m k i) := by
 have hfk : fx k = false := by
  cases e : fx k
  ·rfl
  ·rw [hf k e] at hb; exact absurd hb (by decide)
 refine ⟨fun x hx => Zf _ _ (fun e => by subst e; rw [hx] at hb; exact absurd hb (by decide)), fun x => ?_, fun x hx => ?_, fun x hx => ?_, ?_⟩
 ·by_cases e : x = k
  ·subst e
   right
   show 0 ≤ Qj m.1 x i x ∧ x ∈ adj (Qj m.1 x i x).toNat
   rw [Zw]; exact ⟨by omega, by simpa using hk⟩
  ·exact .inl (Zf _ _ e)
 ·have := Lm m.1 (i : Int) x hn
  rw [if_neg (show m.1 k ≠ x by omega)] at this
  show Js ni (Qj m.1 k i) x = _
  by_cases e : x = i
  ·subst e; simpa using this
  ·rw [if_neg (fun e' => e e'.symm)] at this; simpa [e] using this
 ·show 0 ≤ Qj m.1 k i x
  by_cases e : x = k
  ·subst e; rw [Zw]; omega
  ·rw [Zf _ _ e]; exact hx
 ·have := O0 m.1 (i : Int) hfk hn
  rw [if_neg (show ¬ 0 ≤ m.1 k by omega), if_pos (show (0 : Int) ≤ i by omega)] at this
  exact this
theorem Qgw {adj : Nat → List Nat} {ni : Nat} {fx b : Bl} {m m1 : Mt} {k i : Nat} (hk : k ∈ adj i) (hn : k < ni) (hb : b k = false) (hf : ∀ x, fx x = true → b x = true) (hm : ¬ m.1 k < 0) (W : Ul adj ni fx m (Qj b k true) (m.1 k).toNat m1) : Ul adj ni fx m b i (Y7 m1 k i) := by
 have hfk : fx k = false := by
  cases e : fx k
  ·rfl
  ·rw [hf k e] at hb; exact absurd hb (by decide)
 have h1 : m1.1 k = m.1 k := W.k k (Zw _ _ _)
 have hp : ((m.1 k).toNat : Int) = m.1 k := by omega
 refine ⟨fun x hx => ?_, fun x => ?_, fun x hx => ?_, fun x hx => ?_, ?_⟩
 ·have e : x ≠ k := fun e => by subst e; rw [hx] at hb; exact absurd hb (by decide)
  exact (Zf _ _ e).trans (W.k x (by rw [Zf b true e]; exact hx))
 ·by_cases e : x = k
  ·subst e
   right
   show 0 ≤ Qj m1.1 x i x ∧ x ∈ adj (Qj m1.1 x i x).toNat
   rw [Zw]; exact ⟨by omega, by simpa using hk⟩
  ·show Qj m1.1 k i x = _ ∨ (0 ≤ Qj m1.1 k i x ∧ x ∈ adj (Qj m1.1 k i x).toNat)
   rw [Zf _ _ e]; exact W.a x
 ·have h2 := Lm m1.1 (i : Int) x hn
  have h3 := W.c x hx
  rw [hp] at h3
  rw [h1] at h2
  show Js ni (Qj m1.1 k i) x = _
  by_cases e : x = i
  ·subst e
   by_cases e2 : m.1 k = (i : Int)
   ·simp [e2] at h2 h3; simp; omega
   ·have e3 : ¬ (i : Int) = m.1 k := fun h => e2 h.symm
    simp [e2, e3] at h2 h3; simp; omega
  ·have e' : ¬ (i : Int) = x := fun h => e h.symm
   by_cases e2 : m.1 k = x
   ·subst e2; simp [e, e'] at h2 h3 ⊢; omega
   ·have e3 : ¬ x = m.1 k := fun h => e2 h.symm
    simp [e, e', e2, e3] at h2 h3 ⊢; omega
 ·show 0 ≤ Qj m1.1 k i x
  by_cases e : x = k
  ·subst e; rw [Zw]; omega
  ·rw [Zf _ _ e]; exact W.p x hx
 ·have h2 := O0 m1.1 (i : Int) hfk hn
  have h3 := W.s
  rw [h1, if_pos (show 0 ≤ m.1 k by omega), if_pos (show (0 : Int) ≤ i by omega)] at h2
  show Zi ni fx (Qj m1.1 k i) = _
  omega
theorem Gb {adj : Nat → List Nat} {ni : Nat} {fx : Bl} (hadj : ∀ o, ∀ k ∈ adj o, k < ni) {m : Mt} : ∀ (n : Nat) (b : Bl) (i : Nat) (m' : Mt), (∀ k, fx k = true → b k = true) → (Q9 adj n m b i).1 = some m' → Ul adj ni fx m b i m'
 | 0, _, _, _, _, hs => by simp [Q9] at hs
 | n + 1, b, i, m', hb, hs => by
  have go : ∀ (l : List Nat) (b0 b : Bl), (∀ k ∈ l, k ∈ adj i) → (∀ k, fx k = true → b0 k = true) → (∀ k, b0 k = true → b k = true) → (Z2 (Q9 adj n) i l m b).1 = some m' → Ul adj ni fx m b0 i m' := fun l => by
   induction l with
   | nil => intro b0 b _ _ _ hs; simp [Z2] at hs
   | cons k r ih =>
    intro b0 b hl h0 hb hs
    have hr : ∀ x ∈ r, x ∈ adj i := fun x hx => hl x (List.mem_cons_of_mem _ hx)
    have hki := hl k List.mem_cons_self
    unfold Z2 at hs
    split at hs
    ·exact ih b0 b hr h0 hb hs
    rename_i hbk
    have hbk' : b k = false := by simpa using hbk
    have hbk0 : b0 k = false := by
     cases e : b0 k
     ·rfl
     ·rw [hb k e] at hbk'; exact absurd hbk' (by decide)
    have weak : ∀ {m'' : Mt}, Ul adj ni fx m b i m'' → Ul adj ni fx m b0 i m'' := fun W => ⟨fun x hx => W.k x (hb x hx), W.a, W.c, W.p, W.s⟩
    have hfb : ∀ x, fx x = true → b x = true := fun x hx => hb x (h0 x hx)
    split at hs
    ·rename_i hm
     obtain rfl : Y7 m k i = m' := by simpa using hs
     exact weak (Qgv hki (hadj i k hki) hbk' hfb hm)
    rename_i hm
    have hu : ∀ x, b x = true → Qj b k true x = true := fun x hx => by
     by_cases e : x = k
     ·subst e; exact Zw _ _ _
     ·rw [Zf b true e]; exact hx
    have hk := fun m1 => Gb (fx := fx) hadj (m := m) n (Qj b k true) (m.1 k).toNat m1 (fun x hx => hu x (hfb x hx))
    have hm2 := fun x hx => Vr adj n m (Qj b k true) (m.1 k).toNat x (hu x hx)
    generalize Q9 adj n m (Qj b k true) (m.1 k).toNat = Q at *
    obtain ⟨o, b2⟩ := Q
    cases o with
    | none => exact ih b0 b2 hr h0 (fun x hx => hm2 x (hb x hx)) hs
    | some m1 =>
     obtain rfl : Y7 m1 k i = m' := by simpa using hs
     exact weak (Qgw hki (hadj i k hki) hbk' hfb hm (hk m1 rfl))
  exact go (adj i) b b (fun k hk => hk) hb (fun _ h => h) hs
/-- The outs' side of a state. -/
structure Inv (ni : Nat) (m : Mt) : Prop where
 o : ∀ o : Nat, 0 ≤ m.2 o → (m.2 o).toNat < ni ∧ m.1 (m.2 o).toNat = o
 i : ∀ k, k < ni → 0 ≤ m.1 k → 0 ≤ m.2 (m.1 k).toNat
structure Mq (ni : Nat) (m : Mt) (b : Bl) (i : Nat) (m' : Mt) : Prop where
 o : ∀ o : Nat, 0 ≤ m'.2 o → (m'.2 o).toNat < ni ∧ m'.1 (m'.2 o).toNat = o
 b : 0 ≤ m'.2 i ∧ b (m'.2 i).toNat = false
 p : ∀ o : Nat, 0 ≤ m.2 o → 0 ≤ m'.2 o
theorem Eh {ni : Nat} {b : Bl} {m : Mt} {k i : Nat} (hn : k < ni) (hb : b k = false) (ho : ∀ o : Nat, 0 ≤ m.2 o → (m.2 o).toNat < ni ∧ m.1 (m.2 o).toNat = o) (hk : ∀ o : Nat, o ≠ i → m.2 o ≠ k) : Mq ni m b i (Y7 m k i) := by
 refine ⟨fun o h => ?_, ?_, fun o h => ?_⟩
 ·have h' : 0 ≤ Qj m.2 i k o := h
  show (Qj m.2 i k o).toNat < ni ∧ Qj m.1 k i (Qj m.2 i k o).toNat = o
  by_cases e : o = i
  ·subst e; rw [Zw]; exact ⟨by omega, by rw [show ((k : Int)).toNat = k by omega, Zw]⟩
  ·rw [Zf _ _ e] at h' ⊢
   obtain ⟨h1, h2⟩ := ho o h'
   have h3 := hk o e
   exact ⟨h1, (Zf _ _ (by omega)).trans h2⟩
 ·show 0 ≤ Qj m.2 i k i ∧ b (Qj m.2 i k i).toNat = false
  rw [Zw]; exact ⟨by omega, by rw [show ((k : Int)).toNat = k by omega]; exact hb⟩
 ·show 0 ≤ Qj m.2 i k o
  by_cases e : o = i
  ·subst e; rw [Zw]; omega
  ·rw [Zf _ _ e]; exact h
theorem Gc {adj : Nat → List Nat} {ni : Nat} (hadj : ∀ o, ∀ k ∈ adj o, k < ni) {m : Mt} (ho : ∀ o : Nat, 0 ≤ m.2 o → (m.2 o).toNat < ni ∧ m.1 (m.2 o).toNat = o) : ∀ (n : Nat) (b : Bl) (i : Nat) (m' : Mt), (Q9 adj n m b i).1 = some m' → Mq ni m b i m' ∧ ∀ k, b k = true → m'.1 k = m.1 k
 | 0, _, _, _, hs => by simp [Q9] at hs
 | n + 1, b, i, m', hs => by
  have go : ∀ (l : List Nat) (b0 b : Bl), (∀ k ∈ l, k ∈ adj i) → (∀ k, b0 k = true → b k = true) → (Z2 (Q9 adj n) i l m b).1 = some m' → Mq ni m b0 i m' ∧ ∀ k, b0 k = true → m'.1 k = m.1 k := fun l => by
   induction l with
   | nil => intro b0 b _ _ hs; simp [Z2] at hs
   | cons k r ih =>
    intro b0 b hl hb hs
    have hr : ∀ x ∈ r, x ∈ adj i := fun x hx => hl x (List.mem_cons_of_mem _ hx)
    have hki := hadj i k (hl k List.mem_cons_self)
    unfold Z2 at hs
    split at hs
    ·exact ih b0 b hr hb hs
    rename_i hbk
    have hbk0 : b0 k = false := by
     cases e : b0 k
     ·rfl
     ·exact absurd (hb k e) hbk
    have hne : ∀ x, b0 x = true → x ≠ k := fun x hx e => by subst e; rw [hx] at hbk0; exact absurd hbk0 (by decide)
    split at hs
    ·rename_i hm
     obtain rfl : Y7 m k i = m' := by simpa using hs
     refine ⟨Eh hki hbk0 ho fun o _ h => ?_, fun x hx => Zf _ _ (hne x hx)⟩
     have := (ho o (by omega)).2
     rw [h, show ((k : Int)).toNat = k by omega] at this
     omega
    rename_i hm
    have hk := Gc hadj ho n (Qj b k true) (m.1 k).toNat
    have hm2 := fun x hx => Vr adj n m (Qj b k true) (m.1 k).toNat x hx
    generalize Q9 adj n m (Qj b k true) (m.1 k).toNat = Q at *
    obtain ⟨o, b2⟩ := Q
    have hu : ∀ x, b0 x = true → Qj b k true x = true := fun x hx => by rw [Zf b true (hne x hx)]; exact hb x hx
    cases o with
    | none => exact ih b0 b2 hr (fun x hx => hm2 x (hu x hx)) hs
    | some m1 =>
     obtain rfl : Y7 m1 k i = m' := by simpa using hs
     obtain ⟨W, hW⟩ := hk m1 rfl
     have hkk := hW k (Zw _ _ _)
     have W2 := Eh (b := b0) (m := m1) (i := i) hki hbk0 W.o fun o _ h => by
      have h1 := (W.o o (by omega)).2
      rw [h, show ((k : Int)).toNat = k by omega, hkk] at h1
      have h2 := W.b.2
      rw [show (m.1 k).toNat = o by omega, h, show ((k : Int)).toNat = k by omega, Zw] at h2
      exact absurd h2 (by decide)
     refine ⟨⟨W2.o, W2.b, fun o h => W2.p o (W.p o h)⟩, fun x hx => (Zf _ _ (hne x hx)).trans (hW x (hu x hx))⟩
  exact go (adj i) b b (fun k hk => hk) (fun _ h => h) hs
/-- A matching, kept as the ins' partners: those that are not fixed have partners among D. -/
structure Wg (adj : Nat → List Nat) (ni : Nat) (D : Nat → Prop) (fx : Bl) (m : Nat → Int) : Prop where
 a : ∀ k, k < ni → fx k = false → 0 ≤ m k → D (m k).toNat ∧ k ∈ adj (m k).toNat
 u : ∀ x : Int, 0 ≤ x → Js ni m x ≤ 1
 f : ∀ k, k < ni → fx k = true → 0 ≤ m k → ¬ D (m k).toNat
def Xe (ni : Nat) (m : Nat → Int) (o : Nat) : Prop := Js ni m (o : Int) = 0
structure X1 (adj : Nat → List Nat) (D : Nat → Prop) (fx : Bl) (M : List (Nat × Nat)) : Prop where
 a : ∀ p ∈ M, D p.1 ∧ p.2 ∈ adj p.1 ∧ fx p.2 = false
 o : M.Pairwise fun p q => p.1 ≠ q.1
 i : M.Pairwise fun p q => p.2 ≠ q.2
def Vd (fx : Bl) (m : Nat → Int) : Nat → List (Nat × Nat)
 | 0 => []
 | n + 1 => Vd fx m n ++ (if fx n = false ∧ 0 ≤ m n then [((m n).toNat, n)] else [])
theorem Aj (fx : Bl) (m : Nat → Int) : ∀ n, (Vd fx m n).length = Zi n fx m
 | 0 => rfl
 | n + 1 => by unfold Vd Zi; rw [List.length_append, Aj fx m n]; split <;> rfl
theorem Mk {fx : Bl} {m : Nat → Int} {p : Nat × Nat} : ∀ {n : Nat}, p ∈ Vd fx m n → p.2 < n ∧ fx p.2 = false ∧ 0 ≤ m p.2 ∧ p.1 = (m p.2).toNat
 | n + 1, h => by
  unfold Vd at h
  rcases List.mem_append.1 h with h | h
  ·obtain ⟨h1, h2⟩ := Mk h; exact ⟨by omega, h2⟩
  ·split at h
   ·rename_i e
    rw [List.mem_singleton] at h; subst h
    exact ⟨by simp, e.1, e.2, rfl⟩
   ·exact absurd h (by simp)
theorem Rz (fx : Bl) (m : Nat → Int) : ∀ n, (Vd fx m n).Pairwise fun p q => p.2 ≠ q.2
 | 0 => List.Pairwise.nil
 | n + 1 => by
  unfold Vd
  refine List.pairwise_append.2 ⟨Rz fx m n, by split <;> simp, fun p hp q hq => ?_⟩
  have h1 := (Mk hp).1
  split at hq
  ·rw [List.mem_singleton] at hq; subst hq; show p.2 ≠ n; omega
  ·exact absurd hq (by simp)
theorem Ti {adj : Nat → List Nat} {ni : Nat} {D : Nat → Prop} {fx : Bl} {m : Nat → Int} (V : Wg adj ni D fx m) : ∃ M, X1 adj D fx M ∧ M.length = Zi ni fx m := by
 refine ⟨Vd fx m ni, ⟨fun p hp => ?_, (Rz fx m ni).imp_of_mem fun {p q} hp hq hne e => ?_, Rz fx m ni⟩, Aj fx m ni⟩
 ·obtain ⟨h1, h2, h3, h4⟩ := Mk hp
  have := V.a p.2 h1 h2 h3
  rw [← h4] at this
  exact ⟨this.1, this.2, h2⟩
 ·obtain ⟨h1, h2, h3, h4⟩ := Mk hp
  obtain ⟨g1, g2, g3, g4⟩ := Mk hq
  exact hne (Kj (V.u (m p.2) h3) h1 g1 rfl (by omega))
theorem Rh {fx : Bl} {m : Nat → Int} : ∀ (n : Nat) (l : List Nat), l.Nodup → (∀ k ∈ l, k < n ∧ fx k = false ∧ 0 ≤ m k) → l.length ≤ Zi n fx m
 | 0, l, _, h => by
  cases l with
  | nil => exact Nat.le_refl _
  | cons k r => exact absurd (h k List.mem_cons_self).1 (by omega)
 | n + 1, l, hd, h => by
  by_cases e : n ∈ l
  ·have h1 := Rh n (l.erase n) (hd.erase n) (fun k hk => by
    obtain ⟨g1, g2⟩ := (hd.mem_erase_iff).1 hk
    obtain ⟨q1, q2⟩ := h k g2
    exact ⟨by omega, q2⟩)
   rw [List.length_erase_of_mem e] at h1
   have h2 := (h n e).2
   unfold Zi
   rw [if_pos h2]
   omega
  ·have := Rh n l hd fun k hk => by
    obtain ⟨q1, q2⟩ := h k hk
    have : k ≠ n := fun e' => e (by rw [← e']; exact hk)
    exact ⟨by omega, q2⟩
   unfold Zi; omega
theorem Pb {adj : Nat → List Nat} {ni : Nat} {D : Nat → Prop} {fx : Bl} {m : Nat → Int} (hadj : ∀ o, ∀ k ∈ adj o, k < ni) (V : Wg adj ni D fx m) (hd : ∀ o, D o → Xe ni m o → Uh adj fx m o) {M : List (Nat × Nat)} (hM : X1 adj D fx M) : M.length ≤ Zi ni fx m := by
 have each : ∀ p : Nat × Nat, ∃ k, p ∈ M → (k < ni ∧ fx k = false ∧ 0 ≤ m k) ∧ ((Uh adj fx m p.1 ∧ k = p.2 ∧ Uh adj fx m (m k).toNat) ∨ (¬ Uh adj fx m p.1 ∧ m k = p.1)) := fun p => by
  by_cases hp : p ∈ M
  ·obtain ⟨h1, h2, h3⟩ := hM.a p hp
   by_cases e : Uh adj fx m p.1
   ·obtain ⟨A, R, hc, hA⟩ := id e
    have hR : R p.2 := by
     rcases hc.1 p.1 hA p.2 h2 with g | g
     ·exact g
     ·rw [h3] at g; exact absurd g (by decide)
    obtain ⟨g1, g2⟩ := hc.2 p.2 hR
    exact ⟨p.2, fun _ => ⟨⟨hadj p.1 p.2 h2, h3, g1⟩, .inl ⟨e, rfl, A, R, hc, g2⟩⟩⟩
   ·have hf : ¬ Xe ni m p.1 := fun h => e (hd p.1 h1 h)
    obtain ⟨k, hk, hm⟩ := U5 (n := ni) (m := m) (x := (p.1 : Int)) (by unfold Xe at hf; omega)
    refine ⟨k, fun _ => ⟨⟨hk, ?_, by omega⟩, .inr ⟨e, hm⟩⟩⟩
    cases hfk : fx k
    ·rfl
    ·exact absurd (by rw [hm]; exact h1) (V.f k hk hfk (by omega))
  ·exact ⟨0, fun h => absurd h hp⟩
 obtain ⟨g, hg⟩ := Classical.axiomOfChoice each
 have hpw : (M.map g).Nodup := by
  refine List.pairwise_map.2 ((hM.o.and hM.i).imp_of_mem fun {p q} hp hq hne e => ?_)
  obtain ⟨_, h1⟩ := hg p hp
  obtain ⟨_, h2⟩ := hg q hq
  rcases h1 with ⟨a1, a2, a3⟩ | ⟨a1, a2⟩
  ·rcases h2 with ⟨b1, b2, b3⟩ | ⟨b1, b2⟩
   ·exact hne.2 (by rw [← a2, ← b2, e])
   ·rw [e, b2] at a3; exact b1 (by simpa using a3)
  ·rcases h2 with ⟨b1, b2, b3⟩ | ⟨b1, b2⟩
   ·rw [← e, a2] at b3; exact a1 (by simpa using b3)
   ·rw [e] at a2; exact hne.1 (by omega)
 have := Rh ni (M.map g) hpw (fun k hk => by
  obtain ⟨p, hp, rfl⟩ := List.mem_map.1 hk
  exact (hg p hp).1)
 simpa using this
/-- How many can be matched. -/
def Nu (adj : Nat → List Nat) (D : Nat → Prop) (fx : Bl) (s : Nat) : Prop := (∃ M, X1 adj D fx M ∧ M.length = s) ∧ ∀ M, X1 adj D fx M → M.length ≤ s
theorem Nr {adj : Nat → List Nat} {D : Nat → Prop} {fx : Bl} {s t : Nat} (h1 : Nu adj D fx s) (h2 : Nu adj D fx t) : s = t := by
 obtain ⟨⟨M, hM, rfl⟩, h1⟩ := h1
 obtain ⟨⟨N, hN, rfl⟩, h2⟩ := h2
 have := h1 N hN
 have := h2 M hM
 omega
def Top (adj : Nat → List Nat) (ni : Nat) (D : Nat → Prop) (fx : Bl) (m : Nat → Int) : Prop := Wg adj ni D fx m ∧ ∀ M, X1 adj D fx M → M.length ≤ Zi ni fx m
theorem Top.nu {adj : Nat → List Nat} {ni : Nat} {D : Nat → Prop} {fx : Bl} {m : Nat → Int} (h : Top adj ni D fx m) : Nu adj D fx (Zi ni fx m) := ⟨Ti h.1, h.2⟩
theorem Ei {adj : Nat → List Nat} {ni : Nat} {D : Nat → Prop} {fx : Bl} {m m' : Mt} {i : Nat} (V : Wg adj ni D fx m.1) (hi : D i) (hf : Xe ni m.1 i) (W : Ul adj ni fx m fx i m') : Wg adj ni D fx m'.1 := by
 have hu : ∀ x : Int, 0 ≤ x → Js ni m'.1 x ≤ 1 := fun x hx => by
  rw [W.c x hx]
  by_cases e : x = i
  ·subst e; unfold Xe at hf; rw [hf]; simp
  ·rw [if_neg e]; exact V.u x hx
 refine ⟨fun k hk hfk h0 => ?_, hu, fun k hk hfk h0 => ?_⟩
 ·rcases W.a k with e | ⟨_, ha⟩
  ·rw [e] at h0 ⊢; exact V.a k hk hfk h0
  ·refine ⟨?_, ha⟩
   have hc := W.c (m'.1 k) h0
   by_cases e : m'.1 k = i
   ·rw [e]; simpa using hi
   ·rw [if_neg e] at hc
    have hp := Vs hk (rfl : m'.1 k = m'.1 k)
    obtain ⟨k1, g1, g2⟩ := U5 (n := ni) (m := m.1) (x := m'.1 k) (by omega)
    cases hf1 : fx k1
    ·have := (V.a k1 g1 hf1 (by omega)).1
     rw [g2] at this; exact this
    ·have h3 := W.k k1 hf1
     have h4 := Kj (hu _ h0) hk g1 rfl (h3.trans g2)
     subst h4
     rw [hfk] at hf1; exact absurd hf1 (by decide)
 ·rw [W.k k hfk] at h0 ⊢; exact V.f k hk hfk h0
theorem Qgc {adj : Nat → List Nat} {ni : Nat} {D : Nat → Prop} {fx : Bl} {m : Mt} (hadj : ∀ o, ∀ k ∈ adj o, k < ni) (V : Wg adj ni D fx m.1) (h : ∀ o, D o → Xe ni m.1 o → (Q9 adj ni m fx o).1 = none) : Top adj ni D fx m.1 :=
 ⟨V, fun _ hM => Pb hadj V (fun o ho hf => Pa hadj (Lp ni fx) (h o ho hf)) hM⟩
/-- The outs one after the other. -/
def Jn (adj : Nat → List Nat) (ni : Nat) (fx : Bl) : Nat → Nat → Mt → Mt × Nat
 | 0, _, m => (m, 0)
 | n + 1, s, m => match (Q9 adj ni m fx s).1 with
  | none => Jn adj ni fx n (s + 1) m
  | some m' => ((Jn adj ni fx n (s + 1) m').1, (Jn adj ni fx n (s + 1) m').2 + 1)
structure Kd (adj : Nat → List Nat) (ni f : Nat) (fx : Bl) (s : Nat) (m : Mt) : Prop where
 v : Wg adj ni (fun o => f ≤ o ∧ o < s) fx m.1
 x : ∀ k, k < ni → fx k = true → m.1 k < 0
 d : ∀ o, f ≤ o → o < s → Xe ni m.1 o → Uh adj fx m.1 o
 i : Inv ni m
theorem Pz {adj : Nat → List Nat} {ni : Nat} {fx : Bl} {m m' : Mt} {i : Nat} (I : Inv ni m) (W : Ul adj ni fx m fx i m') (O : Mq ni m fx i m') : Inv ni m' := by
 refine ⟨O.o, fun k hk h0 => ?_⟩
 have hc := W.c (m'.1 k) h0
 by_cases e : m'.1 k = i
 ·rw [e]; simpa using O.b.1
 ·rw [if_neg e] at hc
  have hp := Vs hk (rfl : m'.1 k = m'.1 k)
  obtain ⟨k1, g1, g2⟩ := U5 (n := ni) (m := m.1) (x := m'.1 k) (by omega)
  rw [← g2]
  exact O.p _ (I.i k1 g1 (by omega))
theorem Na {adj : Nat → List Nat} {ni f : Nat} {fx : Bl} (hadj : ∀ o, ∀ k ∈ adj o, k < ni) : ∀ (n s : Nat) (m : Mt), f ≤ s → Kd adj ni f fx s m → Kd adj ni f fx (s + n) (Jn adj ni fx n s m).1 ∧ Zi ni fx (Jn adj ni fx n s m).1.1 = Zi ni fx m.1 + (Jn adj ni fx n s m).2
 | 0, s, m, _, h => ⟨h, rfl⟩
 | n + 1, s, m, hs, h => by
  have hfree : Xe ni m.1 s := by
   unfold Xe
   refine Nat.eq_zero_of_not_pos fun hp => ?_
   obtain ⟨k, g1, g2⟩ := U5 hp
   cases e : fx k
   ·have := (h.v.a k g1 e (by omega)).1
    omega
   ·have := h.x k g1 e; omega
  have V' : Wg adj ni (fun o => f ≤ o ∧ o < s + 1) fx m.1 := ⟨fun k hk hf h0 => by
   obtain ⟨g1, g2⟩ := h.v.a k hk hf h0
   exact ⟨⟨g1.1, by have := g1.2; omega⟩, g2⟩, h.v.u, fun k hk hf h0 => by have := h.x k hk hf; omega⟩
  unfold Jn
  cases e : (Q9 adj ni m fx s).1 with
  | none =>
   have := Na hadj n (s + 1) m (by omega) ⟨V', h.x, fun o h1 h2 h3 => by
    by_cases e' : o = s
    ·subst e'; exact Pa hadj (Lp ni fx) e
    ·exact h.d o h1 (by omega) h3, h.i⟩
   rw [show s + (n + 1) = s + 1 + n by omega]
   exact this
  | some m' =>
   have W := Gb (fx := fx) hadj ni fx s m' (fun _ h => h) e
   obtain ⟨O, _⟩ := Gc hadj h.i.o ni fx s m' e
   have V2 := Ei V' ⟨hs, by simp⟩ hfree W
   obtain ⟨g1, g2⟩ := Na hadj n (s + 1) m' (by omega) ⟨V2, fun k hk hf => by rw [W.k k hf]; exact h.x k hk hf, fun o h1 h2 h3 => by
    have hc := W.c (o : Int) (by omega)
    unfold Xe at h3
    by_cases e' : o = s
    ·subst e'; rw [if_pos rfl] at hc; omega
    ·exact Qa6 e (h.d o h1 (by omega) (by unfold Xe; omega)), Pz h.i W O⟩
   rw [show s + (n + 1) = s + 1 + n by omega]
   refine ⟨g1, ?_⟩
   have := W.s
   simp only
   omega
theorem Qb1 {adj : Nat → List Nat} {ni f : Nat} {fx : Bl} (hadj : ∀ o, ∀ k ∈ adj o, k < ni) {s : Nat} {m : Mt} (hs : f ≤ s) (h : Kd adj ni f fx s m) : Kd adj ni f fx (s + 1) ((Q9 adj ni m fx s).1.getD m) ∧ ∀ n, (Jn adj ni fx (n + 1) s m).1 = (Jn adj ni fx n (s + 1) ((Q9 adj ni m fx s).1.getD m)).1 := by
 have g := (Na hadj 1 s m hs h).1
 unfold Jn at g
 constructor
 ·cases e : (Q9 adj ni m fx s).1 with
  | none => rw [e] at g; exact g
  | some m' => rw [e] at g; exact g
 ·intro n
  conv => lhs; unfold Jn
  cases e : (Q9 adj ni m fx s).1 with
  | none => rfl
  | some m' => rfl
def J9 : Mt := (fun _ => -1, fun _ => -1)
theorem Qay (ni : Nat) (x : Int) (hx : 0 ≤ x) : Js ni J9.1 x = 0 := by
 refine Nat.eq_zero_of_not_pos fun hp => ?_
 obtain ⟨k, _, h⟩ := U5 hp
 have h : (-1 : Int) = x := h
 omega
theorem Ah (fx : Bl) : ∀ ni, Zi ni fx J9.1 = 0
 | 0 => rfl
 | n + 1 => by unfold Zi; rw [Ah fx n, if_neg (by rintro ⟨_, h⟩; have h : (0 : Int) ≤ -1 := h; omega)]
theorem Pk (adj : Nat → List Nat) (ni f : Nat) (fx : Bl) : Kd adj ni f fx f J9 :=
 ⟨⟨fun k _ _ h => by have h : (0 : Int) ≤ -1 := h; omega, fun x hx => by rw [Qay ni x hx]; omega, fun k _ _ h => by have h : (0 : Int) ≤ -1 := h; omega⟩, fun k _ _ => by show (-1 : Int) < 0; omega, fun o h1 h2 _ => by omega, ⟨fun o h => by have h : (0 : Int) ≤ -1 := h; omega, fun k _ h => by have h : (0 : Int) ≤ -1 := h; omega⟩⟩
theorem Pm {adj : Nat → List Nat} {ni : Nat} (hadj : ∀ o, ∀ k ∈ adj o, k < ni) (fx : Bl) (f n : Nat) : Top adj ni (fun o => f ≤ o ∧ o < f + n) fx (Jn adj ni fx n f J9).1.1 ∧ Inv ni (Jn adj ni fx n f J9).1 ∧ Nu adj (fun o => f ≤ o ∧ o < f + n) fx (Jn adj ni fx n f J9).2 := by
 obtain ⟨g1, g2⟩ := Na hadj n f J9 (Nat.le_refl _) (Pk adj ni f fx)
 have T : Top adj ni (fun o => f ≤ o ∧ o < f + n) fx (Jn adj ni fx n f J9).1.1 := ⟨g1.v, fun M hM => Pb hadj g1.v (fun o ho hf => g1.d o ho.1 ho.2 hf) hM⟩
 have h := T.nu
 rw [g2, Ah, Nat.zero_add] at h
 exact ⟨T, g1.i, h⟩
theorem G7 {ni : Nat} {m : Mt} {o : Nat} (I : Inv ni m) : m.2 o < 0 ↔ Xe ni m.1 o := by
 unfold Xe
 constructor
 ·intro h
  refine Nat.eq_zero_of_not_pos fun hp => ?_
  obtain ⟨k, g1, g2⟩ := U5 hp
  have := I.i k g1 (by omega)
  rw [g2] at this
  have : 0 ≤ m.2 o := by simpa using this
  omega
 ·intro h
  refine Int.not_le.1 fun h0 => ?_
  obtain ⟨g1, g2⟩ := I.o o h0
  have := Vs g1 g2
  omega
theorem Ag {fx : Bl} {m : Nat → Int} {k : Nat} (hm : ¬ 0 ≤ m k) : ∀ {n : Nat}, Zi n (Qj fx k true) m = Zi n fx m
 | 0 => rfl
 | n + 1 => by
  unfold Zi
  rw [Ag hm]
  by_cases e : n = k
  ·subst e; simp [hm]
  ·rw [Zf fx true e]
/-- An out and an in made a pair, whatever partners they had. -/
def Z4 (m : Mt) (i : Nat) : Nat → Int := if 0 ≤ m.2 i then Qj m.1 (m.2 i).toNat (-1) else m.1
def J1 (m : Mt) (i k : Nat) : Mt := (Qj (Z4 m i) k i, Qj (if 0 ≤ m.1 k then Qj m.2 (m.1 k).toNat (-1) else m.2) i k)
def Ww (adj : Nat → List Nat) (ni : Nat) (fx : Bl) : Nat → Nat → Mt → Option Mt
 | 0, _, _ => none
 | n + 1, j, m => if m.2 j < 0 then (match (Q9 adj ni m fx j).1 with | some m' => some m' | none => Ww adj ni fx n (j + 1) m) else Ww adj ni fx n (j + 1) m
def Y0 (adj : Nat → List Nat) (ni no : Nat) (fx : Bl) (m : Mt) (i k : Nat) : Option Mt :=
 if m.2 i < 0 ∨ m.1 k < 0 then some (J1 m i k) else Ww adj ni (Qj fx k true) (no - (i + 1)) (i + 1) (J1 m i k)
def Yq (adj : Nat → List Nat) (ni no : Nat) (i : Nat) : List Nat → Mt → Bl → Option (Nat × Mt × Bl)
 | [], _, _ => none
 | k :: r, m, fx =>
  if fx k then Yq adj ni no i r m fx
  else if m.2 i = k then some (k, m, Qj fx k true)
  else match Y0 adj ni no fx m i k with
   | some m' => some (k, m', Qj fx k true)
   | none => Yq adj ni no i r m fx
def Jr (adj : Nat → List Nat) (ni no : Nat) : Nat → Nat → Mt → Bl → List (Nat × Nat)
 | 0, _, _, _ => []
 | n + 1, i, m, fx => match Yq adj ni no i (adj i) m fx with
  | some (k, m', fx') => (i, k) :: Jr adj ni no n (i + 1) m' fx'
  | none => Jr adj ni no n (i + 1) m fx
/-- The reference's choice. -/
def Kx (adj : Nat → List Nat) (ni no : Nat) (i : Nat) (left : Int) (fx : Bl) : List Nat → Option Nat
 | [] => none
 | k :: r => if fx k then Kx adj ni no i left fx r else if ((Jn adj ni (Qj fx k true) (no - (i + 1)) (i + 1) J9).2 : Int) = left - 1 then some k else Kx adj ni no i left fx r
def Mf (adj : Nat → List Nat) (ni no : Nat) : Nat → Nat → Int → Bl → List (Nat × Nat)
 | 0, _, _, _ => []
 | n + 1, i, left, fx => match Kx adj ni no i left fx (adj i) with
  | some k => (i, k) :: Mf adj ni no n (i + 1) (left - 1) (Qj fx k true)
  | none => Mf adj ni no n (i + 1) left fx
def Yp (i no : Nat) : Nat → Prop := fun o => i ≤ o ∧ o < no
structure Wf (adj : Nat → List Nat) (ni no i : Nat) (fx : Bl) (m : Mt) : Prop where
 t : Top adj ni (Yp i no) fx m.1
 i : Inv ni m
theorem S0 {adj : Nat → List Nat} {no i k : Nat} {fx : Bl} {M : List (Nat × Nat)} (hM : X1 adj (Yp (i + 1) no) (Qj fx k true) M) (hi : i < no) (hk : k ∈ adj i) (hf : fx k = false) : X1 adj (Yp i no) fx ((i, k) :: M) := by
 refine ⟨fun p hp => ?_, List.pairwise_cons.2 ⟨fun q hq => ?_, hM.o⟩, List.pairwise_cons.2 ⟨fun q hq => ?_, hM.i⟩⟩
 ·rcases List.mem_cons.1 hp with rfl | hp
  ·exact ⟨⟨Nat.le_refl _, hi⟩, hk, hf⟩
  ·obtain ⟨h1, h2, h3⟩ := hM.a p hp
   refine ⟨⟨by have := h1.1; omega, h1.2⟩, h2, ?_⟩
   by_cases e : p.2 = k
   ·rw [e]; exact hf
   ·rw [Zf fx true e] at h3; exact h3
 ·have := (hM.a q hq).1.1
  show i ≠ q.1; omega
 ·intro e
  have := (hM.a q hq).2.2
  have e : k = q.2 := e
  rw [← e, Zw] at this
  exact absurd this (by decide)
theorem S2 {adj : Nat → List Nat} {no i k s : Nat} {fx : Bl} {M : List (Nat × Nat)} (hM : X1 adj (Yp (i + 1) no) (Qj fx k true) M) (hi : i < no) (hk : k ∈ adj i) (hf : fx k = false) (h : ∀ M, X1 adj (Yp i no) fx M → M.length ≤ s) : M.length + 1 ≤ s := h ((i, k) :: M) (S0 hM hi hk hf)
theorem Qgm {adj : Nat → List Nat} {ni no i k : Nat} {fx : Bl} {m : Nat → Int} (V : Wg adj ni (Yp i no) fx m) (hk : m k = i) (hn : k < ni) : Wg adj ni (Yp (i + 1) no) (Qj fx k true) m := by
 refine ⟨fun x hx hf h0 => ?_, V.u, fun x hx hf h0 => ?_⟩
 ·have e : x ≠ k := fun e => by subst e; rw [Zw] at hf; exact absurd hf (by decide)
  rw [Zf fx true e] at hf
  obtain ⟨g1, g2⟩ := V.a x hx hf h0
  refine ⟨⟨?_, g1.2⟩, g2⟩
  have h1 := g1.1
  refine Nat.lt_of_le_of_ne h1 fun h2 => e ?_
  exact Kj (V.u (i : Int) (by omega)) hx hn (by omega) hk
 ·by_cases e : x = k
  ·subst e; rw [hk]; intro h; have := h.1; simp only [Int.toNat_natCast] at this; omega
  ·rw [Zf fx true e] at hf
   have := V.f x hx hf h0
   exact fun h => this ⟨by have := h.1; omega, h.2⟩
theorem Qaj {adj : Nat → List Nat} {ni no i k : Nat} {fx : Bl} {m : Mt} (J : Wf adj ni no i fx m) (hi : i < no) (hk : k ∈ adj i) (hn : k < ni) (hf : fx k = false) (hm : m.1 k = i) : Wf adj ni no (i + 1) (Qj fx k true) m ∧ Zi ni (Qj fx k true) m.1 + 1 = Zi ni fx m.1 := by
 have hs := Ry hf (show 0 ≤ m.1 k by omega) hn
 refine ⟨⟨⟨Qgm J.t.1 hm hn, fun M hM => ?_⟩, J.i⟩, hs⟩
 have := S2 hM hi hk hf J.t.2
 omega
theorem Qf9 {adj : Nat → List Nat} {ni no i k : Nat} {fx : Bl} {m : Mt} (J : Wf adj ni no i fx m) (hi : i < no) (hn : k < ni) (hf : fx k = false) (hm : m.2 i ≠ k) :
  Wg adj ni (Yp (i + 1) no) (Qj fx k true) (J1 m i k).1 ∧ Inv ni (J1 m i k) ∧ Zi ni (Qj fx k true) (J1 m i k).1 + (if 0 ≤ m.2 i then 1 else 0) + (if 0 ≤ m.1 k then 1 else 0) = Zi ni fx m.1 := by
 have V := J.t.1
 have I := J.i
 -- the partner of i dropped
 have hold : ∀ h : 0 ≤ m.2 i, (m.2 i).toNat < ni ∧ m.1 (m.2 i).toNat = i ∧ (m.2 i).toNat ≠ k ∧ fx (m.2 i).toNat = false := fun h => by
  obtain ⟨g1, g2⟩ := I.o i h
  refine ⟨g1, g2, fun e => hm (by omega), ?_⟩
  cases e : fx (m.2 i).toNat
  ·rfl
  ·refine absurd ?_ (V.f _ g1 e (by omega))
   rw [g2]; exact ⟨by simp, by simpa using hi⟩
 have hA : ∀ x, Z4 m i x = m.1 x ∨ Z4 m i x = -1 := fun x => by
  unfold Z4
  split
  ·by_cases e : x = (m.2 i).toNat
   ·subst e; exact .inr (Zw _ _ _)
   ·exact .inl (Zf _ _ e)
  ·exact .inl rfl
 have hAk : Z4 m i k = m.1 k := by
  unfold Z4
  split
  ·rename_i h; exact Zf _ _ (fun e => (hold h).2.2.1 e.symm)
  ·rfl
 have hAi : ∀ x, x < ni → Z4 m i x ≠ i := fun x hx e => by
  have hx0 : m.1 x = i := by
   rcases hA x with h | h
   ·rw [← h]; exact e
   ·rw [h] at e; omega
  have h0 : 0 ≤ m.2 i := by have := I.i x hx (by omega); rw [hx0] at this; simpa using this
  obtain ⟨g1, g2, _, _⟩ := hold h0
  have := Kj (V.u (i : Int) (by omega)) hx g1 hx0 g2
  unfold Z4 at e
  rw [if_pos h0, this, Zw] at e
  omega
 have hAc : ∀ x : Int, 0 ≤ x → Js ni (Z4 m i) x ≤ Js ni m.1 x := fun x hx => by
  unfold Z4
  split
  ·rename_i h
   have := Lm m.1 (-1 : Int) x (hold h).1
   rw [if_neg (show ¬ (-1 : Int) = x by omega)] at this
   omega
  ·exact Nat.le_refl _
 have hu : ∀ x : Int, 0 ≤ x → Js ni (Qj (Z4 m i) k i) x ≤ 1 := fun x hx => by
  have h1 := Lm (Z4 m i) (i : Int) x hn
  have h2 := hAc x hx
  have h3 := V.u x hx
  by_cases e : (i : Int) = x
  ·have h4 : Js ni (Z4 m i) x = 0 := by
    refine Nat.eq_zero_of_not_pos fun hp => ?_
    obtain ⟨y, q1, q2⟩ := U5 hp
    exact hAi y q1 (q2.trans e.symm)
   rw [if_pos e] at h1
   omega
  ·rw [if_neg e] at h1
   omega
 refine ⟨⟨fun x hx hfx h0 => ?_, hu, fun x hx hfx h0 => ?_⟩, ⟨fun o h => ?_, fun x hx h0 => ?_⟩, ?_⟩
 ·have e : x ≠ k := fun e => by subst e; rw [Zw] at hfx; exact absurd hfx (by decide)
  rw [Zf fx true e] at hfx
  have h0' : 0 ≤ Qj (Z4 m i) k i x := h0
  show Yp (i + 1) no (Qj (Z4 m i) k i x).toNat ∧ x ∈ adj (Qj (Z4 m i) k i x).toNat
  rw [Zf _ _ e] at h0' ⊢
  have h1 : Z4 m i x = m.1 x := by
   rcases hA x with h | h
   ·exact h
   ·omega
  have h2 := hAi x hx
  rw [h1] at h0' h2 ⊢
  obtain ⟨g1, g2⟩ := V.a x hx hfx h0'
  exact ⟨⟨by have := g1.1; omega, g1.2⟩, g2⟩
 ·have h0' : 0 ≤ Qj (Z4 m i) k i x := h0
  show ¬ Yp (i + 1) no (Qj (Z4 m i) k i x).toNat
  by_cases e : x = k
  ·subst e; rw [Zw]; intro h; have := h.1; simp only [Int.toNat_natCast] at this; omega
  ·rw [Zf _ _ e] at h0' ⊢
   rw [Zf fx true e] at hfx
   have h1 : Z4 m i x = m.1 x := by
    rcases hA x with h | h
    ·exact h
    ·omega
   rw [h1] at h0' ⊢
   exact fun h => V.f x hx hfx h0' ⟨by have := h.1; omega, h.2⟩
 ·have h' : 0 ≤ Qj (if 0 ≤ m.1 k then Qj m.2 (m.1 k).toNat (-1) else m.2) i k o := h
  show (Qj (if 0 ≤ m.1 k then Qj m.2 (m.1 k).toNat (-1) else m.2) i k o).toNat < ni ∧ Qj (Z4 m i) k i (Qj (if 0 ≤ m.1 k then Qj m.2 (m.1 k).toNat (-1) else m.2) i k o).toNat = o
  by_cases e : o = i
  ·subst e; rw [Zw]; exact ⟨by omega, by rw [show ((k : Int)).toNat = k by omega, Zw]⟩
  ·rw [Zf _ _ e] at h' ⊢
   have h2 : (if 0 ≤ m.1 k then Qj m.2 (m.1 k).toNat (-1) else m.2) o = m.2 o ∧ (0 ≤ m.1 k → o ≠ (m.1 k).toNat) := by
    by_cases c : 0 ≤ m.1 k
    ·rw [if_pos c] at h' ⊢
     by_cases e2 : o = (m.1 k).toNat
     ·rw [e2, Zw] at h'; omega
     ·exact ⟨Zf _ _ e2, fun _ => e2⟩
    ·rw [if_neg c]; exact ⟨rfl, fun h => absurd h c⟩
   rw [h2.1] at h' ⊢
   obtain ⟨g1, g2⟩ := I.o o h'
   have g3 : (m.2 o).toNat ≠ k := fun e2 => by
    rw [e2] at g2
    exact h2.2 (by omega) (by omega)
   refine ⟨g1, (Zf _ _ g3).trans ?_⟩
   unfold Z4
   split
   ·rename_i c
    refine (Zf _ _ fun e2 => e ?_).trans g2
    have := (hold c).2.1
    rw [← e2, g2] at this
    omega
   ·exact g2
 ·have h0' : 0 ≤ Qj (Z4 m i) k i x := h0
  show 0 ≤ Qj (if 0 ≤ m.1 k then Qj m.2 (m.1 k).toNat (-1) else m.2) i k (Qj (Z4 m i) k i x).toNat
  by_cases e : x = k
  ·subst e; rw [Zw, show ((i : Int)).toNat = i by omega, Zw]; omega
  ·rw [Zf _ _ e] at h0' ⊢
   have h1 : Z4 m i x = m.1 x := by
    rcases hA x with h | h
    ·exact h
    ·omega
   have h2 := hAi x hx
   rw [h1] at h0' h2 ⊢
   rw [Zf _ _ (by omega)]
   have h3 := I.i x hx h0'
   split
   ·rename_i c
    rw [Zf _ _ fun e2 => e (Kj (V.u (m.1 x) h0') hx hn rfl (by omega))]
    exact h3
   ·exact h3
 ·show Zi ni (Qj fx k true) (Qj (Z4 m i) k i) + _ + _ = _
  rw [Oz (fx' := Qj fx k true) (m' := Z4 m i) fun x hx => ⟨rfl, fun hfx => by
   have e : x ≠ k := fun e => by subst e; rw [Zw] at hfx; exact absurd hfx (by decide)
   rw [Zf _ _ e]⟩]
  have h1 : Zi ni fx (Z4 m i) + (if 0 ≤ m.2 i then 1 else 0) = Zi ni fx m.1 := by
   unfold Z4
   split
   ·rename_i c
    obtain ⟨g1, g2, g3, g4⟩ := hold c
    have := O0 m.1 (-1 : Int) g4 g1
    rw [if_pos (show 0 ≤ m.1 (m.2 i).toNat by omega), if_neg (show ¬ (0 : Int) ≤ -1 by omega)] at this
    omega
   ·rfl
  have h2 : Zi ni (Qj fx k true) (Z4 m i) + (if 0 ≤ m.1 k then 1 else 0) = Zi ni fx (Z4 m i) := by
   by_cases c : 0 ≤ m.1 k
   ·rw [if_pos c]; exact Ry hf (by rw [hAk]; exact c) hn
   ·rw [if_neg c]
    exact Ag (by rw [hAk]; exact c)
  omega
theorem Ta {adj : Nat → List Nat} {ni : Nat} {fx : Bl} {m m' : Mt} : ∀ {n j : Nat}, Ww adj ni fx n j m = some m' → ∃ j', (j ≤ j' ∧ j' < j + n) ∧ m.2 j' < 0 ∧ (Q9 adj ni m fx j').1 = some m'
 | n + 1, j, h => by
  have more : Ww adj ni fx n (j + 1) m = some m' → ∃ j', (j ≤ j' ∧ j' < j + (n + 1)) ∧ m.2 j' < 0 ∧ (Q9 adj ni m fx j').1 = some m' := fun h => by
   obtain ⟨j', h1, h2⟩ := Ta h
   exact ⟨j', ⟨by omega, by omega⟩, h2⟩
  unfold Ww at h
  split at h
  ·rename_i hm
   split at h
   ·rename_i m'' e
    obtain rfl : m'' = m' := by simpa using h
    exact ⟨j, ⟨Nat.le_refl _, by omega⟩, hm, e⟩
   ·exact more h
  ·exact more h
theorem R9 {adj : Nat → List Nat} {ni : Nat} {fx : Bl} {m : Mt} : ∀ {n j : Nat}, Ww adj ni fx n j m = none → ∀ j', j ≤ j' → j' < j + n → m.2 j' < 0 → (Q9 adj ni m fx j').1 = none
 | 0, j, _, j', h1, h2, _ => by omega
 | n + 1, j, h, j', h1, h2, h3 => by
  unfold Ww at h
  by_cases e : j' = j
  ·subst e
   rw [if_pos h3] at h
   split at h
   ·exact absurd h (by simp)
   ·rename_i e; exact e
  ·split at h
   ·split at h
    ·exact absurd h (by simp)
    ·exact R9 h j' (by omega) (by omega) h3
   ·exact R9 h j' (by omega) (by omega) h3
theorem Qak {adj : Nat → List Nat} {ni no i k : Nat} {fx : Bl} {m : Mt} (hadj : ∀ o, ∀ k ∈ adj o, k < ni) (J : Wf adj ni no i fx m) (hi : i < no) (hk : k ∈ adj i) (hf : fx k = false) (hm : m.2 i ≠ k) :
  (∀ m', Y0 adj ni no fx m i k = some m' → Wf adj ni no (i + 1) (Qj fx k true) m' ∧ Zi ni (Qj fx k true) m'.1 + 1 = Zi ni fx m.1) ∧ (Y0 adj ni no fx m i k = none → ∀ s, Nu adj (Yp (i + 1) no) (Qj fx k true) s → s + 1 ≠ Zi ni fx m.1) := by
 obtain ⟨V, I, hs⟩ := Qf9 J hi (hadj i k hk) hf hm
 have hc := fun M (hM : X1 adj (Yp (i + 1) no) (Qj fx k true) M) => S2 hM hi hk hf J.t.2
 unfold Y0
 split
 ·rename_i h
  refine ⟨fun m' e => ?_, fun e => absurd e (by simp)⟩
  obtain rfl : J1 m i k = m' := by simpa using e
  obtain ⟨M, h1, h2⟩ := Ti V
  have h3 := hc M h1
  have h4 : Zi ni (Qj fx k true) (J1 m i k).1 + 1 = Zi ni fx m.1 := by
   rcases h with h | h
   ·rw [if_neg (show ¬ 0 ≤ m.2 i by omega)] at hs; split at hs <;> omega
   ·rw [if_neg (show ¬ 0 ≤ m.1 k by omega)] at hs; split at hs <;> omega
  exact ⟨⟨⟨V, fun M hM => by have := hc M hM; omega⟩, I⟩, h4⟩
 ·rename_i h
  rw [if_pos (show 0 ≤ m.2 i by omega), if_pos (show 0 ≤ m.1 k by omega)] at hs
  refine ⟨fun m' e => ?_, fun e s hn => ?_⟩
  ·obtain ⟨j, hj, hj0, ha⟩ := Ta e
   have W := Gb (fx := Qj fx k true) hadj ni (Qj fx k true) j m' (fun _ h => h) ha
   obtain ⟨O, _⟩ := Gc hadj I.o ni (Qj fx k true) j m' ha
   have V2 := Ei V ⟨hj.1, by omega⟩ ((G7 I).1 hj0) W
   have := W.s
   exact ⟨⟨⟨V2, fun M hM => by have := hc M hM; omega⟩, Pz I W O⟩, by omega⟩
  ·have T : Top adj ni (Yp (i + 1) no) (Qj fx k true) (J1 m i k).1 := Qgc hadj V fun o ho hfr => R9 e o ho.1 (by have := ho.2; omega) ((G7 I).2 hfr)
   have := Nr hn T.nu
   omega
theorem ref_nu {adj : Nat → List Nat} {ni no i k : Nat} {fx : Bl} (hadj : ∀ o, ∀ k ∈ adj o, k < ni) (hi : i < no) : Nu adj (Yp (i + 1) no) (Qj fx k true) (Jn adj ni (Qj fx k true) (no - (i + 1)) (i + 1) J9).2 := by
 have := (Pm hadj (Qj fx k true) (i + 1) (no - (i + 1))).2.2
 rw [show i + 1 + (no - (i + 1)) = no by omega] at this
 exact this
theorem Sr {adj : Nat → List Nat} {ni no i : Nat} {fx : Bl} {m : Mt} (hadj : ∀ o, ∀ k ∈ adj o, k < ni) (J : Wf adj ni no i fx m) (hi : i < no) : ∀ (l : List Nat), (∀ k ∈ l, k ∈ adj i) →
  (∀ k m' fx', Yq adj ni no i l m fx = some (k, m', fx') → k ∈ adj i ∧ fx k = false ∧ fx' = Qj fx k true ∧ Wf adj ni no (i + 1) fx' m' ∧ Zi ni fx' m'.1 + 1 = Zi ni fx m.1 ∧ Kx adj ni no i (Zi ni fx m.1) fx l = some k) ∧
  (Yq adj ni no i l m fx = none → Kx adj ni no i (Zi ni fx m.1) fx l = none ∧ ∀ k ∈ l, fx k = false → m.2 i ≠ k)
 | [], _ => ⟨fun k m' fx' h => by simp [Yq] at h, fun _ => ⟨rfl, fun k hk => absurd hk (by simp)⟩⟩
 | k :: r, hl => by
  have IH := Sr hadj J hi r fun x hx => hl x (List.mem_cons_of_mem _ hx)
  have hk := hl k List.mem_cons_self
  unfold Yq Kx
  by_cases hf : fx k = true
  ·rw [if_pos hf, if_pos hf]
   refine ⟨IH.1, fun h => ⟨(IH.2 h).1, fun x hx hfx => ?_⟩⟩
   rcases List.mem_cons.1 hx with rfl | hx
   ·rw [hf] at hfx; exact absurd hfx (by decide)
   ·exact (IH.2 h).2 x hx hfx
  rw [if_neg hf, if_neg hf]
  have hf' : fx k = false := by simpa using hf
  have hn := ref_nu (fx := fx) (k := k) hadj hi
  by_cases hm : m.2 i = k
  ·rw [if_pos hm]
   have hm1 : m.1 k = i := by
    have := (J.i.o i (by omega)).2
    rw [hm] at this; simpa using this
   obtain ⟨g1, g2⟩ := Qaj J hi hk (hadj i k hk) hf' hm1
   have e := Nr hn g1.t.nu
   refine ⟨fun k' m' fx' h => ?_, fun h => absurd h (by simp)⟩
   obtain ⟨rfl, rfl, rfl⟩ : k = k' ∧ m = m' ∧ Qj fx k true = fx' := by simpa using h
   exact ⟨hk, hf', rfl, g1, g2, by rw [if_pos (by omega)]⟩
  ·rw [if_neg hm]
   obtain ⟨g1, g2⟩ := Qak hadj J hi hk hf' hm
   cases hs : Y0 adj ni no fx m i k with
   | some m1 =>
    obtain ⟨q1, q2⟩ := g1 m1 hs
    have e := Nr hn q1.t.nu
    refine ⟨fun k' m' fx' h => ?_, fun h => absurd h (by simp)⟩
    obtain ⟨rfl, rfl, rfl⟩ : k = k' ∧ m1 = m' ∧ Qj fx k true = fx' := by simpa using h
    exact ⟨hk, hf', rfl, q1, q2, by rw [if_pos (by omega)]⟩
   | none =>
    have := g2 hs _ hn
    rw [if_neg (by omega)]
    refine ⟨IH.1, fun h => ⟨(IH.2 h).1, fun x hx hfx => ?_⟩⟩
    rcases List.mem_cons.1 hx with rfl | hx
    ·exact hm
    ·exact (IH.2 h).2 x hx hfx
theorem Qai {adj : Nat → List Nat} {ni no i : Nat} {fx : Bl} {m : Mt} (J : Wf adj ni no i fx m) (hi : i < no) (h : ∀ k ∈ adj i, fx k = false → m.2 i ≠ k) : Wf adj ni no (i + 1) fx m := by
 have hfr : m.2 i < 0 := by
  refine Int.not_le.1 fun h0 => ?_
  obtain ⟨g1, g2⟩ := J.i.o i h0
  cases hf : fx (m.2 i).toNat
  ·have := (J.t.1.a _ g1 hf (by omega)).2
   rw [g2] at this
   exact h _ (by simpa using this) hf (by omega)
  ·have := J.t.1.f _ g1 hf (by omega)
   rw [g2] at this
   exact this ⟨by simp, by simpa using hi⟩
 have hF := (G7 J.i).1 hfr
 refine ⟨⟨⟨fun k hk hf h0 => ?_, J.t.1.u, fun k hk hf h0 hr => J.t.1.f k hk hf h0 ⟨by have := hr.1; omega, hr.2⟩⟩, fun M hM => J.t.2 M ⟨fun p hp => ?_, hM.o, hM.i⟩⟩, J.i⟩
 ·obtain ⟨g1, g2⟩ := J.t.1.a k hk hf h0
  refine ⟨⟨?_, g1.2⟩, g2⟩
  refine Nat.lt_of_le_of_ne g1.1 fun e => ?_
  have := Vs (m := m.1) (x := (i : Int)) hk (by omega)
  unfold Xe at hF
  omega
 ·obtain ⟨h1, h2⟩ := hM.a p hp
  exact ⟨⟨by have := h1.1; omega, h1.2⟩, h2⟩
/-- The program's choice is the reference's; and no list of pairs is longer. -/
theorem Gl {adj : Nat → List Nat} {ni no : Nat} (hadj : ∀ o, ∀ k ∈ adj o, k < ni) : ∀ (n i : Nat) (m : Mt) (fx : Bl), i + n = no → Wf adj ni no i fx m →
  Jr adj ni no n i m fx = Mf adj ni no n i (Zi ni fx m.1) fx ∧ X1 adj (Yp i no) fx (Jr adj ni no n i m fx) ∧ (Jr adj ni no n i m fx).length = Zi ni fx m.1 ∧ (Jr adj ni no n i m fx).Pairwise fun p q => p.1 < q.1
 | 0, i, m, fx, hn, J => by
  refine ⟨rfl, ⟨fun p hp => absurd hp (by simp [Jr]), List.Pairwise.nil, List.Pairwise.nil⟩, ?_, List.Pairwise.nil⟩
  obtain ⟨M, h1, h2⟩ := Ti J.t.1
  cases M with
  | nil => exact h2
  | cons p r =>
   have := (h1.a p List.mem_cons_self).1
   have h3 := this.1
   have h4 := this.2
   omega
 | n + 1, i, m, fx, hn, J => by
  have hi : i < no := by omega
  obtain ⟨g1, g2⟩ := Sr hadj J hi (adj i) fun _ h => h
  unfold Jr Mf
  cases h : Yq adj ni no i (adj i) m fx with
  | none =>
   obtain ⟨q1, q2⟩ := g2 h
   rw [q1]
   obtain ⟨c1, c2, c3, c4⟩ := Gl hadj n (i + 1) m fx (by omega) (Qai J hi q2)
   exact ⟨c1, ⟨fun p hp => by obtain ⟨a1, a2⟩ := c2.a p hp; exact ⟨⟨by have := a1.1; omega, a1.2⟩, a2⟩, c2.o, c2.i⟩, c3, c4⟩
  | some x =>
   obtain ⟨k, m', fx'⟩ := x
   obtain ⟨q1, q2, rfl, q4, q5, q6⟩ := g1 k m' fx' h
   rw [q6]
   obtain ⟨c1, c2, c3, c4⟩ := Gl hadj n (i + 1) m' (Qj fx k true) (by omega) q4
   refine ⟨?_, S0 c2 hi q1 q2, ?_, List.pairwise_cons.2 ⟨fun q hq => ?_, c4⟩⟩
   ·show (i, k) :: _ = (i, k) :: _
    rw [c1, show ((Zi ni fx m.1 : Nat) : Int) - 1 = ((Zi ni (Qj fx k true) m'.1 : Nat) : Int) by omega]
   ·show (Jr adj ni no n (i + 1) m' (Qj fx k true)).length + 1 = _
    omega
   ·have := (c2.a q hq).1.1
    show i < q.1; omega
/-- The whole: as the program begins it. -/
def Wz (adj : Nat → List Nat) (ni no : Nat) : List (Nat × Nat) := Jr adj ni no no 0 (Jn adj ni (fun _ => false) no 0 J9).1 (fun _ => false)
def Ss (adj : Nat → List Nat) (ni no : Nat) : List (Nat × Nat) := Mf adj ni no no 0 (Jn adj ni (fun _ => false) no 0 J9).2 (fun _ => false)
theorem Ll {adj : Nat → List Nat} {ni no : Nat} (hadj : ∀ o, ∀ k ∈ adj o, k < ni) : Wz adj ni no = Ss adj ni no ∧ X1 adj (Yp 0 no) (fun _ => false) (Wz adj ni no) ∧ Nu adj (Yp 0 no) (fun _ => false) (Wz adj ni no).length ∧ (Wz adj ni no).Pairwise fun p q => p.1 < q.1 := by
 obtain ⟨T, I, N⟩ := Pm hadj (fun _ => false) 0 no
 simp only [Nat.zero_add] at T N
 have J : Wf adj ni no 0 (fun _ => false) (Jn adj ni (fun _ => false) no 0 J9).1 := ⟨T, I⟩
 obtain ⟨c1, c2, c3, c4⟩ := Gl hadj no 0 _ _ (by omega) J
 have e := Nr N J.t.nu
 refine ⟨?_, c2, ?_, c4⟩
 ·unfold Wz Ss
  rw [c1, e]
 ·unfold Wz
  rw [c3]; exact J.t.nu
/-- More ways, no fewer pairs. -/
theorem Qat {adj adj' : Nat → List Nat} {ni no : Nat} (h : ∀ o, ∀ k ∈ adj o, k < ni) (h' : ∀ o, ∀ k ∈ adj' o, k < ni) (hs : ∀ o, ∀ k ∈ adj o, k ∈ adj' o) : (Wz adj ni no).length ≤ (Wz adj' ni no).length := by
 obtain ⟨_, c2, _, _⟩ := Ll (no := no) h
 obtain ⟨_, _, c3, _⟩ := Ll (no := no) h'
 exact c3.2 _ ⟨fun p hp => by obtain ⟨a1, a2, a3⟩ := c2.a p hp; exact ⟨a1, hs _ _ a2, a3⟩, c2.o, c2.i⟩
structure LtOk (x : Lt) : Prop where
 g : Ja x.g = true
 n0 : x.n ≠ 0
 hi : x.n ≤ 1099511627776
 lo : -1099511627776 ≤ x.n
structure LsOk (l : List Lt) : Prop where
 a : ∀ x ∈ l, LtOk x
 s : l.Pairwise fun x y => Yd x.g y.g = true
theorem LsOk.up {x : Lt} {l : List Lt} (h : LsOk (x :: l)) : ∀ y ∈ l, Yd x.g y.g = true := (List.pairwise_cons.1 h.s).1
theorem Qd7 {s : ByteArray} (h : Ja s = true) : s.size ≠ 0 := by
 unfold Ja at h
 simp only [Bool.and_eq_true, decide_eq_true_eq] at h
 omega
theorem D0 {x y : Lt} (h : LtOk x) : W9 x y = x.g := by unfold W9; rw [if_neg (Qd7 h.g)]
theorem Qd6 {y : Lt} : W9 Y9 y = y.g := rfl
/-- Where the pairs of a merge come from. -/
def U0 (a b : List Lt) (p : Lt × Lt) : Prop := (p.1 ∈ a ∧ p.2 = Y9) ∨ (p.1 = Y9 ∧ p.2 ∈ b) ∨ (p.1 ∈ a ∧ p.2 ∈ b)
theorem U0.l {a b : List Lt} {x : Lt} {p : Lt × Lt} (h : U0 a b p) : U0 (x :: a) b p := by
 rcases h with ⟨h1, h2⟩ | ⟨h1, h2⟩ | ⟨h1, h2⟩
 ·exact .inl ⟨List.mem_cons_of_mem _ h1, h2⟩
 ·exact .inr (.inl ⟨h1, h2⟩)
 ·exact .inr (.inr ⟨List.mem_cons_of_mem _ h1, h2⟩)
theorem U0.r {a b : List Lt} {y : Lt} {p : Lt × Lt} (h : U0 a b p) : U0 a (y :: b) p := by
 rcases h with ⟨h1, h2⟩ | ⟨h1, h2⟩ | ⟨h1, h2⟩
 ·exact .inl ⟨h1, h2⟩
 ·exact .inr (.inl ⟨h1, List.mem_cons_of_mem _ h2⟩)
 ·exact .inr (.inr ⟨h1, List.mem_cons_of_mem _ h2⟩)
theorem U0.up {a b : List Lt} {p : Lt × Lt} {u : ByteArray} (h : U0 a b p) (ha : LsOk a) (h1 : ∀ x ∈ a, Yd u x.g = true) (h2 : ∀ y ∈ b, Yd u y.g = true) : Yd u (W9 p.1 p.2) = true := by
 rcases h with ⟨h3, h4⟩ | ⟨h3, h4⟩ | ⟨h3, h4⟩
 ·rw [D0 (ha.a _ h3)]; exact h1 _ h3
 ·rw [h3, Qd6]; exact h2 _ h4
 ·rw [D0 (ha.a _ h3)]; exact h1 _ h3
/-- What a valid period says, deal by deal. -/
structure Xa (c : Qf) (p : Pd) : Prop where
 n : Ja p.h = true
 a0 : 0 < c.numV p.a
 ab : c.numV p.a ≤ c.numV p.b
 o : Va p.o = 0
 k : Va p.c = 0
 m : p.d.length ≤ 64
 l : ∀ x ∈ p.d, Ja x.w = true ∧ x.w ≠ p.h ∧ Wl x.l = true ∧ c.numV p.a ≤ c.numV x.on ∧ c.numV x.on ≤ c.numV p.b
 s : p.d.Pairwise fun x y => c.numV x.on ≤ c.numV y.on
theorem Qe7 {c : Qf} {p : Pd} (h : c.perOk p = true) : Xa c p := by
 have k := pdOk h
 unfold Qf.perOk at h
 rw [Bool.and_eq_true] at h
 obtain ⟨h1, h2⟩ := h
 unfold Qf.perHead Qf.spanV at h1
 simp only [Bool.and_eq_true, decide_eq_true_eq] at h1
 have h3 : ∀ i, i < p.d.length → c.dealOk p i = true := fun i hi => List.all_eq_true.1 h2 i (by simpa using hi)
 refine ⟨h1.1.1.1.1, h1.1.1.1.2.1, h1.1.1.1.2.2, h1.1.1.2, h1.1.2, h1.2, fun x hx => ?_, k.sorted⟩
 obtain ⟨i, hi, rfl⟩ := List.mem_iff_getElem.1 hx
 have h4 := h3 i hi
 unfold Qf.dealOk at h4
 simp only [Bool.not_eq_true', Bool.or_eq_false_iff, decide_eq_false_iff_not, Bool.not_eq_false'] at h4
 rw [Pd.dl_get hi] at h4
 have h5 := k.lo 0 (by omega)
 have h6 := k.mono (i := 0) (j := i) (by omega) hi
 have h7 : p.d.getD i Zn = p.d[i] := by simp [List.getD_eq_getElem?_getD, hi]
 rw [h7] at h6
 have h8 : c.numV p.a ≤ c.numV (p.d.getD 0 Zn).on := h5
 exact ⟨h4.1.1.2, h4.1.2, h4.2, by omega, by omega⟩
theorem Bd {c : Qf} {d : Dt} (h : c.numV d ≠ 0) : c.has d = true ∧ c.inE d = 0 ∧ c.numV d = (c.num d).1 := by
 unfold Qf.numV at h ⊢
 split at h
 ·rename_i h1
  refine ⟨?_, h1, by rw [if_pos h1]⟩
  unfold Qf.inE at h1
  split at h1
  ·split at h1
   ·assumption
   ·exact absurd h1 (by decide)
  ·exact absurd h1 (by decide)
 ·exact absurd rfl h
/-- Both parts of a period that is divided. -/
structure DivOk (c : Qf) (p x y : Pd) : Prop where
 b : c.behV x y = true
 xy : x.c = y.o
 j : P9 x y = p
 s : J5 x.o x.d = (x.c, 0)
 t : J5 y.o y.d = J5 p.o p.d
 m : x.d.length + y.d.length = p.d.length
 px : Xa c x
 py : Xa c y
/-- The join of the first periods, w, whose last one is q. -/
structure JnOk (c : Qf) (w q : Pd) : Prop where
 h : w.h = q.h
 b : w.b = q.b
 k : w.c = q.c
 ok : Xa c w
/-- Periods that follow each other. -/
def Qf.links (c : Qf) : List Pd → Prop
 | x :: y :: r => (c.behV x y = true ∧ x.c = y.o) ∧ c.links (y :: r)
 | _ => True
def joinsV (l : List Pd) : Pd := match l with | [] => noPd | x :: r => r.foldl P9 x
/-- What Carry has made. -/
structure CarOk (c : Qf) (k : List Pd) : Prop where
 a : ∀ x ∈ k, Xa c x ∧ J5 x.o x.d = (x.c, 0)
 l : c.links k
theorem Il {c : Qf} {l : List Pd} (h : c.archE l = 0) : c.valid = true ∧ ∀ p ∈ l, Xa c p := by
 unfold Qf.archE at h
 split at h
 ·rename_i h1; exact absurd h h1
 rename_i h1
 have hv : c.valid = true := by
  have h2 : c.chk = 0 := Decidable.not_not.1 h1
  unfold Qf.chk at h2
  split at h2
  ·assumption
  ·exact absurd h2 (by decide)
 refine ⟨hv, fun p hp => ?_⟩
 split at h
 ·exact absurd h (by decide)
 unfold Qf.persE at h
 split at h
 ·rename_i h3; exact Qe7 (List.all_eq_true.1 h3 p hp)
 ·exact absurd h (by decide)
/-- The loop of CarryJoins: w is the join of the first i + 1 periods. -/
structure CjOk (c : Qf) (k : List Pd) (i : Nat) (w : Pd) : Prop where
 hi : i < k.length
 j : JnOk c w (k.getD i Q3)
 s : J5 w.o w.d = (w.c, 0)
 o : w.o = (k.getD 0 Q3).o
/-- The loop of TopCarries: P are the parts made, r is what is left of p, W is the balance of the whole. -/
structure TopS (c : Qf) (p : Pd) (W : List Lt) (P : List Pd) (r : Pd) : Prop where
 a : ∀ x ∈ P, Xa c x ∧ J5 x.o x.d = (x.c, 0)
 s : J5 r.o r.d = (W, 0)
 l : c.links (P ++ [r])
 j : joinsV (P ++ [r]) = p
 ok : Xa c r
abbrev Rf := Nat × Nat
def Qu : Rf := (0, 0)
def Yk (p : Pd) (b : Bool) (i : Nat) : Nat → List Rf
 | 0 => []
 | k + 1 => Yk p b i k ++ (if (p.d.getD k Zn).i = b then [(i, k)] else [])
def Yj (l : List Pd) (b : Bool) : Nat → List Rf
 | 0 => []
 | i + 1 => Yj l b i ++ Yk (l.getD i Q3) b i (l.getD i Q3).d.length
def Za (l : List Pd) (b : Bool) : List Rf := Yj l b l.length
def Qw (l : List Pd) (r : Rf) : Dl := (l.getD r.1 Q3).d.getD r.2 Zn
theorem Oi {p : Pd} {b : Bool} {i : Nat} {x : Rf} : ∀ {n : Nat}, x ∈ Yk p b i n ↔ x.1 = i ∧ x.2 < n ∧ (p.d.getD x.2 Zn).i = b
 | 0 => by simp [Yk]
 | n + 1 => by
  unfold Yk
  rw [List.mem_append, Oi]
  constructor
  ·rintro (⟨h1, h2, h3⟩ | h)
   ·exact ⟨h1, by omega, h3⟩
   ·split at h
    ·rename_i e
     rw [List.mem_singleton] at h; subst h
     exact ⟨rfl, by simp, e⟩
    ·exact absurd h (by simp)
  ·rintro ⟨h1, h2, h3⟩
   by_cases e : x.2 = n
   ·right
    rw [← e, if_pos h3, List.mem_singleton]
    exact Prod.ext h1 rfl
   ·exact .inl ⟨h1, by omega, h3⟩
theorem Ro {l : List Pd} {b : Bool} {x : Rf} : ∀ {n : Nat}, x ∈ Yj l b n ↔ x.1 < n ∧ x.2 < (l.getD x.1 Q3).d.length ∧ (Qw l x).i = b
 | 0 => by simp [Yj]
 | n + 1 => by
  unfold Yj
  rw [List.mem_append, Ro, Oi]
  constructor
  ·rintro (⟨h1, h2⟩ | ⟨h1, h2, h3⟩)
   ·exact ⟨by omega, h2⟩
   ·subst h1; exact ⟨by omega, h2, h3⟩
  ·rintro ⟨h1, h2, h3⟩
   by_cases e : x.1 = n
   ·right; subst e; exact ⟨rfl, h2, h3⟩
   ·exact .inl ⟨by omega, h2, h3⟩
theorem V3 {l : List Pd} {b : Bool} {x : Rf} : x ∈ Za l b ↔ x.1 < l.length ∧ x.2 < (l.getD x.1 Q3).d.length ∧ (Qw l x).i = b := Ro
/-- The Ua of references. -/
def V1 (x y : Rf) : Prop := x.1 < y.1 ∨ (x.1 = y.1 ∧ x.2 < y.2)
theorem Cr (p : Pd) (b : Bool) (i : Nat) : ∀ n, (Yk p b i n).Pairwise V1
 | 0 => List.Pairwise.nil
 | n + 1 => by
  unfold Yk
  refine List.pairwise_append.2 ⟨Cr p b i n, by split <;> simp, fun x hx y hy => ?_⟩
  obtain ⟨h1, h2, _⟩ := Oi.1 hx
  split at hy
  ·rw [List.mem_singleton] at hy; subst hy; exact .inr ⟨h1, h2⟩
  ·exact absurd hy (by simp)
theorem Cp (l : List Pd) (b : Bool) : ∀ n, (Yj l b n).Pairwise V1
 | 0 => List.Pairwise.nil
 | n + 1 => by
  unfold Yj
  refine List.pairwise_append.2 ⟨Cp l b n, Cr _ b n _, fun x hx y hy => ?_⟩
  have h1 := (Ro.1 hx).1
  have h2 := (Oi.1 hy).1
  exact .inl (by omega)
theorem Qfo (l : List Pd) (b : Bool) : (Za l b).Pairwise V1 := Cp l b _
def Qf.mayB (c : Qf) (l : List Pd) (days : Int) (x y : Rf) : Bool :=
 decide ((Qw l x).w = (l.getD y.1 Q3).h) && decide ((Qw l y).w = (l.getD x.1 Q3).h) && decide ((Qw l x).l = (Qw l y).l) && decide (0 ≤ c.numV (Qw l y).on - c.numV (Qw l x).on) && decide (c.numV (Qw l y).on - c.numV (Qw l x).on ≤ days)
def Qf.adjA (c : Qf) (l : List Pd) (days : Int) (o : Nat) : List Nat := (List.range (Za l true).length).filter fun k => c.mayB l days ((Za l false).getD o Qu) ((Za l true).getD k Qu)
def Qf.matchI (c : Qf) (l : List Pd) (days : Int) : List (Nat × Nat) := Wz (c.adjA l days) (Za l true).length (Za l false).length
def Qf.matchL (c : Qf) (l : List Pd) (days : Int) : List (Rf × Rf) := (c.matchI l days).map fun p => ((Za l false).getD p.1 Qu, (Za l true).getD p.2 Qu)
def Qf.audE (c : Qf) (l : List Pd) (days : Int) : Int := if c.archE l ≠ 0 then c.archE l else if days < 0 ∨ 400 < days then 8 else 0
def Qf.matchV (c : Qf) (l : List Pd) (days : Int) : List (Rf × Rf) × Int := if c.audE l days ≠ 0 then ([], c.audE l days) else (c.matchL l days, 0)
theorem Kg (c : Qf) (l : List Pd) (days : Int) : ∀ o, ∀ k ∈ c.adjA l days o, k < (Za l true).length := fun _ _ hk => List.mem_range.1 (List.mem_filter.1 hk).1
/-- Pairs of references, of whatever numbers. -/
abbrev Mr := (Int × Int) × (Int × Int)
def Yy (x : Rf) : Int × Int := (x.1, x.2)
def J6 (p : Rf × Rf) : Mr := (Yy p.1, Yy p.2)
def Jp (l : List Pd) (r : Int × Int) : Bool := decide (0 ≤ r.1 ∧ r.1 < l.length) && decide (0 ≤ r.2 ∧ r.2 < (l.getD r.1.toNat Q3).d.length)
def Zk (r : Int × Int) : Rf := (r.1.toNat, r.2.toNat)
/-- What pairs asks of one pair. -/
def Qf.pairB (c : Qf) (l : List Pd) (days : Int) (m : Mr) : Bool :=
 Jp l m.1 && Jp l m.2 && !(Qw l (Zk m.1)).i && (Qw l (Zk m.2)).i && decide ((Qw l (Zk m.1)).w = (l.getD m.2.1.toNat Q3).h) && decide ((Qw l (Zk m.2)).w = (l.getD m.1.1.toNat Q3).h) && !decide ((l.getD m.1.1.toNat Q3).h = (l.getD m.2.1.toNat Q3).h) && decide ((Qw l (Zk m.1)).l = (Qw l (Zk m.2)).l)
  && decide (c.in2E (Qw l (Zk m.1)).on (Qw l (Zk m.2)).on = 0) && decide (0 ≤ c.betV (Qw l (Zk m.1)).on (Qw l (Zk m.2)).on) && decide (c.betV (Qw l (Zk m.1)).on (Qw l (Zk m.2)).on ≤ days)
def Zp : Mr := ((0, 0), (0, 0))
def Wp (M : List Mr) (i : Nat) : Bool := (List.range i).all fun k => !(decide ((M.getD k Zp).1 = (M.getD i Zp).1) || decide ((M.getD k Zp).2 = (M.getD i Zp).2))
def Qf.pairsB (c : Qf) (l : List Pd) (days : Int) (M : List Mr) : Bool := (List.range M.length).all fun i => c.pairB l days (M.getD i Zp) && Wp M i
theorem Cx {l : List Pd} {r : Int × Int} (h : Jp l r = true) : Yy (Zk r) = r := by
 unfold Jp at h
 simp only [Bool.and_eq_true, decide_eq_true_eq] at h
 unfold Yy Zk
 exact Prod.ext (by show ((r.1.toNat : Nat) : Int) = r.1; omega) (by show ((r.2.toNat : Nat) : Int) = r.2; omega)
theorem Cv {x y : Rf} (h : Yy x = Yy y) : x = y := by
 unfold Yy at h
 simp only [Prod.mk.injEq] at h
 exact Prod.ext (by omega) (by omega)
theorem Hw {α : Type} {z : α} {l : List α} {x : α} (h : x ∈ l) : ∃ i, i < l.length ∧ l.getD i z = x := by
 obtain ⟨i, hi, rfl⟩ := List.mem_iff_getElem.1 h
 exact ⟨i, hi, by simp [List.getD_eq_getElem?_getD, hi]⟩
theorem Xh {α : Type} {z : α} {l : List α} {i : Nat} (h : i < l.length) : l.getD i z ∈ l := by
 simp [List.getD_eq_getElem?_getD, h]
theorem Rp {l : List Pd} {b : Bool} {i j : Nat} (h : i < j) (hj : j < (Za l b).length) : V1 ((Za l b).getD i Qu) ((Za l b).getD j Qu) := by
 have := List.pairwise_iff_getElem.1 (Qfo l b) i j (by omega) hj h
 simpa [List.getD_eq_getElem?_getD, hj, show i < (Za l b).length by omega] using this
theorem Ck {x y : Rf} (h : V1 x y) : x ≠ y := fun e => by subst e; rcases h with h | ⟨_, h⟩ <;> omega
theorem Ct {l : List Pd} {b : Bool} {i j : Nat} (hi : i < (Za l b).length) (hj : j < (Za l b).length) (h : (Za l b).getD i Qu = (Za l b).getD j Qu) : i = j := by
 rcases Nat.lt_trichotomy i j with g | g | g
 ·exact absurd h (Ck (Rp g hj))
 ·exact g
 ·exact absurd h.symm (Ck (Rp g hi))
theorem Ms {c : Qf} {l : List Pd} {days : Int} {o k : Nat} : k ∈ c.adjA l days o ↔ k < (Za l true).length ∧ c.mayB l days ((Za l false).getD o Qu) ((Za l true).getD k Qu) = true := by
 unfold Qf.adjA
 rw [List.mem_filter, List.mem_range]
theorem Cg {c : Qf} {l : List Pd} (h : ∀ p ∈ l, Xa c p) {x : Rf} {b : Bool} (hx : x ∈ Za l b) : Xa c (l.getD x.1 Q3) ∧ Qw l x ∈ (l.getD x.1 Q3).d := by
 obtain ⟨h1, h2, _⟩ := V3.1 hx
 exact ⟨h _ (Xh h1), Xh h2⟩
theorem Bf {c : Qf} {l : List Pd} (h : ∀ p ∈ l, Xa c p) {x : Rf} {b : Bool} (hx : x ∈ Za l b) : 0 < c.numV (Qw l x).on := by
 obtain ⟨h1, h2⟩ := Cg h hx
 have := h1.a0
 have := (h1.l _ h2).2.2.2.1
 omega
theorem I4 {c : Qf} {a b : Dt} (hv : c.valid = true) (ha : c.numV a ≠ 0) (hb : c.numV b ≠ 0) : c.in2E a b = 0 ∧ c.betV a b = c.numV b - c.numV a := by
 obtain ⟨a1, _, a3⟩ := Bd ha
 obtain ⟨b1, _, b3⟩ := Bd hb
 have h : c.in2E a b = 0 := by unfold Qf.in2E; rw [if_pos hv, a1, b1]; rfl
 exact ⟨h, by unfold Qf.betV; rw [if_pos h, a3, b3]⟩
/-- What may match is a pair as the chapter asks, and the other way round. -/
theorem Dm {c : Qf} {l : List Pd} {days : Int} (hv : c.valid = true) (h : ∀ p ∈ l, Xa c p) {x y : Rf} (hx : x ∈ Za l false) (hy : y ∈ Za l true) : c.pairB l days (J6 (x, y)) = c.mayB l days x y := by
 obtain ⟨x1, x2, x3⟩ := V3.1 hx
 obtain ⟨y1, y2, y3⟩ := V3.1 hy
 have hx0 := Bf h hx
 have hy0 := Bf h hy
 obtain ⟨b1, b2⟩ := I4 (a := (Qw l x).on) (b := (Qw l y).on) hv (by omega) (by omega)
 obtain ⟨p1, p2⟩ := Cg h hx
 have hne := (p1.l _ p2).2.1
 have ex : Zk (J6 (x, y)).1 = x := by unfold Zk J6 Yy; simp
 have ey : Zk (J6 (x, y)).2 = y := by unfold Zk J6 Yy; simp
 have ox : Jp l (J6 (x, y)).1 = true := by
  unfold Jp J6 Yy
  simp only [Bool.and_eq_true, decide_eq_true_eq, Int.toNat_natCast]
  exact ⟨⟨by omega, by omega⟩, by omega, by omega⟩
 have oy : Jp l (J6 (x, y)).2 = true := by
  unfold Jp J6 Yy
  simp only [Bool.and_eq_true, decide_eq_true_eq, Int.toNat_natCast]
  exact ⟨⟨by omega, by omega⟩, by omega, by omega⟩
 have e1 : (J6 (x, y)).1.1.toNat = x.1 := by unfold J6 Yy; simp
 have e2 : (J6 (x, y)).2.1.toNat = y.1 := by unfold J6 Yy; simp
 unfold Qf.pairB Qf.mayB
 rw [ox, oy, ex, ey, e1, e2, x3, y3, b2, decide_eq_true b1]
 simp only [Bool.not_false, Bool.true_and, Bool.and_true]
 by_cases g1 : (Qw l x).w = (l.getD y.1 Q3).h
 ·have : ¬ (l.getD x.1 Q3).h = (l.getD y.1 Q3).h := fun e => hne (by rw [g1, e])
  rw [decide_eq_true g1, decide_eq_false this]
  simp
 ·rw [decide_eq_false g1]
  simp
theorem G8 {α β : Type} {f : α → β} {z : α} {z' : β} {l : List α} {i : Nat} (h : i < l.length) : (l.map f).getD i z' = f (l.getD i z) := by
 simp [List.getD_eq_getElem?_getD, h]
/-- MatchingMost, its three parts. -/
theorem Qdp {c : Qf} {l : List Pd} {days : Int} (hv : c.valid = true) (h : ∀ p ∈ l, Xa c p) : c.pairsB l days ((c.matchL l days).map J6) = true := by
 obtain ⟨_, hM, _, _⟩ := Ll (no := (Za l false).length) (Kg c l days)
 have hlen : ((c.matchL l days).map J6).length = (c.matchI l days).length := by unfold Qf.matchL; simp
 have at_ : ∀ i, i < (c.matchI l days).length → ((c.matchL l days).map J6).getD i Zp = J6 ((Za l false).getD ((c.matchI l days).getD i (0, 0)).1 Qu, (Za l true).getD ((c.matchI l days).getD i (0, 0)).2 Qu) := fun i hi => by
  unfold Qf.matchL
  rw [List.map_map, G8 (z := (0, 0)) hi]; rfl
 have inn : ∀ i, i < (c.matchI l days).length → ((c.matchI l days).getD i (0, 0)).1 < (Za l false).length ∧ ((c.matchI l days).getD i (0, 0)).2 < (Za l true).length ∧ c.mayB l days ((Za l false).getD ((c.matchI l days).getD i (0, 0)).1 Qu) ((Za l true).getD ((c.matchI l days).getD i (0, 0)).2 Qu) = true := fun i hi => by
  obtain ⟨a1, a2, _⟩ := hM.a _ (Xh (z := (0, 0)) hi)
  obtain ⟨b1, b2⟩ := Ms.1 a2
  exact ⟨a1.2, b1, b2⟩
 refine List.all_eq_true.2 fun i hi => ?_
 have hi : i < (c.matchI l days).length := by rw [← hlen]; simpa using hi
 obtain ⟨i1, i2, i3⟩ := inn i hi
 rw [Bool.and_eq_true, at_ i hi, Dm hv h (Xh i1) (Xh i2)]
 refine ⟨i3, List.all_eq_true.2 fun k hk => ?_⟩
 have hk : k < i := by simpa using hk
 obtain ⟨k1, k2, _⟩ := inn k (by omega)
 rw [at_ k (by omega), at_ i hi]
 simp only [Bool.not_eq_true', Bool.or_eq_false_iff, decide_eq_false_iff_not]
 have ho := List.pairwise_iff_getElem.1 hM.o k i (by show k < (c.matchI l days).length; omega) hi hk
 have hii := List.pairwise_iff_getElem.1 hM.i k i (by show k < (c.matchI l days).length; omega) hi hk
 have gk : (c.matchI l days).getD k (0, 0) = (c.matchI l days)[k]'(by omega) := by simp [List.getD_eq_getElem?_getD, show k < (c.matchI l days).length by omega]
 have gi : (c.matchI l days).getD i (0, 0) = (c.matchI l days)[i]'hi := by simp [List.getD_eq_getElem?_getD, hi]
 refine ⟨fun e => ?_, fun e => ?_⟩
 ·have := Ct k1 i1 (Cv e)
  rw [gk, gi] at this; exact ho this
 ·have := Ct k2 i2 (Cv e)
  rw [gk, gi] at this; exact hii this
theorem Qdo {c : Qf} {l : List Pd} {days : Int} (hv : c.valid = true) (h : ∀ p ∈ l, Xa c p) {M : List Mr} (hM : c.pairsB l days M = true) : M.length ≤ (c.matchL l days).length := by
 obtain ⟨_, _, hN, _⟩ := Ll (no := (Za l false).length) (Kg c l days)
 have hlen : (c.matchL l days).length = (c.matchI l days).length := by unfold Qf.matchL; simp
 have h1 : ∀ i, i < M.length → c.pairB l days (M.getD i Zp) = true ∧ Wp M i = true := fun i hi => by
  have := List.all_eq_true.1 hM i (by simpa using hi)
  rwa [Bool.and_eq_true] at this
 have each : ∀ m : Mr, ∃ p : Nat × Nat, c.pairB l days m = true → p.1 < (Za l false).length ∧ p.2 < (Za l true).length ∧ Yy ((Za l false).getD p.1 Qu) = m.1 ∧ Yy ((Za l true).getD p.2 Qu) = m.2 := fun m => by
  by_cases e : c.pairB l days m = true
  ·have e' := e
   unfold Qf.pairB at e'
   simp only [Bool.and_eq_true, Bool.not_eq_true'] at e'
   obtain ⟨⟨⟨⟨⟨⟨⟨⟨⟨⟨q1, q2⟩, q3⟩, q4⟩, _⟩, _⟩, _⟩, _⟩, _⟩, _⟩, _⟩ := e'
   have m1 : Zk m.1 ∈ Za l false := by
    unfold Jp at q1
    simp only [Bool.and_eq_true, decide_eq_true_eq] at q1
    exact V3.2 ⟨by show m.1.1.toNat < _; omega, by show m.1.2.toNat < (l.getD m.1.1.toNat Q3).d.length; omega, q3⟩
   have m2 : Zk m.2 ∈ Za l true := by
    unfold Jp at q2
    simp only [Bool.and_eq_true, decide_eq_true_eq] at q2
    exact V3.2 ⟨by show m.2.1.toNat < _; omega, by show m.2.2.toNat < (l.getD m.2.1.toNat Q3).d.length; omega, q4⟩
   obtain ⟨a, ha, ha'⟩ := Hw (z := Qu) m1
   obtain ⟨b, hb, hb'⟩ := Hw (z := Qu) m2
   exact ⟨(a, b), fun _ => ⟨ha, hb, by show Yy ((Za l false).getD a Qu) = _; rw [ha']; exact Cx q1, by show Yy ((Za l true).getD b Qu) = _; rw [hb']; exact Cx q2⟩⟩
  ·exact ⟨(0, 0), fun h => absurd h e⟩
 obtain ⟨g, hg⟩ := Classical.axiomOfChoice each
 have hmem : ∀ m ∈ M, c.pairB l days m = true := fun m hm => by
  obtain ⟨i, hi, rfl⟩ := Hw (z := Zp) hm
  exact (h1 i hi).1
 have hpw : M.Pairwise fun a b => a.1 ≠ b.1 ∧ a.2 ≠ b.2 := List.pairwise_iff_getElem.2 fun i j hi hj hij => by
  have := List.all_eq_true.1 (h1 j hj).2 i (by simpa using hij)
  simp only [Bool.not_eq_true', Bool.or_eq_false_iff, decide_eq_false_iff_not] at this
  have gi : M.getD i Zp = M[i] := by simp [List.getD_eq_getElem?_getD, hi]
  have gj : M.getD j Zp = M[j] := by simp [List.getD_eq_getElem?_getD, hj]
  rwa [gi, gj] at this
 have := hN.2 (M.map g) ⟨fun p hp => ?_, ?_, ?_⟩
 ·rw [hlen]; simpa [Qf.matchI] using this
 ·obtain ⟨m, hm, rfl⟩ := List.mem_map.1 hp
  have hb := hmem m hm
  obtain ⟨q1, q2, q3, q4⟩ := hg m hb
  refine ⟨⟨Nat.zero_le _, q1⟩, Ms.2 ⟨q2, ?_⟩, rfl⟩
  rw [← Dm hv h (Xh q1) (Xh q2)]
  rw [show J6 ((Za l false).getD (g m).1 Qu, (Za l true).getD (g m).2 Qu) = m from Prod.ext q3 q4]
  exact hb
 ·refine List.pairwise_map.2 (hpw.imp_of_mem fun {a b} ha hb hab e => hab.1 ?_)
  rw [← (hg a (hmem a ha)).2.2.1, ← (hg b (hmem b hb)).2.2.1, e]
 ·refine List.pairwise_map.2 (hpw.imp_of_mem fun {a b} ha hb hab e => hab.2 ?_)
  rw [← (hg a (hmem a ha)).2.2.2, ← (hg b (hmem b hb)).2.2.2, e]
theorem Qdq {c : Qf} {l : List Pd} {days : Int} {i : Nat} (hi : i + 1 < (c.matchL l days).length) : V1 ((c.matchL l days).getD i (Qu, Qu)).1 ((c.matchL l days).getD (i + 1) (Qu, Qu)).1 := by
 obtain ⟨_, hM, _, hs⟩ := Ll (no := (Za l false).length) (Kg c l days)
 have hlen : (c.matchL l days).length = (c.matchI l days).length := by unfold Qf.matchL; simp
 have hs' : (c.matchI l days).Pairwise fun p q => p.1 < q.1 := hs
 have h := List.pairwise_iff_getElem.1 hs' i (i + 1) (by omega) (by omega) (by omega)
 have at_ : ∀ j, j < (c.matchI l days).length → (c.matchL l days).getD j (Qu, Qu) = ((Za l false).getD ((c.matchI l days).getD j (0, 0)).1 Qu, (Za l true).getD ((c.matchI l days).getD j (0, 0)).2 Qu) := fun j hj => by
  unfold Qf.matchL
  rw [G8 (z := (0, 0)) hj]
 rw [at_ i (by omega), at_ (i + 1) (by omega)]
 have g : ∀ j (hj : j < (c.matchI l days).length), (c.matchI l days).getD j (0, 0) = (c.matchI l days)[j] := fun j hj => by simp [List.getD_eq_getElem?_getD, hj]
 refine Rp ?_ ?_
 ·rw [g i (by omega), g (i + 1) (by omega)]; exact h
 ·have := (hM.a _ (Xh (z := (0, 0)) (show i + 1 < (c.matchI l days).length by omega))).1.2
  exact this
theorem Qdn {c : Qf} {l : List Pd} {d d' : Int} (h : d ≤ d') : (c.matchL l d).length ≤ (c.matchL l d').length := by
 have := Qat (no := (Za l false).length) (Kg c l d) (Kg c l d') (fun o k hk => by
  obtain ⟨h1, h2⟩ := Ms.1 hk
  refine Ms.2 ⟨h1, ?_⟩
  unfold Qf.mayB at h2 ⊢
  simp only [Bool.and_eq_true, decide_eq_true_eq] at h2 ⊢
  exact ⟨h2.1, by omega⟩)
 unfold Qf.matchL Qf.matchI
 simpa using this
theorem Hx {c : Qf} {l : List Pd} {days : Int} (h : c.audE l days = 0) : (c.valid = true ∧ ∀ p ∈ l, Xa c p) ∧ 0 ≤ days ∧ days ≤ 400 := by
 unfold Qf.audE at h
 split at h
 ·rename_i h1; exact absurd h h1
 rename_i h1
 split at h
 ·exact absurd h (by decide)
 ·exact ⟨Il (Decidable.not_not.1 h1), by omega, by omega⟩
end
end Go.Proofs.YtoflcheopfppoaaGreatDoor

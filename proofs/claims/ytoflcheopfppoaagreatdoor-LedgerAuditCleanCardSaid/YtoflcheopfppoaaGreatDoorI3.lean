/- Walks of the program's functions and plain facts, packed; proved: the lemmas below; no conditions but those that each states. -/
import Derived.Test.YtoflcheopfppoaaGreatDoorI2
import Derived.RangeFuncBox
import Derived.Laws.OwnMore
import Derived.Deep.Onto
import Derived.Maps.AppendAt
import Derived.Laws.Append
import Derived.Test.YtoflcheopfppoaaGreatDoorI1
set_option maxRecDepth 100000
set_option maxHeartbeats 4000000
namespace Go.Proofs.YtoflcheopfppoaaGreatDoor
section
def It.before (x y : It) : Prop:=x.y < y.y ∨ (x.y = y.y ∧ (x.n < y.n ∨ (x.n = y.n ∧ x.s = false ∧ y.s = true)))
def Qd.ord (c : Qd) (x y : It) : Prop:=x.first + x.len c ≤ y.first ∧ x.before y
def pb (p q : Int × Bool) : Prop:=p.1 < q.1 ∨ (p.1 = q.1 ∧ p.2 = false ∧ q.2 = true)
theorem Qaw (y : Yr) : ∀ (k : Nat) (p : Int × Bool),p ∈ y.moTo k → 1 ≤ p.1 ∧ p.1 ≤ (k : Int) ∧ (p.2 = true → y.db = p.1)
 | 0,_,h => by cases h
 | k + 1,p,h => by
  rw [V8,List.mem_append,List.mem_cons] at h;rcases h with h | rfl | h
  ·have:=Qaw y k p h;exact ⟨this.1,by omega,this.2.2⟩
  ·exact ⟨by simp only;omega,by simp only;omega,fun h => by cases h⟩
  ·by_cases hd : y.db = (k : Int) + 1
   ·rw [if_pos hd,List.mem_singleton] at h;subst h;exact ⟨by simp only;omega,by simp only;omega,fun _ => hd⟩
   ·rw [if_neg hd] at h;cases h
theorem Qav (y : Yr) : ∀ (k : Nat) (n : Int),1 ≤ n → n ≤ (k : Int) → (n,false) ∈ y.moTo k ∧ (y.db = n → (n,true) ∈ y.moTo k)
 | 0,n,h1,h2 => by omega
 | k + 1,n,h1,h2 => by
  rw [V8];by_cases hn : n = (k : Int) + 1
  ·subst hn;refine ⟨by simp,fun hd => ?_⟩;rw [if_pos hd];simp
  ·have:=Qav y k n h1 Qa;exact ⟨List.mem_append_left _ this.1,fun hd => List.mem_append_left _ (this.2 hd)⟩
theorem Qax (y : Yr) : ∀ k : Nat,(y.moTo k).Pairwise pb
 | 0 => by simp [Yr.moTo]
 | k + 1 => by
  rw [V8,List.pairwise_append];refine ⟨Qax y k,?_,fun p hp q hq => ?_⟩
  ·by_cases hd : y.db = (k : Int) + 1
   ·rw [if_pos hd];simp [pb]
   ·rw [if_neg hd];simp
  ·have h1:=(Qaw y k p hp).2.1;rw [List.mem_cons] at hq;rcases hq with rfl | hq
   ·exact .inl (by simp only;omega)
   ·by_cases hd : y.db = (k : Int) + 1
    ·rw [if_pos hd,List.mem_singleton] at hq;subst hq;exact .inl (by simp only;omega)
    ·rw [if_neg hd] at hq;cases hq
theorem Qcv (i : Nat) (y : Yr) : ∀ (l : List (Int × Bool)) (d : Int) (x : It),x ∈ J5 i y d l → (x.n,x.s) ∈ l
 | [],_,_,h => by cases h
 | p :: l,d,x,h => by
  rw [J5] at h;rcases List.mem_cons.1 h with rfl | h
  ·exact List.mem_cons_self ..
  ·exact List.mem_cons_of_mem _ (Qcv i y l _ x h)
theorem Qct (i : Nat) (y : Yr) : ∀ (l : List (Int × Bool)) (d : Int) (p : Int × Bool),p ∈ l → ∃ x,x ∈ J5 i y d l ∧ x.y = i ∧ x.n = p.1 ∧ x.s = p.2
 | q :: l,d,p,h => by
  rw [J5];rcases List.mem_cons.1 h with rfl | h
  ·exact ⟨_,List.mem_cons_self ..,rfl,rfl,rfl⟩
  ·obtain ⟨x,hx,h1⟩:=Qct i y l (d + y.len q.1 q.2) p h;exact ⟨x,List.mem_cons_of_mem _ hx,h1⟩
theorem Qcx (c : Qd) (i : Nat) : ∀ (l : List (Int × Bool)) (d : Int),l.Pairwise pb → (J5 i (c.yr i) d l).Pairwise c.ord
 | [],_,_ => by simp [J5]
 | p :: l,d,h => by
  rw [List.pairwise_cons] at h;rw [J5,List.pairwise_cons];refine ⟨fun x hx => ?_,Qcx c i l _ h.2⟩;have h1:=Rj c i l _ x hx;have h2:=h.1 _ (Qcv i _ l _ x hx);refine ⟨h1.2.1,.inr ⟨h1.1.symm,?_⟩⟩;rcases h2 with h2 | h2
  ·exact .inl h2
  ·exact .inr h2
theorem I3 (c : Qd) : ∀ k : Nat,(c.itemsTo k).Pairwise c.ord
 | 0 => by simp [Qd.itemsTo]
 | k + 1 => by
  rw [Qd.itemsTo,List.pairwise_append];refine ⟨I3 c k,Qcx c k _ _ (Qax _ 12),fun x hx y hy => ?_⟩;have h1:=Pc c k x hx;have h2:=Rj c k _ _ y hy;have h3:=Sj c (i:=x.y + 1) (j:=k) Qa;exact ⟨by omega,.inl Qa⟩
theorem Pe {c : Qd} {i j : Nat} {x y : It} (hx : c.items[i]? = some x) (hy : c.items[j]? = some y) (h : i < j) : c.ord x y:=by
 obtain ⟨h1,rfl⟩:=List.getElem?_eq_some_iff.1 hx;obtain ⟨h2,rfl⟩:=List.getElem?_eq_some_iff.1 hy;exact List.pairwise_iff_getElem.1 (I3 c c.ny) i j h1 h2 h
theorem Cn {x y : It} (h : x.before y) (h1 : x.y = y.y) (h2 : x.n = y.n) (h3 : x.s = y.s) : False:=by
 rcases h with h | ⟨_,h | ⟨_,h4,h5⟩⟩
 ·omega
 ·omega
 ·rw [h4,h5] at h3;cases h3
theorem I0 (c : Qd) {i : Nat} {x : It} (hx : x ∈ J5 i (c.yr i) (c.dayAt i) (c.yr i).mos) : ∀ k : Nat,i < k → x ∈ c.itemsTo k
 | k + 1,h => by
  rw [Qd.itemsTo,List.mem_append];by_cases hk : i = k
  ·subst hk;exact .inr hx
  ·exact .inl (I0 c hx k Qa)
theorem Qbm {x : It} {d : Dt} : x.of d = true ↔ ((x.y : Int) = d.y ∧ x.n = d.m ∧ x.s = d.s):=by
 simp [It.of,and_assoc]
theorem Qia {c : Qd} {d : Dt} : c.has d = true ↔ ((0 ≤ d.y ∧ d.y < c.ny) ∧ (1 ≤ d.m ∧ d.m ≤ 12) ∧ (d.s = true → (c.yrI d.y).db = d.m) ∧ (1 ≤ d.d ∧ d.d ≤ (c.yrI d.y).len d.m d.s)):=by
 simp only [Qd.has,Bool.and_eq_true,decide_eq_true_eq,Bool.or_eq_true,Bool.not_eq_true',and_assoc];cases d.s <;> simp
theorem Qbe (d : Dt) : ∀ (l : List It) (k : Int),(∃ x,x ∈ l ∧ x.of d = true) → ∃ (i : Nat) (x : It),l[i]? = some x ∧ x.of d = true ∧ Ym d l k = (x.first + d.d - 1,k + i + 1)
 | [],_,h => by obtain ⟨x,hx,_⟩:=h;cases hx
 | x :: l,k,h => by
  by_cases ho : x.of d = true
  ·exact ⟨0,x,rfl,ho,by rw [Ym,if_pos ho];simp⟩
  ·obtain ⟨z,hz,hzo⟩:=h
   have hz' : z ∈ l:=by
    rcases List.mem_cons.1 hz with rfl | h1
    ·exact absurd hzo ho
    ·exact h1
   obtain ⟨i,y,hy,hyo,hn⟩:=Qbe d l (k + 1) ⟨z,hz',hzo⟩;exact ⟨i + 1,y,by simpa using hy,hyo,by rw [Ym,if_neg ho,hn];congr 1;omega⟩
theorem Fl {c : Qd} {d : Dt} (h : c.has d = true) : ∃ (i : Nat) (x : It),c.items[i]? = some x ∧ ((x.y : Int) = d.y ∧ x.n = d.m ∧ x.s = d.s) ∧ c.num d = (x.first + d.d - 1,(i : Int) + 1) ∧ 1 ≤ d.d ∧ d.d ≤ x.len c:=by
 obtain ⟨⟨h1,h2⟩,⟨h3,h4⟩,h5,h6,h7⟩:=Qia.1 h
 have hex : ∃ x,x ∈ c.items ∧ x.of d = true:=by
  have hm : (d.m,d.s) ∈ (c.yr d.y.toNat).mos:=by
   have:=Qav (c.yr d.y.toNat) 12 d.m h3 Qa;cases hs : d.s
   ·exact this.1
   ·exact this.2 (h5 hs)
  obtain ⟨x,hx,hy,hn,hs⟩:=Qct d.y.toNat (c.yr d.y.toNat) _ (c.dayAt d.y.toNat) _ hm;exact ⟨x,I0 c hx c.ny Qa,Qbm.2 ⟨by omega,hn,hs⟩⟩
 obtain ⟨i,x,hx,ho,hn⟩:=Qbe d c.items 0 hex;have ho':=Qbm.1 ho;refine ⟨i,x,hx,ho',by unfold Qd.num;rw [hn];congr 1;omega,h6,?_⟩
 have e : x.len c = (c.yrI d.y).len d.m d.s:=by
  unfold It.len Qd.yrI;rw [ho'.2.1,ho'.2.2,← ho'.1];rfl
 omega
def Dt.less (a b : Dt) : Bool:=if a.y = b.y then (if a.m = b.m then (if a.s = b.s then decide (a.d < b.d) else b.s) else decide (a.m < b.m)) else decide (a.y < b.y)
theorem Qji {a b : Dt} (h : a.y < b.y ∨ (a.y = b.y ∧ (a.m < b.m ∨ (a.m = b.m ∧ a.s = false ∧ b.s = true)))) : a.less b = true:=by
 unfold Dt.less;rcases h with h | ⟨h1,h | ⟨h2,h3,h4⟩⟩
 ·rw [if_neg Qa];exact decide_eq_true h
 ·rw [if_pos h1,if_neg Qa];exact decide_eq_true h
 ·rw [if_pos h1,if_pos h2,h3,h4];rfl
theorem Qjh {a b : Dt} (h : b.y < a.y ∨ (b.y = a.y ∧ (b.m < a.m ∨ (b.m = a.m ∧ b.s = false ∧ a.s = true)))) : a.less b = false:=by
 unfold Dt.less;rcases h with h | ⟨h1,h | ⟨h2,h3,h4⟩⟩
 ·rw [if_neg Qa];exact decide_eq_false Qa
 ·rw [if_pos h1.symm,if_neg Qa];exact decide_eq_false Qa
 ·rw [if_pos h1.symm,if_pos h2.symm,h3,h4];rfl
theorem W7 {c : Qd} {a b : Dt} (ha : c.has a = true) (hb : c.has b = true) : a.less b = decide ((c.num a).1 < (c.num b).1) ∧ ((c.num a).1 = (c.num b).1 ↔ a = b) ∧
  ((c.num a).1 < (c.num b).1 → 0 < 30 * ((c.num b).2 - (c.num a).2) + b.d - a.d) ∧ ((c.num a).1 = (c.num b).1 → 30 * ((c.num b).2 - (c.num a).2) + b.d - a.d = 0):=by
 obtain ⟨i,x,hx,⟨x1,x2,x3⟩,xn,xd,xl⟩:=Fl ha;obtain ⟨j,y,hy,⟨y1,y2,y3⟩,yn,yd,yl⟩:=Fl hb;have lx:=V6 (c.yr x.y) x.n x.s;have ly:=V6 (c.yr y.y) y.n y.s
 change 29 ≤ x.len c ∧ x.len c ≤ 30 at lx
 change 29 ≤ y.len c ∧ y.len c ≤ 30 at ly
 rw [xn,yn];rcases Nat.lt_trichotomy i j with h | h | h
 ·obtain ⟨o1,o2⟩:=Pe hx hy h
  have hl : a.less b = true:=Qji (by
   rw [← x1,← y1,← x2,← y2,← x3,← y3];rcases o2 with o | ⟨p,o⟩
   ·exact .inl Qa
   ·exact .inr ⟨by omega,o⟩)
  simp only
  refine ⟨by rw [hl];exact (decide_eq_true Qa).symm,⟨fun h => by omega,fun h => ?_⟩,fun _ => by omega,fun h => by omega⟩;subst h;exact (Cn o2 Qa Qa (by rw [x3,y3])).elim
 ·subst h;obtain rfl : x = y := Option.some.inj (hx.symm.trans hy);have e1 : a.y = b.y := by omega
  have e2 : a.m = b.m:=by omega
  have e3 : a.s = b.s:=x3.symm.trans y3
  simp only
  refine ⟨?_,⟨fun h => ?_,fun h => by rw [h]⟩,fun _ => by omega,fun _ => by omega⟩
  ·unfold Dt.less;rw [if_pos e1,if_pos e2,if_pos e3];by_cases hd : a.d < b.d
   ·rw [decide_eq_true hd];exact (decide_eq_true Qa).symm
   ·rw [decide_eq_false hd];exact (decide_eq_false Qa).symm
  ·have e4 : a.d = b.d := by omega
   cases a;cases b;simp only at e1 e2 e3 e4;rw [e1,e2,e3,e4]
 ·obtain ⟨o1,o2⟩:=Pe hy hx h
  have hl : a.less b = false:=Qjh (by
   rw [← x1,← y1,← x2,← y2,← x3,← y3];rcases o2 with o | ⟨p,o⟩
   ·exact .inl Qa
   ·exact .inr ⟨by omega,o⟩)
  simp only
  refine ⟨by rw [hl];exact (decide_eq_false Qa).symm,⟨fun h => by omega,fun h => ?_⟩,fun h => by omega,fun h => by omega⟩;subst h;exact (Cn o2 Qa Qa (by rw [x3,y3])).elim
/-! ### The date of a number -/
theorem Bz {c : Qd} {n : Int} {x : It} : ∀ {l : List It} {i : Nat},l[i]? = some x → x.first ≤ n → n - x.first < x.len c → (∀ (j : Nat) (y : It),j < i → l[j]? = some y → ¬ (y.first ≤ n ∧ n - y.first < y.len c)) → c.atFrom n l = some ⟨x.y,x.n,x.s,n - x.first + 1⟩
 | y :: l,0,h,h1,h2,_ => by
  obtain rfl : y = x:=by simpa using h
  rw [Qd.atFrom,if_pos ⟨h1,h2⟩]
 | y :: l,i + 1,h,h1,h2,h3 => by
  rw [Qd.atFrom,if_neg (h3 0 y Qa rfl)];exact Bz (by simpa using h) h1 h2 (fun j z hj hz => h3 (j + 1) z Qa (by simpa using hz))
theorem at_num {c : Qd} {d : Dt} (h : c.has d = true) : c.at? (c.num d).1 = some d:=by
 obtain ⟨i,x,hx,⟨x1,x2,x3⟩,xn,xd,xl⟩:=Fl h;rw [xn]
 simp only
 unfold Qd.at?;rw [Bz hx Qa Qa (fun j y hj hy hc => ?_)]
 ·have e : x.first + d.d - 1 - x.first + 1 = d.d := by omega
  rw [e,x1,x2,x3]
 ·have:=(Pe hy hx hj).1;omega
theorem Qbj {c : Qd} {d : Dt} (h : c.has d = true) : 1 ≤ (c.num d).1 ∧ (c.num d).1 < c.dayAt c.ny:=by
 have h1:=at_num h;rcases Decidable.em ((c.num d).1 < 1 ∨ c.dayAt c.ny ≤ (c.num d).1) with h2 | h2
 ·rw [at_out h2] at h1;cases h1
 ·omega
end
section
open Go Go.RowKit Go.Shelf
attribute [local go_sem] Oper.semAt_some Zx
def Dt.val (d : Dt) : Value:=.agg #[.int .i64 d.y,.int .i64 d.m,.bool d.s,.int .i64 d.d]
theorem Qdx {c : Qd} (h : c.valid = true) : c.ny ≤ 400:=by
 simp only [Qd.valid,Bool.and_eq_true,decide_eq_true_eq] at h;exact h.1.2
theorem Qc.kept {W W' : World} {row : Option Nat} {b : Nat} {t : TypeId} {cs : Array Value} (h : Qc W b t cs) (hg : W.grownBy W' row) (hne : some b ≠ row) : Qc W' b t cs:=(hg.block b h.lt hne).trans h
theorem Qc.not_row {W : World} {b : Nat} {t e : TypeId} {cs : Array Value} (h : Qc W b t cs) (hte : t ≠ e) {base size k : Nat} {v : Value} {xs : List Value} (hr : W.ownsRow base e size v k xs) : some b ≠ v.ownBlock:=by
 rcases hr.2 with ⟨rfl,_⟩ | ⟨g,cap,cur,rfl,_,hgb,_⟩
 ·simp [Value.ownBlock]
 ·intro e';obtain rfl : b = g := by simpa [Value.ownBlock] using e'
  have:=(show W.heap[b]? = _ from h).symm.trans hgb;simp at this;exact hte this.2
theorem Va {W : World} {base size k : Nat} {e : TypeId} {v : Value} {xs : List Value} (hr : W.ownsRow base e size v k xs) : ∀ r,v.ownBlock = some r → base ≤ r ∧ ∃ cur,W.heap[r]? = some (.cells cur e (0,0)):=by
 rcases hr.2 with ⟨rfl,_⟩ | ⟨g,cap,cur,rfl,hb,hgb,_⟩
 ·intro r h;simp [Value.ownBlock] at h
 ·intro r h;obtain rfl : g = r := by simpa [Value.ownBlock] using h
  exact ⟨hb,cur,hgb⟩
namespace SpStep
variable {wd W0 W W' : World} {B0 Bo Bx : Nat} {mcs : Array Value} {L : List Sp} {v : Value}
end SpStep
/-- A slice that reads as some spans. -/
def Tb (w : World) (v : Value) (l : List Sp) : Prop:=∃ A cap,v = .slice A l.length cap ∧ Qs w A l.length 2 (fun i => (l.getD i ⟨0,0⟩).cells) ∧ l.length ≤ cap ∧ cap ≤ maxLen
theorem Tb.ext {w w' : World} {v : Value} {l : List Sp} (h : Tb w v l) (e : Qb w w') : Tb w' v l:=by
 obtain ⟨A,cap,hv,hr,hc,hm⟩:=h;exact ⟨A,cap,hv,hr.ext e,hc,hm⟩
end
section
open Go Go.RowKit Go.Shelf
attribute [local go_sem] Zx
theorem Qcw {c : Qd} {i : Nat} (hi : i < c.ny) : ∀ (k : Nat),k ≤ 12 → ∀ x,x ∈ J5 i (c.yr i) (c.dayAt i) ((c.yr i).moTo k) → c.okIt x
 | 0,_,x,hx => by simp [Yr.moTo,J5] at hx
 | k + 1,hk,x,hx => by
  rw [V8,Ho,List.mem_append] at hx;rcases hx with hx | hx
  ·exact Qcw hi k Qa x hx
  ·by_cases h : (c.yr i).db = (k : Int) + 1
   ·rw [if_pos h] at hx;rcases List.mem_cons.1 hx with rfl | hx
    ·exact G5 hi Qa
    ·rcases List.mem_cons.1 hx with rfl | hx
     ·exact Iz hi Qa
     ·cases hx
   ·rw [if_neg h] at hx;rcases List.mem_cons.1 hx with rfl | hx
    ·exact G5 hi Qa
    ·cases hx
theorem I1 (c : Qd) : ∀ i : Nat,i ≤ c.ny → ∀ x,x ∈ c.itemsTo i → c.okIt x
 | 0,_,x,hx => by cases hx
 | i + 1,hi,x,hx => by
  rw [Qd.itemsTo,List.mem_append] at hx;rcases hx with hx | hx
  ·exact I1 c i Qa x hx
  ·exact Qcw Qa 12 Qa x hx
theorem Qjb (c : Qd) : ∀ x,x ∈ c.items → c.okIt x:=I1 c c.ny (Nat.le_refl _)
theorem Tw (c : Qd) (d : Dt) : c.checks (fun _ => d) 1 = c.inE d:=by simp [Qd.checks,Qd.inE]
def two (a b : Dt) (i : Nat) : Dt:=if i = 0 then a else b
theorem Tx (c : Qd) (a b : Dt) : c.checks (two a b) 2 = c.in2E a b:=by
 simp only [Qd.checks,Qd.in2E,show List.range 2 = [0,1] from rfl,List.all_cons,List.all_nil,Bool.and_true];rfl
theorem Qit (c : Qd) (d : Dt) : (c.valid = false ∧ c.inE d = 70) ∨ (c.valid = true ∧ c.has d = false ∧ c.inE d = 71) ∨ (c.valid = true ∧ c.has d = true ∧ c.inE d = 0):=by
 unfold Qd.inE;cases c.valid <;> cases c.has d <;> simp
theorem Lu (c : Qd) (a b : Dt) : (c.valid = false ∧ c.in2E a b = 70) ∨ (c.valid = true ∧ (c.has a && c.has b) = false ∧ c.in2E a b = 71) ∨ (c.valid = true ∧ (c.has a && c.has b) = true ∧ c.in2E a b = 0):=by
 unfold Qd.in2E;cases c.valid <;> cases c.has a <;> cases c.has b <;> simp
theorem Sz {c : Qd} {d : Dt} (h : c.has d = true) : 1 ≤ d.d ∧ d.d ≤ 30:=by
 simp only [Qd.has,Bool.and_eq_true,decide_eq_true_eq] at h;have:=V6 (c.yrI d.y) d.m d.s;omega
theorem Di {w : World} {b : Nat} {t : TypeId} {d : Dt} (h : Qc w b t #[.int .i64 d.y,.int .i64 d.m,.bool d.s,.int .i64 d.d]) : Qs w (some ⟨b,0,none⟩) 1 4 (fun _ => Sl d):=fun _ =>
 ⟨b,0,rfl,h.lt,fun i j v hi hv => by
  obtain rfl : i = 0:=by omega
  rw [show 0 + 0 * 4 + j = j by omega,h.cell j,List.getElem?_toArray];exact hv⟩
theorem Dk {w : World} {b : Nat} {t : TypeId} {x y : Dt} (h : Qc w b t #[.int .i64 x.y,.int .i64 x.m,.bool x.s,.int .i64 x.d,.int .i64 y.y,.int .i64 y.m,.bool y.s,.int .i64 y.d]) : Qs w (some ⟨b,0,none⟩) 2 4 (fun i => Sl (two x y i)):=fun _ =>
 ⟨b,0,rfl,h.lt,fun i j v hi hv => by
  have hj : j < 4:=(List.getElem?_eq_some_iff.1 hv).1;rw [Nat.zero_add,h.cell]
  match i,j,hi,hj,hv with
  | 0,0,_,_,hv => exact hv
  | 0,1,_,_,hv => exact hv
  | 0,2,_,_,hv => exact hv
  | 0,3,_,_,hv => exact hv
  | 1,0,_,_,hv => exact hv
  | 1,1,_,_,hv => exact hv
  | 1,2,_,_,hv => exact hv
  | 1,3,_,_,hv => exact hv⟩
set_option maxHeartbeats 1000000 in
theorem Qld (A A' : Option Addr) (ca cb : Nat) (c : Qd) (d : Dt) (w : World) (hC : Zg w A ca A' cb c) :
  Calls Tryz.prog 100 #[.agg #[.slice A c.nk ca,.slice A' c.ny cb],.agg #[.int .i64 d.y,.int .i64 d.m,.bool d.s,.int .i64 d.d]] w fun e w' => e = .returned (.tuple #[.int .i64 (c.numV d),.int .i64 (c.inE d)]) ∧ Qb w w':=by
 rcases Qit c d with ⟨hv,hE⟩ | ⟨hv,hh,hE⟩ | ⟨hv,hh,hE⟩
 ·have HE := Lib.hid hE;have HV : Hid (c.numV d = 0) := by unfold Hid Qd.numV; rw [hE]; rfl
  clear hE hv
  go_enter Tryz.func100,Tryz.ntmps100
  go_wp2_with (go_at_call 94;refine (Mf _ _ _ _ c _ 1 1 (fun _ => d) _ (hC.ext Qu) (Di (t:=51) Wv) Qa).mono ?_;rw [Tw,HE.out];rintro e wq ⟨rfl,hq⟩);go_ret2;exact ⟨by rw [HE.out,HV.out];rfl,Qu⟩
 ·have HE := Lib.hid hE;have HV : Hid (c.numV d = 0) := by unfold Hid Qd.numV; rw [hE]; rfl
  clear hE hv
  go_enter Tryz.func100,Tryz.ntmps100
  go_wp2_with (go_at_call 94;refine (Mf _ _ _ _ c _ 1 1 (fun _ => d) _ (hC.ext Qu) (Di (t:=51) Wv) Qa).mono ?_;rw [Tw,HE.out];rintro e wq ⟨rfl,hq⟩);go_ret2;exact ⟨by rw [HE.out,HV.out];rfl,Qu⟩
 ·have HE := Lib.hid hE;have HV : Hid (c.numV d = (c.num d).1) := by unfold Hid Qd.numV; rw [hE]; rfl
  have HL:=Lib.hid (Bb hv);have HY:=Lib.hid (Qdx hv);have HD:=Lib.hid (Sz hh);clear hE hv hh
  go_enter Tryz.func100,Tryz.ntmps100
  go_wp2_with (go_at_call 94;refine (Mf _ _ _ _ c _ 1 1 (fun _ => d) _ (hC.ext Qu) (Di (t:=51) Wv) Qa).mono ?_;rw [Tw,HE.out];rintro e wq ⟨rfl,hq⟩;obtain ⟨k0,k1⟩:=(Qc.ext (b:=w.heap.size) (t:=25) (cs:=#[.slice A c.nk ca,.slice A' c.ny cb]) Wv hq).c2;obtain ⟨e0,e1,e2,e3⟩:=(Qc.ext (b:=w.heap.size + 1) (t:=51) (cs:=#[.int .i64 d.y,.int .i64 d.m,.bool d.s,.int .i64 d.d]) Wv hq).c4);refine (Pz _ _ _ _ c d _ (hC.ext Qu) HL.out HY.out HD.out).mono ?_;rintro e wn ⟨rfl,hn⟩;go_wp2;go_ret2;exact ⟨by rw [HE.out,HV.out];rfl,Qu⟩
theorem Qbi (c : Qd) (d : Dt) (h1 : 1 ≤ d.d) (h2 : d.d ≤ 30) : 0 ≤ (c.num d).1 ∧ (c.num d).1 ≤ 390 * (c.ny : Int) + 421 ∧ 0 ≤ (c.num d).2 ∧ (c.num d).2 ≤ 13 * (c.ny : Int):=by
 have hi : ∀ x,x ∈ c.items → c.okIt x:=Qjb c;have hl:=G6 c c.ny
 have h : ∀ (l : List It) (k : Int),0 ≤ k → (∀ x,x ∈ l → c.okIt x) → 0 ≤ (Ym d l k).1 ∧ (Ym d l k).1 ≤ 390 * (c.ny : Int) + 421 ∧ 0 ≤ (Ym d l k).2 ∧ (Ym d l k).2 ≤ k + l.length:=by
  intro l
  induction l with
  | nil => intro k hk _;simp [Ym];omega
  | cons x l ih =>
   intro k hk hx;have hx0:=hx x (List.mem_cons_self ..);have f1:=hx0.f1;have f2:=hx0.f2;have:=ih (k + 1) Qa (fun y hy => hx y (List.mem_cons_of_mem _ hy));rw [Ym,List.length_cons]
   split
   ·simp only;omega
   ·omega
 have:=h c.items 0 Qa hi;have e : (c.items.length : Int) ≤ 13 * (c.ny : Int):=by unfold Qd.items;omega
 unfold Qd.num;omega
set_option maxHeartbeats 2000000 in
theorem Qmt (A A' : Option Addr) (ca cb : Nat) (c : Qd) (a b : Dt) (w : World) (hC : Zg w A ca A' cb c) :
  Calls Tryz.prog 140 #[.agg #[.slice A c.nk ca,.slice A' c.ny cb],.agg #[.int .i64 a.y,.int .i64 a.m,.bool a.s,.int .i64 a.d],.agg #[.int .i64 b.y,.int .i64 b.m,.bool b.s,.int .i64 b.d]] w fun e w' => e = .returned (.tuple #[.int .i64 (c.schV a b),.int .i64 (c.in2E a b)]) ∧ Qb w w':=by
 rcases Lu c a b with ⟨hv,hE⟩ | ⟨hv,hh,hE⟩ | ⟨hv,hh,hE⟩
 ·have HE := Lib.hid hE;have HV : Hid (c.schV a b = 0) := by unfold Hid Qd.schV; rw [hE]; rfl
  clear hE hv
  go_enter Tryz.func140,Tryz.ntmps140
  go_wp2_with (go_at_call 94;refine (Mf _ _ _ _ c _ 2 2 (two a b) _ (hC.ext Qu) (Dk (t:=51) Wv) Qa).mono ?_;rw [Tx,HE.out];rintro e wq ⟨rfl,hq⟩);go_ret2;exact ⟨by rw [HE.out,HV.out];rfl,Qu⟩
 ·have HE := Lib.hid hE;have HV : Hid (c.schV a b = 0) := by unfold Hid Qd.schV; rw [hE]; rfl
  clear hE hv
  go_enter Tryz.func140,Tryz.ntmps140
  go_wp2_with (go_at_call 94;refine (Mf _ _ _ _ c _ 2 2 (two a b) _ (hC.ext Qu) (Dk (t:=51) Wv) Qa).mono ?_;rw [Tx,HE.out];rintro e wq ⟨rfl,hq⟩);go_ret2;exact ⟨by rw [HE.out,HV.out];rfl,Qu⟩
 ·have HE := Lib.hid hE;have HV : Hid (c.schV a b = 30 * ((c.num b).2 - (c.num a).2) + b.d - a.d) := by unfold Hid Qd.schV; rw [hE]; rfl
  have HL:=Lib.hid (Bb hv);have hny:=Qdx hv;have HY:=Lib.hid hny;rw [Bool.and_eq_true] at hh;have hda:=Sz hh.1;have hdb:=Sz hh.2;have HDa:=Lib.hid hda;have HDb:=Lib.hid hdb;obtain ⟨hda1,hda2⟩:=hda;obtain ⟨hdb1,hdb2⟩:=hdb;have hna:=Qbi c a hda1 hda2;have hnb:=Qbi c b hdb1 hdb2;obtain ⟨hna1,hna2,hna3,hna4⟩:=hna;obtain ⟨hnb1,hnb2,hnb3,hnb4⟩:=hnb;clear hE hv hh
  go_enter Tryz.func140,Tryz.ntmps140
  go_wp2_with (go_at_call 94;refine (Mf _ _ _ _ c _ 2 2 (two a b) _ (hC.ext Qu) (Dk (t:=51) Wv) Qa).mono ?_;rw [Tx,HE.out];rintro e wq ⟨rfl,hq⟩;have hcb:=(Qc.ext (b:=w.heap.size) (t:=25) (cs:=#[.slice A c.nk ca,.slice A' c.ny cb]) Wv hq);have hab:=(Qc.ext (b:=w.heap.size + 1) (t:=51) (cs:=#[.int .i64 a.y,.int .i64 a.m,.bool a.s,.int .i64 a.d]) Wv hq);have hbb:=(Qc.ext (b:=w.heap.size + 1 + 1) (t:=51) (cs:=#[.int .i64 b.y,.int .i64 b.m,.bool b.s,.int .i64 b.d]) Wv hq);obtain ⟨k0,k1⟩:=hcb.c2;obtain ⟨e0,e1,e2,e3⟩:=hab.c4);refine (Pz _ _ _ _ c a _ (hC.ext Qu) HL.out HY.out HDa.out).mono ?_;rintro e wn ⟨rfl,hn⟩
  obtain ⟨k0,k1⟩:=(hcb.ext hn).c2;obtain ⟨g0,g1,g2,g3⟩:=(hbb.ext hn).c4;go_wp2_with (fail);refine (Pz _ _ _ _ c b _ (hC.ext Qu) HL.out HY.out HDb.out).mono ?_;rintro e wm ⟨rfl,hm⟩;obtain ⟨y0,y1,y2,y3⟩:=((hab.ext hn).ext hm).c4;obtain ⟨z0,z1,z2,z3⟩:=((hbb.ext hn).ext hm).c4;go_wp2;go_ret2;exact ⟨by rw [HE.out,HV.out];rfl,Qu⟩
end
section
open Go Go.RowKit
attribute [local go_sem] Zx
theorem Lj (w : World) (l : List Value) (t : TypeId) : ∀ j u,l[j]? = some u → (w.alloc (.cells l.toArray t)).cell? ((⟨w.heap.size,0,none⟩ : Addr).add j) = some u:=fun j u hj => by
 have h:=(Qc.new w t l.toArray).cell j;have e : ((⟨w.heap.size,0,none⟩ : Addr).add j) = ⟨w.heap.size,j,none⟩:=by unfold Addr.add;split <;> simp_all
 rw [e,h]
 simpa using hj
theorem Ja {w w' : World} {base size n : Nat} {e : TypeId} {v : Value} {xs : List Value} (h : w.ownsRow base e size v n xs) (x : Qb w w') : w'.ownsRow base e size v n xs:=h.kept (Ml x) (by
 rcases h.2 with ⟨rfl,_⟩ | ⟨g,cap,cur,rfl,_⟩
 ·exact .inl rfl
 ·exact .inr (fun e => by cases e))
def mrow (y : Yr) (i : Nat) : List Value:=[.int .i64 (y.mos.getD i (0,false)).1,.bool (y.mos.getD i (0,false)).2,.int .i64 (y.len (y.mos.getD i (0,false)).1 (y.mos.getD i (0,false)).2)]
/-- The value v reads as the months of y. -/
def Ta (w : World) (v : Value) (y : Yr) : Prop:=∃ A cap,v = .slice A y.mos.length cap ∧ Qs w A y.mos.length 3 (mrow y)
theorem Ta.ext {w w' : World} {v : Value} {y : Yr} (h : Ta w v y) (e : Qb w w') : Ta w' v y:=by
 obtain ⟨A,cap,hv,hr⟩:=h;exact ⟨A,cap,hv,hr.ext e⟩
theorem Qes {P : Program} {w : World} (t ty e : TypeId) (i : TypeInfo) (z : Value) (ht : P.underlying t = some (.slice e)) (hi : P.info? e = some i) (hz : i.zero = some z) :
  (Builtin.append_ #[t,t] ty #[.slice none 0 0,.slice none 0 0]).run P w = .ok (.slice none 0 0) w:=by
 simp [Builtin.append_,run_underlying ht,sizeOf,typeInfo,zeroValue,hi,hz,Builtin.lenOf,run_firstCells_none]
/-- 'append(nil, x...)', x nil or not. -/
theorem Qd9 {P : Program} {ops : Array Oper} {rest : List Oper} {o : Oper} {a : Act} {w : World} {Q : Exit → Act → World → Prop} (hgd : o.guard = none) (s x : Operand) (t : TypeId)
  (ho : o.op = .call { callee:=.builtin .append,args:=#[s,x],argTypes:=#[t,t] })
  (base : Nat) (e : TypeId) (i : TypeInfo) (z : Value) (size bytes : Nat) (ht : P.underlying t = some (.slice e)) (hi : P.info? e = some i) (hz : i.zero = some z)
  (hsize : i.size = size) (hby : i.bytes = bytes) (hzs : z.cells.size = size) (hsz : 0 < size) (hs : a.eval s = .slice none 0 0)
  (A : Option Addr) (m c : Nat) (news : List Value) (hx : a.eval x = .slice A m c) (hnil : A = none → m = 0 ∧ c = 0) (hl : news.length = m * size) (hnews : ∀ ad,A = some ad → ∀ j u,news[j]? = some u → w.cell? (ad.add j) = some u) (h1 : ∀ u ∈ news,u.oneCell' = true)
  (h63 : m ≤ maxLen) (hbytes : m * bytes ≤ 140737488355328) (hbase : base ≤ w.heap.size)
  (h : ∀ v' w',w'.ownsRow base e size v' m news → w.grownBy w' none → wpList P ops Q rest (a.put o.dst v') w') :
  wpList P ops Q (o :: rest) a w:=by
 cases A with
 | some ad =>
  refine wpList_append_own_at _ hgd s x t ho base e i z size bytes ht hi hz hsize hby hzs hsz (.slice none 0 0) 0 [] hs (World.ownsRow_nil w base e size) ad m c news hx hl (hnews ad rfl) h1 Qa (by rw [Nat.zero_add];exact hbytes) hbase ?_;intro v' w' g1 g2 _ _;rw [Nat.zero_add,List.nil_append] at g1
  exact h v' w' g1 g2
 | none =>
  obtain ⟨rfl,rfl⟩:=hnil rfl;have hn : news = []:=List.eq_nil_of_length_eq_zero (by simpa using hl);subst hn;refine wpList_plain hgd fun K hK => ?_
  have hr:=Qes (P:=P) (w:=w) t o.type e i z ht hi hz;unfold Oper.wp execOp;simp only [ho,resolve,invoke,builtin,Sem.run_bind,Sem.run_pure,Result.andThen_ok,List.map_toArray,List.map_cons,List.map_nil,hs,hx,hr];exact hK _ _ (h _ w (World.ownsRow_nil w base e size) (World.grownBy.refl _ _))
/-- The cells of n elements, one after the other. -/
def Q0 (f : Nat → List Value) (n : Nat) : List Value:=(List.range n).flatMap f
theorem Ud (f : Nat → List Value) (k : Nat) : Q0 f (k + 1) = Q0 f k ++ f k:=by simp [Q0,List.range_succ]
theorem X6 {f : Nat → List Value} {sz : Nat} (hf : ∀ i,(f i).length = sz) : ∀ k,(Q0 f k).length = k * sz
 | 0 => by simp [Q0]
 | k + 1 => by rw [Ud,List.length_append,X6 hf k,hf,Nat.succ_mul]
theorem Uv {f : Nat → List Value} {sz : Nat} (hf : ∀ i,(f i).length = sz) : ∀ {k i j : Nat},i < k → j < sz → (Q0 f k)[i * sz + j]? = (f i)[j]?
 | k + 1,i,j,hi,hj => by
  rw [Ud];by_cases h : i = k
  ·subst h;rw [List.getElem?_append_right (by rw [X6 hf];omega),X6 hf,Nat.add_sub_cancel_left]
  ·have hik : i < k := by omega
   have hlt : i * sz + j < k * sz:=Nat.lt_of_lt_of_le (show i * sz + j < (i + 1) * sz by rw [Nat.succ_mul];omega) (Nat.mul_le_mul_right sz hik);rw [List.getElem?_append_left (by rw [X6 hf];exact hlt)];exact Uv hf hik hj
theorem Ql3 (b o j : Nat) : (⟨b,o,none⟩ : Addr).add j = ⟨b,o + j,none⟩:=by unfold Addr.add;split <;> simp_all
theorem Mi {w : World} {A : Option Addr} {n sz : Nat} {f : Nat → List Value} (hf : ∀ i,(f i).length = sz) (hs : 0 < sz) (h : Qs w A n sz f) : ∀ ad,A = some ad → ∀ j u,(Q0 f n)[j]? = some u → w.cell? (ad.add j) = some u:=fun ad hA j u hj => by
 have hjl : j < n * sz:=by have:=(List.getElem?_eq_some_iff.1 hj).1;rwa [X6 hf] at this
 have hn : 0 < n:=Nat.pos_of_ne_zero (fun e => by subst e;omega);obtain ⟨b,o,e,_,hc⟩:=h hn;obtain rfl : ad = ⟨b,o,none⟩:=Option.some.inj (hA.symm.trans e);have hi : j / sz < n:=(Nat.div_lt_iff_lt_mul hs).2 hjl;have hm:=Nat.mod_lt j hs;have hd:=Nat.div_add_mod j sz;have he : j / sz * sz + j % sz = j:=by rw [Nat.mul_comm];exact hd
 have:=Uv hf hi hm;rw [he,hj] at this;rw [Ql3];have:=hc (j / sz) (j % sz) u hi this.symm;rw [show o + j / sz * sz + j % sz = o + j by omega] at this;exact this
theorem Ue {w : World} {base k sz : Nat} {e : TypeId} {v : Value} {f : Nat → List Value} (hf : ∀ i,(f i).length = sz) (h : w.ownsRow base e sz v k (Q0 f k)) : ∃ F c,v = .slice F k c ∧ Qs w F k sz f ∧ k ≤ c ∧ c ≤ maxLen ∧ (F = none → k = 0 ∧ c = 0) ∧ ∀ a,F = some a → base ≤ a.block:=by
 rcases h.2 with ⟨rfl,h0⟩ | ⟨q,cap,cur,rfl,hb,hq,hn,hm,_⟩
 ·exact ⟨none,0,by rw [h0],fun hp => by omega,by omega,by omega,fun _ => ⟨h0,rfl⟩,fun a h => by cases h⟩
 ·refine ⟨_, _, rfl, fun _ => ⟨q, 0, rfl, (Array.getElem?_eq_some_iff.1 hq).1, fun i j v hi hv => ?_⟩, hn, hm, (fun h => by cases h), fun a h => by cases h; exact hb⟩;have hj : j < sz := by have := (List.getElem?_eq_some_iff.1 hv).1; rwa [hf] at this
  have hlt : i * sz + j < k * sz:=Nat.lt_of_lt_of_le (show i * sz + j < (i + 1) * sz by rw [Nat.succ_mul];omega) (Nat.mul_le_mul_right sz hi);rw [Nat.zero_add,World.ownsRow.cellAt h (i * sz + j) hlt,Uv hf hi hj];exact hv
theorem Eo {f : Nat → List Value} {n : Nat} (h : ∀ i,∀ u ∈ f i,u.oneCell' = true) : ∀ u ∈ Q0 f n,u.oneCell' = true:=fun u hu => by
 obtain ⟨i,_,hi⟩:=List.mem_flatMap.1 hu;exact h i u hi
theorem Qn8 {P : Program} {id : Nat} {Q : Exit → Act → World → Prop} {a : Act} {w : World} {l : List Oper} (n : Nat) (W : World) (hm : P.follows .mixedOrders = true) (hn : n = l.length) (he : Qb W w)
  (h : Nonempty (XW W) → (∀ (u : XW W) b o,b < W.heap.size → u.w.cell? ⟨b,o,none⟩ = W.cell? ⟨b,o,none⟩) →
   ∀ w',Qb w w' → Ys P .any l.toArray (Qb W) (fun a w => Q .normal a w) n (Array.replicate n false) a w') : (Code.region id l.toArray true).wp P Q a w:=by
 have H:=h (XW.some W) (fun u => u.cell) { w with drawn:=w.drawn + 1 } ⟨rfl,rfl,rfl,Nat.le_refl _,fun _ _ => rfl⟩;have _:=he;refine Code.wp_mono (Q:=Zz fun a w => Q .normal a w) (fun e a' w' h' => by cases e <;> first | exact h' | exact False.elim h') (wp_region_any hm (Be (C:=Qb W) _ _ _ _ ?_));subst hn
 simpa using H
theorem Qcs {w : World} {A : Option Addr} {n sz : Nat} {f : Nat → List Value} (h : Qs w A n sz f) {p : Addr} (u : Value) (hne : ∀ a,A = some a → a.block ≠ p.block) : Qs (w.setCell p u) A n sz f:=fun h0 => by
 obtain ⟨b,off,hA,hb,hc⟩:=h h0;refine ⟨b,off,hA,by simpa [World.setCell] using hb,fun i j v hi hv => ?_⟩;have hb2 : p.block ≠ b:=fun e => hne _ hA e.symm
 rw [World.cell?_setCell_other _ _ _ _ (fun e => hb2 (by rw [e]))];exact hc i j v hi hv
theorem Rh {w : World} {A : Option Addr} {n sz : Nat} {f : Nat → List Value} {b : Nat} (h : Qs w A n sz f) (hne : ∀ a,A = some a → a.block ≠ b) (i j : Nat) (u x : Value) : Qs ((w.setCell ⟨b,i,none⟩ u).setCell ⟨b,j,none⟩ x) A n sz f:=Qcs (Qcs h u hne) x hne
theorem Qo {W : World} {b : Nat} {t : TypeId} {v0 v1 : Value} (h : Qc W b t #[v0,v1]) (u0 u1 : Value) : Qc ((W.setCell ⟨b,0,none⟩ u0).setCell ⟨b,1,none⟩ u1) b t #[u0,u1]:=by unfold Qc at h ⊢;simp [World.setCell,Array.getElem?_modify,h]
end
section
open Go Go.RowKit
section
variable {P : Program} {ops : Array Oper} {md : Region.Mode} {C : World → Prop} {R : Act → World → Prop}
theorem Ds {W : World} (hW : C W) {A : Act} {o : Oper} {l : List Oper} {a : Act} (hb : Yd (o :: l) = true) (hz : ∀ d,o.dst = some d → d < a.tmps.size) (h : ∀ u,C u → wpQuiet P ops (fun w' => w' = u) (fun a' => a' = A) (o :: l) a) :
  ∃ v,Wx P ops C o v a ∧ ∀ u,C u → wpQuiet P ops (fun w' => w' = u) (fun a' => a' = A) l (a.put o.dst v):=by
 simp only [Yd,Bool.and_eq_true] at hb;obtain ⟨⟨hg,hd⟩,_⟩:=hb
 cases ho : o.dst with
 | none => rw [ho] at hd;cases hd
 | some d =>
  rw [ho] at hd
  have hw : Region.wanted o (yielded ops a.tmps) = true:=by
   unfold Region.wanted
   cases hgo : o.guard with
   | none => rfl
   | some g => rw [hgo] at hg;cases hg
  have each : ∀ u,C u → ∃ v,o.quietAt P a (fun w' => w' = u) u v ∧ A.tmps[d]? = some v ∧ wpQuiet P ops (fun w' => w' = u) (fun a' => a' = A) l (a.put (some d) v):=fun u hu => by
   have h1:=h u hu;unfold wpQuiet at h1;rw [if_pos hw] at h1;obtain ⟨v,h2,h3⟩:=h1;rw [ho] at h3;refine ⟨v,h2 _ rfl,?_,h3⟩;rw [Ft l _ hd h3];simp [Act.put,hz d ho]
  obtain ⟨v,_,hv,_⟩:=each W hW
  have same : ∀ u,C u → o.quietAt P a (fun w' => w' = u) u v ∧ wpQuiet P ops (fun w' => w' = u) (fun a' => a' = A) l (a.put (some d) v):=fun u hu => by
   obtain ⟨v',h1,h2,h3⟩:=each u hu;have e : v' = v:=Option.some.inj (h2.symm.trans hv);subst e;exact ⟨h1,h3⟩
  exact ⟨v,⟨hw,fun w hw => (same w hw).1⟩,fun u hu => (same u hu).2⟩
theorem Bq {W : World} (hW : C W) {A : Act} {g : Nat} (hs : Region.noSelect ops = true) : ∀ (ks : List Nat) (l : List Oper) (L : Array Bool) (a : Act),l.map some = ks.map (fun k => ops[k]?) → Yd l = true → Y9 a l = true →
  L7 md ops ks L = true → (∀ u,C u → wpQuiet P ops (fun w' => w' = u) (fun a' => a' = A) l a) → Ys P md ops C R g (Vb ks L) A W → Ys P md ops C R (l.length + g) L a W
 | [],[],L,a,_,_,_,_,h,H => by
  have e : a = A:=h W hW;subst e;rw [List.length_nil,Nat.zero_add]
  exact H
 | k :: ks,o :: l,L,a,hl,hd,hz,hB,h,H => by
  simp only [List.map_cons,List.cons.injEq] at hl;have h0 : ops[k]? = some o:=hl.1.symm;simp only [L7,Bool.and_eq_true] at hB;obtain ⟨⟨hr,hf⟩,hB'⟩:=hB;have hzo:=hz;simp only [Y9,List.all_cons,Bool.and_eq_true] at hzo;obtain ⟨v,hy,hn⟩:=Ds hW hd (fun d he => by have:=hzo.1;rw [he] at this;simpa using this) h;have hd' : Yd l = true:=by simp only [Yd,Bool.and_eq_true] at hd;exact hd.2
  have hsz : (a.put o.dst v).tmps.size = a.tmps.size:=by cases o.dst <;> simp [Act.put]
  rw [show (o :: l).length + g = (l.length + g) + 1 by simp only [List.length_cons];omega]
  exact Qd4 h0 (Region.noSelect_spec hs) _ L a W (Region.free_spec h0 hf) (by simpa using hr) hW hy
   (Bq hW hs ks l _ _ hl.2 hd' (by unfold Y9;rw [hsz];exact hzo.2) hB' hn H)
 | [],_ :: _,_,_,hl,_,_,_,_,_ => by simp at hl
 | _ :: _,[],_,_,hl,_,_,_,_,_ => by simp at hl
theorem Bn {g f : Nat} {L : Array Bool} {a : Act} {w : World} (ks : List Nat) (l : List Oper) (hl : La ops ks l) (hB : (Region.noSelect ops && Yd l && L7 md ops ks L && decide (f = l.length + g)) = true) (hz : Y9 a l = true) (hw : C w)
  (h : ∃ A,(∀ u,C u → wpQuiet P ops (fun w' => w' = u) (fun a' => a' = A) l a) ∧ Ys P md ops C R g (Vb ks L) A w) : Ys P md ops C R f L a w:=by
 obtain ⟨A,h1,h2⟩:=h;simp only [Bool.and_eq_true,decide_eq_true_eq] at hB;obtain ⟨⟨⟨hs,hd⟩,hk⟩,rfl⟩:=hB;exact Bq hw hs ks l L a (O3 hl) hd hz hk h1 h2
end
theorem Qeb {P : Program} {id : Nat} {Q : Exit → Act → World → Prop} {a : Act} {w : World} {l : List Oper} (n : Nat) (C : World → Prop) (hm : P.follows .mixedOrders = true) (hn : n = l.length)
  (h : ∀ w',Qb w w' → Ys P .any l.toArray C (fun a w => Q .normal a w) n (Array.replicate n false) a w') : (Code.region id l.toArray true).wp P Q a w:=by
 have H:=h { w with drawn:=w.drawn + 1 } ⟨rfl,rfl,rfl,Nat.le_refl _,fun _ _ => rfl⟩;refine Code.wp_mono (Q:=Zz fun a w => Q .normal a w) (fun e a' w' h' => by cases e <;> first | exact h' | exact False.elim h') (wp_region_any hm (Be (C:=C) _ _ _ _ ?_));subst hn
 simpa using H
end
section
open Go Go.RowKit Go.Shelf
attribute [local go_sem] Zx
def Zd (f : Nat → Nat) (i : Nat) : List Value:=[.int .u64 (f i : Int)]
def Ke (l : List Nat) : List Value:=l.map fun (x : Nat) => Value.int .u64 (x : Int)
theorem Qnh (l : List Nat) (x : Nat) : Ke l ++ [.int .u64 (x : Int)] = Ke (l ++ [x]):=by simp [Ke]
theorem S9 : (Tryz.prog.info? 245).map (fun i => (i.zero,i.size,i.bytes)) = some (some (.int .u64 0),1,8):=by kernel_rfl
theorem Qdp {w : World} {base k : Nat} {v : Value} {l : List Nat} (hk : k = l.length) (h : w.ownsRow base 245 1 v k (Ke l)) : ∃ F c,v = .slice F k c ∧ Qs w F k 1 (Zd fun i => l.getD i 0) ∧ k ≤ c ∧ c ≤ maxLen ∧ (F = none → k = 0 ∧ c = 0) ∧ ∀ a,F = some a → base ≤ a.block:=by
 have e : Ke l = Q0 (Zd fun i => l.getD i 0) k:=by
  subst hk;apply List.ext_getElem?;intro j;by_cases hj : j < l.length
  ·have:=Uv (f:=Zd fun i => l.getD i 0) (sz:=1) (fun _ => rfl) (i:=j) (j:=0) hj (by decide);rw [Nat.mul_one,Nat.add_zero] at this;rw [this];simp [Ke,Zd,List.getD_eq_getElem?_getD,List.getElem?_eq_getElem hj]
  ·rw [List.getElem?_eq_none (by simp [Ke];omega),List.getElem?_eq_none (by rw [X6 (f:=Zd fun i => l.getD i 0) (sz:=1) (fun _ => rfl)];omega)]
 rw [e] at h;obtain ⟨F,c,h1,h2,h3,h4,h5,h6⟩:=Ue (f:=Zd fun i => l.getD i 0) (fun _ => rfl) h;exact ⟨F,c,h1,h2,h3,h4,h5,h6⟩
set_option maxHeartbeats 2000000 in
theorem Qdk (A : Option Addr) (n ca : Nat) (f : Nat → Nat) (w : World) (hA : Qs w A n 1 (Zd f)) (hn : n ≤ 1000000) :
  Calls Tryz.prog 194 #[.slice A n ca] w fun e w' => ∃ v,e = .returned v ∧ Qb w w' ∧ w'.ownsRow w.heap.size 245 1 v (Zc f n).length (Ke (Zc f n)):=by
 obtain ⟨i0,hi,hz0,hz1,hz2⟩:=info_parts S9
 go_enter Tryz.func194,Tryz.ntmps194
 go_upto_region 3 with (fail)
 go_loopw [3,8] (fun o i wr => ∃ k : Nat,k ≤ n ∧ i = .int .i64 k ∧ Qb w wr ∧ wr.ownsRow w.heap.size 245 1 o (Zc f k).length (Ke (Zc f k))) (fun _ i _ => n - (intOf i).toNat)
 case atStart => exact ⟨0,Nat.zero_le _,rfl,Qb.refl _,World.ownsRow_nil _ _ _ _⟩
 case round =>
  obtain ⟨k,hk,rfl,hE,hO⟩:=hrel;obtain ⟨wo,rfl⟩:=Qf wr;by_cases hlt : k < n
  ·obtain ⟨b, off, rfl, hb, hc⟩ := (hA.ext hE) Qa;have c0 : wo.cell? ⟨b, off + k, none⟩ = some (.int .u64 (f k : Int)) := by simpa using hc k 0 _ hlt rfl
   have hml:=Rq f k;have HM:=Lib.hid hml;clear hml hc hA;by_cases h1 : f k = 1
   ·have hs : Hid (Zc f (k + 1) = Zc f k) := by unfold Hid; rw [Zc, if_pos h1]
    rw [h1] at c0;clear h1;rw [← hs.out] at hO;clear hs HM;go_wp2;exact ⟨⟨k + 1,by omega,by go_num,hE,hO⟩,by simp [intOf];omega⟩
   ·have hs : Hid (Zc f (k + 1) = Zc f k ++ [f k]) := by unfold Hid; rw [Zc, if_neg h1]
    have hb1 : ((f k : Int) != 1) = true:=by rw [bne,beq_eq_false_iff_ne.2 Qa];rfl
    clear h1;generalize f k = x at *;go_upto_region 7 with (at_builtin;refine wpList_append_own_at _ rfl _ _ 250 rfl w.heap.size 245 i0 (.int .u64 0) 1 8 Tryz.underlying250 hi hz0 hz1 hz2 rfl (by decide) _ _ _ rfl (hO.alloc _) ⟨wo.heap.size,0,none⟩ 1 1 [.int .u64 (x : Int)] rfl rfl (Lj _ _ _) (by simp [Value.oneCell']) (by have:=HM.out;unfold maxLen;omega) (by have:=HM.out;omega) (by have:=hE.size;simp;omega) ?_;intro o' w2 hown hgrow _ _)
    have E2 : Qb w w2:=(hE.alloc _).grown hgrow (fun q hq => (hO.lt q hq).1);rw [Qnh,← hs.out] at hown;have hl4 : (Zc f k).length + 1 = (Zc f (k + 1)).length:=by rw [hs.out];simp
    rw [hl4] at hown;clear hs hgrow hl4;go_wp2;exact ⟨⟨k + 1,by omega,by go_num,E2,hown⟩,by simp [intOf];omega⟩
  ·obtain rfl : k = n := by omega
   go_wp2;go_ret;exact ⟨_,rfl,hE,hO⟩
theorem Jt {W : World} {base size k : Nat} {e : TypeId} {v : Value} {xs : List Value} (h : W.ownsRow base e size v k xs) : ∃ F m,v = .slice F k m:=by
 rcases h.2 with ⟨rfl,h0⟩ | ⟨g,cap,cur,rfl,_⟩
 ·exact ⟨none,0,by rw [h0]⟩
 ·exact ⟨_,_,rfl⟩
theorem Qg {W : World} {b b' : Nat} {t : TypeId} {cs : Array Value} (h : Qc W b t cs) (hne : b ≠ b') (j : Nat) (u : Value) : Qc (W.setCell ⟨b',j,none⟩ u) b t cs :=
 h.kept ⟨rfl,rfl,rfl,(KeepsWalks.setCell W _ u).size,fun k _ hk => Below.heap_setCell _ _ _ k (fun e => hk (by rw [e]))⟩ (fun e => hne (by cases e;rfl))
theorem M1 {w : World} {base : Nat} {e : TypeId} {size : Nat} {v : Value} {n : Nat} {xs : List Value} (h : w.ownsRow base e size v n xs) (hn : 0 < n) : ∃ g cap,v = .slice (some ⟨g,0,none⟩) n cap ∧ base ≤ g ∧ g < w.heap.size:=by
 rcases h.2 with ⟨_,h0⟩ | ⟨g,cap,cur,hv,hb,hg,_⟩
 ·omega
 ·exact ⟨g,cap,hv,hb,(Array.getElem?_eq_some_iff.1 hg).1⟩
theorem Ox {w : World} {base : Nat} {e : TypeId} {size g c : Nat} {n m : Nat} {xs : List Value} (h : w.ownsRow base e size (.slice (some ⟨g,0,none⟩) m c) n xs) : g < w.heap.size:=by
 rcases h.2 with ⟨h',_⟩ | ⟨g',cap,cur,hv,hb,hg,_⟩
 ·cases h'
 ·cases hv;exact (Array.getElem?_eq_some_iff.1 hg).1
def Ar (A : Value → Value → Act) (S : World → Value → Value → Prop) : Exit → Act → World → Prop:=fun e a' w' => e = .normal ∧ ∃ p q,S w' p q ∧ a' = A p q
theorem Qgv {A : Value → Value → Act} {S : World → Value → Value → Prop} {w' : World} (p q : Value) {a' : Act} (h : S w' p q) (ha : a' = A p q) : Ar A S .normal a' w':=⟨rfl,p,q,h,ha⟩
theorem Qn2 {P : Program} {c : Code} {Q : Exit → Act → World → Prop} {a : Act} {w : World} {A : Value → Value → Act} (S : World → Value → Value → Prop) (h1 : c.wp P (Ar A S) a w) (h2 : ∀ p q w',S w' p q → Q .normal (A p q) w') : c.wp P Q a w :=
 Code.wp_mono (fun e a' w' ⟨he,p,q,hs,ha⟩ => by subst he;subst ha;exact h2 p q w' hs) h1
theorem Qng (f : Nat → Nat) (n i x : Nat) (hi : i < n) : (Q0 (Zd f) n).set i (.int .u64 (x : Int)) = Q0 (Zd (Jo f i x)) n:=by
 apply List.ext_getElem?;intro j;have hl : (Q0 (Zd f) n).length = n:=by have:=X6 (f:=Zd f) (sz:=1) (fun _ => rfl) n;omega
 have hg : ∀ (g : Nat → Nat) k,k < n → (Q0 (Zd g) n)[k]? = some (.int .u64 (g k : Int)):=fun g k hk => by
  have:=Uv (f:=Zd g) (sz:=1) (fun _ => rfl) (i:=k) (j:=0) hk (by decide);rw [Nat.mul_one,Nat.add_zero] at this;rw [this];rfl
 rw [List.getElem?_set];by_cases e : i = j
 ·subst e;rw [if_pos rfl,if_pos Qa,hg _ _ hi];simp [Jo]
 ·rw [if_neg e];by_cases hj : j < n
  ·rw [hg _ _ hj,hg _ _ hj];simp [Jo,show j ≠ i by omega]
  ·rw [List.getElem?_eq_none Qa,List.getElem?_eq_none (by have:=X6 (f:=Zd (Jo f i x)) (sz:=1) (fun _ => rfl) n;omega)]
theorem Nl {w : World} {base g n cap : Nat} {f : Nat → Nat} (h : w.ownsRow base 245 1 (.slice (some ⟨g,0,none⟩) n cap) n (Q0 (Zd f) n)) {i : Nat} (hi : i < n) : w.cell? ⟨g,i,none⟩ = some (.int .u64 (f i : Int)):=by
 rw [World.ownsRow.cellAt h i Qa];have:=Uv (f:=Zd f) (sz:=1) (fun _ => rfl) (i:=i) (j:=0) hi (by decide);rw [Nat.mul_one,Nat.add_zero] at this;rw [this];rfl
theorem D4 {w : World} {base g n cap : Nat} {f : Nat → Nat} (h : w.ownsRow base 245 1 (.slice (some ⟨g,0,none⟩) n cap) n (Q0 (Zd f) n)) {i : Nat} (hi : i < n) (x : Nat) :
  (w.setCell ⟨g,i,none⟩ (.int .u64 (x : Int))).ownsRow base 245 1 (.slice (some ⟨g,0,none⟩) n cap) n (Q0 (Zd (Jo f i x)) n):=by
 have:=(World.ownsRow.stored h i (.int .u64 (x : Int))).1
 rwa [Qng f n i x hi] at this
theorem D3 {w : World} {base g n cap g' i : Nat} {f : Nat → Nat} (h : w.ownsRow base 245 1 (.slice (some ⟨g,0,none⟩) n cap) n (Q0 (Zd f) n)) (hne : g ≠ g') (u : Value) :
  (w.setCell ⟨g',i,none⟩ u).ownsRow base 245 1 (.slice (some ⟨g,0,none⟩) n cap) n (Q0 (Zd f) n) :=
 h.kept ⟨rfl,rfl,rfl,(KeepsWalks.setCell w _ u).size,fun k _ hk => Below.heap_setCell _ _ _ k (fun e => hk (by rw [e]))⟩ (.inr (fun e => hne (by cases e;rfl)))
theorem Qme (A A' : Option Addr) (n m ca cb : Nat) (fu fd : Nat → Nat) (w : World) (hA : Qs w A n 1 (Zd fu)) (hA' : Qs w A' m 1 (Zd fd)) (hnA : A = none → n = 0 ∧ ca = 0) (hnA' : A' = none → m = 0 ∧ cb = 0)
  (hn : n ≤ 1000) (hm : m ≤ 1000) (hu1 : ∀ i,i < n → 1 ≤ fu i) (hu2 : ∀ i,i < n → fu i < 18446744073709551616) (hd1 : ∀ i,i < m → 1 ≤ fd i) (hd2 : ∀ i,i < m → fd i < 18446744073709551616) :
  Calls Tryz.prog 186 #[.agg #[.slice A n ca,.slice A' m cb]] w fun e w' => ∃ U D F c F' c',Wl fu fd n m U D n 0 ∧ e = .returned (.agg #[.slice F (Zc U n).length c,.slice F' (Zc D m).length c']) ∧ Qb w w' ∧
   Qs w' F (Zc U n).length 1 (Zd fun i => (Zc U n).getD i 0) ∧ Qs w' F' (Zc D m).length 1 (Zd fun i => (Zc D m).getD i 0) ∧ (∀ a,F = some a → w.heap.size ≤ a.block) ∧ (∀ a,F' = some a → w.heap.size ≤ a.block):=by
 obtain ⟨i0,hi,hz0,hz1,hz2⟩:=info_parts S9;have hlu:=X6 (f:=Zd fu) (sz:=1) (fun _ => rfl) n;have hld:=X6 (f:=Zd fd) (sz:=1) (fun _ => rfl) m;have hone : ∀ g k,∀ u ∈ Q0 (Zd g) k,u.oneCell' = true:=fun g k => Eo (f:=Zd g) (n:=k) (fun i u hu => by simp [Zd] at hu;subst hu;simp [Value.oneCell'])
 have HNU:=fun v (h : Qs v A n 1 (Zd fu)) => Mi (f:=Zd fu) (sz:=1) (fun _ => rfl) (by decide) h
 have HND:=fun v (h : Qs v A' m 1 (Zd fd)) => Mi (f:=Zd fd) (sz:=1) (fun _ => rfl) (by decide) h
 go_enter Tryz.func186,Tryz.ntmps186
 go_upto_region 1 with (fail)
 obtain ⟨v,hv⟩:=Qf ((w.alloc (.cells #[.slice A n ca,.slice A' m cb] 252)).alloc (.cells #[.slice none 0 0,.slice none 0 0] 252));rw [← hv];have E : Qb w v:=by rw [hv];exact ((Qb.refl _).alloc _).alloc _
 have B1 : Qc v w.heap.size 252 #[.slice A n ca,.slice A' m cb]:=by rw [hv];exact (Qc.new _ _ _).alloc _
 have B2 : Qc v (w.heap.size + 1) 252 #[.slice none 0 0,.slice none 0 0]:=by rw [hv];exact Qc.at _ _ _ _ (by simp)
 clear hv;have RA:=hA.ext E;have RA':=hA'.ext E;clear hA hA';have hb2 : w.heap.size ≤ w.heap.size + 1:=Nat.le_succ _;have hvs : w.heap.size + 1 < v.heap.size:=B2.lt;generalize w.heap.size + 1 = b2 at *;generalize hb1 : w.heap.size = b1 at *;replace hb1:=Lib.hid hb1;obtain ⟨k0,k1⟩:=B1.c2;have lk:=B1.lt;apply Qn2 (S:=fun w' p q => Qb v w' ∧ w'.ownsRow v.heap.size 245 1 p n (Q0 (Zd fu) n) ∧ w'.ownsRow v.heap.size 245 1 q m (Q0 (Zd fd) m) ∧ ∀ x y,p.ownBlock = some x → q.ownBlock = some y → x ≠ y)
 ·refine Qn8 8 v mixed rfl (Qb.refl _) ?_;intro hne hrx v3 h3;refine Bm (g:=4) [0,1,3,4] [_,_,_,_] ⟨rfl,rfl,rfl,rfl,trivial⟩ (by kernel_rfl) (by kernel_rfl) h3 ?_;simp only [Q8,Q9,Za];apply Exists.intro;refine ⟨fun u => ?_,?_⟩
  ·exact Qj
  refine Ve 2 rfl (by kernel_rfl) ?_;simp only [Q8,Q9,Za];go_wp2_with (at_builtin;refine Qd9 rfl _ _ 250 rfl v3.heap.size 245 i0 (.int .u64 0) 1 8 Tryz.underlying250 hi hz0 hz1 hz2 rfl (by decide) rfl A n ca (Q0 (Zd fu) n) rfl hnA hlu (HNU _ (RA.ext h3)) (hone _ _) (by unfold maxLen;omega) Qa (Nat.le_refl _) ?_;intro p w4 hP hg);have h4 : Qb v3 w4:=(Qb.refl _).grown hg (fun q hq => by cases hq);clear hg;have e4:=h3.trans h4;refine Qe e4 ?_;refine Ve 5 rfl (by kernel_rfl) ?_;simp only [Q8,Q9,Za];go_wp2_with (at_builtin;refine Qd9 rfl _ _ 250 rfl w4.heap.size 245 i0 (.int .u64 0) 1 8 Tryz.underlying250 hi hz0 hz1 hz2 rfl (by decide) rfl A' m cb (Q0 (Zd fd) m) rfl hnA' hld (HND _ (RA'.ext e4)) (hone _ _) (by unfold maxLen;omega) Qa (Nat.le_refl _) ?_;intro q w5 hQ hg)
  have h5 : Qb w4 w5:=(Qb.refl _).grown hg (fun q hq => by cases hq);clear hg;have e5:=e4.trans h5;refine Qe e5 ?_;refine Bm (g:=0) [6,7] [_,_] ⟨rfl,rfl,trivial⟩ (by kernel_rfl) (by kernel_rfl) e5 ?_;simp only [Q8,Q9,Za];apply Exists.intro;refine ⟨fun u => ?_,?_⟩
  ·exact Qj
  refine Gf (by kernel_rfl) ?_;exact Qgv p q ⟨e5,World.ownsRow.mono (Ja hP h5) h3.size,World.ownsRow.mono hQ e4.size,fun x y h1 h2 => by have:=(hP.lt x h1).2;have:=(hQ.lt y h2).1;omega⟩ rfl
 ·rintro p q w1 ⟨E1,hP,hQ,hap⟩;obtain ⟨F1,c1,rfl⟩:=Jt hP;obtain ⟨F2,c2,rfl⟩:=Jt hQ;have hvw:=E1.size;clear RA RA' k0 k1 lk HNU HND hone hlu hld;go_upto_region 3 with (fail)
  go_loopw [16] (fun iv wr => ∃ i : Nat,i ≤ n ∧ iv = .int .i64 (i : Int) ∧ Qb v wr ∧ ∃ U D,Wl fu fd n m U D i 0 ∧ wr.ownsRow v.heap.size 245 1 (.slice F1 n c1) n (Q0 (Zd U) n) ∧ wr.ownsRow v.heap.size 245 1 (.slice F2 m c2) m (Q0 (Zd D) m)) (fun iv _ => n - (intOf iv).toNat)
  case atStart => exact ⟨0,Nat.zero_le _,rfl,E1,fu,fd,Wl.start hu1 hd1,hP,hQ⟩
  case round =>
   obtain ⟨i,hi0,rfl,hEo,Uo,Do,hRo,hPo,hQo⟩:=hrel;obtain ⟨wo,rfl⟩:=Qf wr;by_cases hlt : i < n
   ·go_upto_region 6 with (fail)
    go_loopw [21] (fun jv wr => ∃ j : Nat,j ≤ m ∧ jv = .int .i64 (j : Int) ∧ Qb v wr ∧ ∃ U D,Wl fu fd n m U D i j ∧ wr.ownsRow v.heap.size 245 1 (.slice F1 n c1) n (Q0 (Zd U) n) ∧ wr.ownsRow v.heap.size 245 1 (.slice F2 m c2) m (Q0 (Zd D) m)) (fun jv _ => m - (intOf jv).toNat)
    case atStart => exact ⟨0,Nat.zero_le _,rfl,hEo,Uo,Do,hRo,hPo,hQo⟩
    case round =>
     clear hEo hRo hPo hQo;obtain ⟨j,hj0,rfl,hE,U,D,hR,hP,hQ⟩:=hrel;obtain ⟨wo,rfl⟩:=Qf wr;by_cases hltj : j < m
     ·obtain ⟨g1, x1, hf1, hg1, hl1⟩ := M1 hP Qa;obtain ⟨g2, x2, hf2, hg2, hl2⟩ := M1 hQ Qa;obtain ⟨rfl, _, rfl⟩ : F1 = some ⟨g1, 0, none⟩ ∧ n = n ∧ c1 = x1 := by simpa using hf1
      obtain ⟨rfl,_,rfl⟩ : F2 = some ⟨g2,0,none⟩ ∧ m = m ∧ c2 = x2:=by simpa using hf2
      have hne:=hap g1 g2 rfl rfl;clear hf1 hf2;have p0:=Nl hP hlt;have q0:=Nl hQ hltj;have hRS:=hR.step hlt hltj;have hU1:=hR.up i hlt;have hD1:=hR.dn j hltj;have hu2i:=hu2 i hlt;have hd2j:=hd2 j hltj;have NC:=fun w => Al (U i) (D j) Qa w
      have hgp : 0 < Nat.gcd (U i) (D j):=Nat.gcd_pos_of_pos_right _ hD1.1;have hP2:=fun x => D4 hP hlt x
      have hQ2:=fun x => D3 (i:=i) hQ (Ne.symm hne) (.int .u64 (x : Int))
      generalize hgg : Nat.gcd (U i) (D j) = g at *;go_upto_region 8 with (fail)
      have m1:=fun x : World => NC x
      refine Zo wo ?_;intro w2 h2;clear m1;obtain ⟨hcbw2,hfbw2,hzbw2,hzw2⟩:=Zn wo h2;clear p0 q0 hl1 hl2;replace hP:=Ja hP h2;replace hQ:=Ja hQ h2;have f0:=World.ownsRow.frozenAt hP i;have f1:=World.ownsRow.frozenAt hQ j;have p0:=Nl hP hlt;have q0:=Nl hQ hltj;have l1:=(Ox hP);have l2:=(Ox hQ);have gi0 : (g : Int) ≠ 0:=by omega
      have gi1 : ((g : Int) == 0) = false:=beq_eq_false_iff_ne.2 gi0
      have hq1 : IntKind.u64.wrap ((U i : Int) / (g : Int)) = ((U i / g : Nat) : Int):=by
       rw [IntKind.wrap_u64,← Int.natCast_ediv];have:=Nat.div_le_self (U i) g;generalize U i / g = z at this ⊢;exact Int.emod_eq_of_lt Qa Qa
      have hq2 : IntKind.u64.wrap ((D j : Int) / (g : Int)) = ((D j / g : Nat) : Int):=by
       rw [IntKind.wrap_u64,← Int.natCast_ediv];have:=Nat.div_le_self (D j) g;generalize D j / g = z at this ⊢;exact Int.emod_eq_of_lt Qa Qa
      clear hU1 hD1 hu2i hd2j NC hP2 hQ2;generalize U i / g = x1 at *;generalize D j / g = x2 at *;have E3:=(hE.trans h2).setCell (p:=⟨g1,i,none⟩) hg1 (.int .u64 (x1 : Int));have hP3:=D4 hP hlt x1;have hQ3:=D3 (i:=i) hQ (Ne.symm hne) (.int .u64 (x1 : Int));go_upto_region 10 with (fail)
      generalize World.setCell w2 _ _ = w3 at *;clear hP hQ p0 q0 l1 l2 f0 f1;have p0:=Nl hP3 hlt;have q0:=Nl hQ3 hltj;have l1:=(Ox hP3);have l2:=(Ox hQ3);have f1:=World.ownsRow.frozenAt hQ3 j;have E4:=E3.setCell (p:=⟨g2,j,none⟩) hg2 (.int .u64 (x2 : Int));have hQ4:=D4 hQ3 hltj x2;have hP4:=D3 (i:=j) hP3 hne (.int .u64 (x2 : Int));go_wp2;exact ⟨⟨j + 1,by omega,by go_num,E4,_,_,hRS,hP4,hQ4⟩,by simp [intOf];omega⟩
     ·obtain rfl : j = m := by omega
      go_wp2;exact ⟨⟨i + 1,by omega,by go_num,hE,U,D,hR.row,hP,hQ⟩,by simp [intOf];omega⟩
   ·obtain rfl : i = n := by omega
    have hRU:=fun w h => Qdk F1 i c1 Uo w h Qa
    have hRD:=fun w h => Qdk F2 m c2 Do w h Qa
    obtain ⟨F3,c3,hf1,ra,_⟩:=Ue (f:=Zd Uo) (sz:=1) (fun _ => rfl) hPo;obtain ⟨F4,c4,hf2,rb,_⟩:=Ue (f:=Zd Do) (sz:=1) (fun _ => rfl) hQo;obtain ⟨rfl,rfl⟩ : F1 = F3 ∧ c1 = c3:=by simpa using hf1
    obtain ⟨rfl,rfl⟩ : F2 = F4 ∧ c2 = c4:=by simpa using hf2
    clear hf1 hf2
    go_wp2_with (first
     | (go_at_call 194;(with_reducible refine zc (hRU _ ra) ?_);rintro e w2 ⟨va,rfl,h2,oa⟩;obtain ⟨G1,d1,rfl,ga,_,_,_,ga6⟩:=Qdp rfl oa)
     | (go_at_call 194;(with_reducible refine zc (hRD _ (rb.ext h2)) ?_);rintro e w3 ⟨vb,rfl,h3,ob⟩;obtain ⟨G2,d2,rfl,gb,_,_,_,gb6⟩:=Qdp rfl ob;have B3:=B2.ext ((hEo.trans h2).trans h3);have z0:=B3.frozen 0;have z1:=B3.frozen 1;obtain ⟨y0,y1⟩:=B3.c2;have ly:=B3.lt))
    have H2:=Qo B3 (.slice G1 (Zc Uo i).length d1) (.slice G2 (Zc Do m).length d2);have E2:=((((E.trans hEo).trans h2).trans h3).setCell (p:=⟨b2,0,none⟩) (by have:=hb1.out;show w.heap.size ≤ b2;omega) (.slice G1 (Zc Uo i).length d1)).setCell (p:=⟨b2,1,none⟩) (by have:=hb1.out;show w.heap.size ≤ b2;omega) (.slice G2 (Zc Do m).length d2);have hvs1:=hEo.size;have hvs2:=h2.size;have ga2:=Rh (ga.ext h3) (b:=b2) (fun a h => by have:=ga6 a h;omega) 0 1 (.slice G1 (Zc Uo i).length d1) (.slice G2 (Zc Do m).length d2);have gb2:=Rh gb (b:=b2) (fun a h => by have:=gb6 a h;omega) 0 1 (.slice G1 (Zc Uo i).length d1) (.slice G2 (Zc Do m).length d2)
    obtain ⟨x0,x1⟩:=H2.c2;generalize (w3.setCell ⟨b2,0,none⟩ (.slice G1 (Zc Uo i).length d1)).setCell ⟨b2,1,none⟩ (.slice G2 (Zc Do m).length d2) = wf at *;clear y0 y1 z0 z1 B3 ly;go_wp2;refine bodyPost_ret (v:=.agg #[.slice G1 (Zc Uo i).length d1,.slice G2 (Zc Do m).length d2]) (by simp [results,Tryz.results186,go_sem,x0,x1]) rfl ⟨Uo,Do,G1,d1,G2,d2,hRo,rfl,E2,ga2,gb2,fun a h => by have:=ga6 a h;have:=E.size;have:=hb1.out;omega,fun a h => by have:=gb6 a h;have:=E.size;have:=hb1.out;omega⟩
theorem Rp {f : Nat → Nat} {n k : Nat} (hk : k < (Zc f n).length) : ∃ i,i < n ∧ (Zc f n).getD k 0 = f i:=by
 refine Dy f n _ ?_;rw [List.getD_eq_getElem?_getD,List.getElem?_eq_getElem hk];exact List.getElem_mem hk
theorem Zy {x : Int} (h1 : -9223372036854775808 ≤ x) (h2 : x ≤ 9223372036854775807) : IntKind.i64.wrap x = x:=by
 rw [IntKind.wrap_i64];omega
theorem De (A A' : Option Addr) (n m ca cb : Nat) (fu fd : Nat → Nat) (neg : Bool) (w : World) (hA : Qs w A n 1 (Zd fu)) (hA' : Qs w A' m 1 (Zd fd)) (hnA : A = none → n = 0 ∧ ca = 0) (hnA' : A' = none → m = 0 ∧ cb = 0)
  (hn : n ≤ 1000) (hm : m ≤ 1000) (hu1 : ∀ i,i < n → 1 ≤ fu i) (hu2 : ∀ i,i < n → fu i < 18446744073709551616) (hd1 : ∀ i,i < m → 1 ≤ fd i) (hd2 : ∀ i,i < m → fd i < 18446744073709551616) :
  Calls Tryz.prog 163 #[.agg #[.slice A n ca,.slice A' m cb],.bool neg] w fun e w' => e = .returned (.tuple #[.agg #[.int .i64 (Jn neg (upTo fu n) (upTo fd m)).1.n,.int .i64 (Jn neg (upTo fu n) (upTo fd m)).1.d],.int .i64 (Jn neg (upTo fu n) (upTo fd m)).2]) ∧ Qb w w':=by
 have NR:=fun v h1 h2 => Qme A A' n m ca cb fu fd v h1 h2 hnA hnA' hn hm hu1 hu2 hd1 hd2
 obtain ⟨R,hR0⟩:=Qf (Jn neg (upTo fu n) (upTo fd m));rw [← hR0];have HR:=Lib.hid hR0;clear hR0
 go_enter Tryz.func163,Tryz.ntmps163
 go_upto_region 1 with (fail)
 obtain ⟨v,hv⟩:=Qf ((w.alloc (.cells #[.slice A n ca,.slice A' m cb] 252)).alloc (.cells #[.int .i64 0,.int .i64 0] 65));rw [← hv];have E : Qb w v:=by rw [hv];exact ((Qb.refl _).alloc _).alloc _
 have B1 : Qc v w.heap.size 252 #[.slice A n ca,.slice A' m cb]:=by rw [hv];exact (Qc.new _ _ _).alloc _
 have B2 : Qc v (w.heap.size + 1) 65 #[.int .i64 0,.int .i64 0]:=by rw [hv];exact Qc.at _ _ _ _ (by simp)
 clear hv;have RA:=hA.ext E;have RA':=hA'.ext E;clear hA hA';obtain ⟨b2,hb2⟩:=Qf (w.heap.size + 1);rw [← hb2] at B2 ⊢;obtain ⟨b1,hb1⟩:=Qf (w.heap.size);rw [← hb1] at B1 ⊢;have h21 : b2 ≠ b1:=by omega
 have hb1':=Nat.le_of_eq hb1.symm;have hb2' : w.heap.size ≤ b2:=by omega
 clear hb1 hb2;obtain ⟨k0,k1⟩:=B1.c2;have lk:=B1.lt;go_upto_region 2 with (go_at_call 186;(with_reducible refine zc (NR _ RA RA') ?_);rintro e w2 ⟨U,D,G1,d1,G2,d2,hRI,rfl,h2,ga,gb,ga6,gb6⟩;have B12:=B1.ext h2;obtain ⟨k0,k1⟩:=B12.c2;have lk:=B12.lt;have f0:=B12.frozen 0;have f1:=B12.frozen 1)
 have hbv:=B1.lt;have EX:=((E.trans h2).setCell (p:=⟨b1,0,none⟩) hb1' (.slice G1 (Zc U n).length d1)).setCell (p:=⟨b1,1,none⟩) hb1' (.slice G2 (Zc D m).length d2);have H1:=Qo B12 (.slice G1 (Zc U n).length d1) (.slice G2 (Zc D m).length d2);have H2:=Qg (Qg (B2.ext h2) h21 0 (.slice G1 (Zc U n).length d1)) h21 1 (.slice G2 (Zc D m).length d2);have ga2:=Rh ga (b:=b1) (fun a h => by have:=ga6 a h;omega) 0 1 (.slice G1 (Zc U n).length d1) (.slice G2 (Zc D m).length d2);have gb2:=Rh gb (b:=b1) (fun a h => by have:=gb6 a h;omega) 0 1 (.slice G1 (Zc U n).length d1) (.slice G2 (Zc D m).length d2);generalize (w2.setCell ⟨b1,0,none⟩ (.slice G1 (Zc U n).length d1)).setCell ⟨b1,1,none⟩ (.slice G2 (Zc D m).length d2) = wf at *
 clear f0 f1 k0 k1 lk ga gb ga6 gb6 B12 B1 B2 h2 E RA RA' NR hb1' hbv;have hdone:=hRI.done neg hd1;rw [← HR.out] at hdone;have hl1:=Rq U n;have hl2:=Rq D m;have NP:=fun v h => Qd1 G1 (Zc U n).length d1 (fun i => (Zc U n).getD i 0) 1099511627776 (by decide) (by decide) (fun i hi => by obtain ⟨j,hj,e⟩:=Rp hi;rw [e];exact (hRI.up j hj).1) (fun i hi => by obtain ⟨j,hj,e⟩:=Rp hi;rw [e];exact Nat.lt_of_le_of_lt (hRI.up j hj).2 (hu2 j hj)) v h Qa
 have NQ:=fun v h => Qd1 G2 (Zc D m).length d2 (fun i => (Zc D m).getD i 0) 1048576 (by decide) (by decide) (fun i hi => by obtain ⟨j,hj,e⟩:=Rp hi;rw [e];exact (hRI.dn j hj).1) (fun i hi => by obtain ⟨j,hj,e⟩:=Rp hi;rw [e];exact Nat.lt_of_le_of_lt (hRI.dn j hj).2 (hd2 j hj)) v h Qa
 rw [Ql6,Dz] at NP NQ;clear hl1 hl2 hRI hu1 hu2 hd1 hd2 hnA hnA' hn hm;generalize (Zc U n).length = n1 at *;generalize (Zc D m).length = n2 at *;generalize upTo U n = p at *;generalize upTo D m = q at *;obtain ⟨k0,k1⟩:=H1.c2;have lk:=H1.lt;obtain ⟨R0,R1⟩:=R;replace hdone:=Lib.hid hdone;by_cases hp : p ≤ 1099511627776
 ·by_cases hq : q ≤ 1048576
  ·simp only [if_pos hp,decide_eq_true hp] at NP;simp only [if_pos hq,decide_eq_true hq] at NQ;have hd:=hdone.out;rw [if_pos ⟨hp,hq⟩] at hd;obtain ⟨rfl,rfl⟩:=Prod.mk.inj hd;have w1 : IntKind.i64.wrap (p : Int) = (p : Int):=Zy Qa Qa;have w2 : IntKind.i64.wrap (q : Int) = (q : Int):=Zy Qa Qa;have w3 : IntKind.i64.wrap (-(p : Int)) = -(p : Int):=Zy Qa Qa;clear hp hq hd hdone HR;cases neg
   ·skip
    go_upto_region 3 with (go_at_call 187;(with_reducible refine zc (NP _ ga2) ?_);rintro e wa ⟨rfl,ha⟩;clear k0 k1 lk;replace H1:=H1.ext ha;obtain ⟨k0,k1⟩:=H1.c2;have lk:=H1.lt)
    replace EX:=EX.trans ha;replace H2:=H2.ext ha;replace gb2:=gb2.ext ha;clear ha ga2 NP;go_upto_region 4 with (go_at_call 187;(with_reducible refine zc (NQ _ gb2) ?_);rintro e wb ⟨rfl,hb⟩)
    replace EX:=EX.trans hb;replace H2:=H2.ext hb;clear hb gb2 NQ k0 k1 lk;have f0:=H2.frozen 0;have f1:=H2.frozen 1;obtain ⟨z0,z1⟩:=H2.c2;have lz:=H2.lt;have H3:=Qo H2 (.int .i64 (p : Int)) (.int .i64 (q : Int));have EF:=(EX.setCell (p:=⟨b2,0,none⟩) hb2' (.int .i64 (p : Int))).setCell (p:=⟨b2,1,none⟩) hb2' (.int .i64 (q : Int));obtain ⟨x0,x1⟩:=H3.c2;go_wp2;refine bodyPost_ret (v:=.tuple #[.agg #[.int .i64 (p : Int),.int .i64 (q : Int)],.int .i64 0]) (by simp [results,Tryz.results163,go_sem,x0,x1]) rfl ⟨rfl,EF⟩
   ·skip
    go_upto_region 3 with (go_at_call 187;(with_reducible refine zc (NP _ ga2) ?_);rintro e wa ⟨rfl,ha⟩;clear k0 k1 lk;replace H1:=H1.ext ha;obtain ⟨k0,k1⟩:=H1.c2;have lk:=H1.lt)
    replace EX:=EX.trans ha;replace H2:=H2.ext ha;replace gb2:=gb2.ext ha;clear ha ga2 NP;go_upto_region 4 with (go_at_call 187;(with_reducible refine zc (NQ _ gb2) ?_);rintro e wb ⟨rfl,hb⟩)
    replace EX:=EX.trans hb;replace H2:=H2.ext hb;clear hb gb2 NQ k0 k1 lk;have f0:=H2.frozen 0;have f1:=H2.frozen 1;obtain ⟨z0,z1⟩:=H2.c2;have lz:=H2.lt;have H3:=Qo H2 (.int .i64 (-(p : Int))) (.int .i64 (q : Int));have EF:=(EX.setCell (p:=⟨b2,0,none⟩) hb2' (.int .i64 (-(p : Int)))).setCell (p:=⟨b2,1,none⟩) hb2' (.int .i64 (q : Int));obtain ⟨x0,x1⟩:=H3.c2;go_wp2;refine bodyPost_ret (v:=.tuple #[.agg #[.int .i64 (-(p : Int)),.int .i64 (q : Int)],.int .i64 0]) (by simp [results,Tryz.results163,go_sem,x0,x1]) rfl ⟨rfl,EF⟩
  ·simp only [if_pos hp,decide_eq_true hp] at NP;simp only [if_neg hq,decide_eq_false hq] at NQ;have hd:=hdone.out;rw [if_neg (fun h => hq h.2)] at hd;obtain ⟨rfl,rfl⟩:=Prod.mk.inj hd;clear hd hdone HR;go_upto_region 3 with (go_at_call 187;(with_reducible refine zc (NP _ ga2) ?_);rintro e wa ⟨rfl,ha⟩;clear k0 k1 lk;replace H1:=H1.ext ha;obtain ⟨k0,k1⟩:=H1.c2;have lk:=H1.lt)
   replace EX:=EX.trans ha;replace H2:=H2.ext ha;replace gb2:=gb2.ext ha;clear ha ga2 NP;go_upto_region 4 with (go_at_call 187;(with_reducible refine zc (NQ _ gb2) ?_);rintro e wb ⟨rfl,hb⟩)
   replace EX:=EX.trans hb;replace H2:=H2.ext hb;clear hb gb2 NQ k0 k1 lk;have f0:=H2.frozen 0;have f1:=H2.frozen 1;obtain ⟨z0,z1⟩:=H2.c2;have lz:=H2.lt;have H3:=Qo H2 (.int .i64 0) (.int .i64 0);have EF:=(EX.setCell (p:=⟨b2,0,none⟩) hb2' (.int .i64 0)).setCell (p:=⟨b2,1,none⟩) hb2' (.int .i64 0);obtain ⟨x0,x1⟩:=H3.c2;go_wp2;refine bodyPost_ret (v:=.tuple #[.agg #[.int .i64 0,.int .i64 0],.int .i64 6]) (by simp [results,Tryz.results163,go_sem,x0,x1]) rfl ⟨rfl,EF⟩
 ·simp only [if_neg hp,decide_eq_false hp] at NP;have hd:=hdone.out;rw [if_neg (fun h => hp h.1)] at hd;obtain ⟨rfl,rfl⟩:=Prod.mk.inj hd;clear hd hdone HR;generalize decide (q ≤ 1048576) = bq at *;generalize (if q ≤ 1048576 then q else 0) = q' at *;cases bq
  ·skip
   go_upto_region 3 with (go_at_call 187;(with_reducible refine zc (NP _ ga2) ?_);rintro e wa ⟨rfl,ha⟩;clear k0 k1 lk;replace H1:=H1.ext ha;obtain ⟨k0,k1⟩:=H1.c2;have lk:=H1.lt)
   replace EX:=EX.trans ha;replace H2:=H2.ext ha;replace gb2:=gb2.ext ha;clear ha ga2 NP;go_upto_region 4 with (go_at_call 187;(with_reducible refine zc (NQ _ gb2) ?_);rintro e wb ⟨rfl,hb⟩)
   replace EX:=EX.trans hb;replace H2:=H2.ext hb;clear hb gb2 NQ k0 k1 lk;have f0:=H2.frozen 0;have f1:=H2.frozen 1;obtain ⟨z0,z1⟩:=H2.c2;have lz:=H2.lt;have H3:=Qo H2 (.int .i64 0) (.int .i64 0);have EF:=(EX.setCell (p:=⟨b2,0,none⟩) hb2' (.int .i64 0)).setCell (p:=⟨b2,1,none⟩) hb2' (.int .i64 0);obtain ⟨x0,x1⟩:=H3.c2;go_wp2;refine bodyPost_ret (v:=.tuple #[.agg #[.int .i64 0,.int .i64 0],.int .i64 6]) (by simp [results,Tryz.results163,go_sem,x0,x1]) rfl ⟨rfl,EF⟩
  ·skip
   go_upto_region 3 with (go_at_call 187;(with_reducible refine zc (NP _ ga2) ?_);rintro e wa ⟨rfl,ha⟩;clear k0 k1 lk;replace H1:=H1.ext ha;obtain ⟨k0,k1⟩:=H1.c2;have lk:=H1.lt)
   replace EX:=EX.trans ha;replace H2:=H2.ext ha;replace gb2:=gb2.ext ha;clear ha ga2 NP;go_upto_region 4 with (go_at_call 187;(with_reducible refine zc (NQ _ gb2) ?_);rintro e wb ⟨rfl,hb⟩)
   replace EX:=EX.trans hb;replace H2:=H2.ext hb;clear hb gb2 NQ k0 k1 lk;have f0:=H2.frozen 0;have f1:=H2.frozen 1;obtain ⟨z0,z1⟩:=H2.c2;have lz:=H2.lt;have H3:=Qo H2 (.int .i64 0) (.int .i64 0);have EF:=(EX.setCell (p:=⟨b2,0,none⟩) hb2' (.int .i64 0)).setCell (p:=⟨b2,1,none⟩) hb2' (.int .i64 0);obtain ⟨x0,x1⟩:=H3.c2;go_wp2;refine bodyPost_ret (v:=.tuple #[.agg #[.int .i64 0,.int .i64 0],.int .i64 6]) (by simp [results,Tryz.results163,go_sem,x0,x1]) rfl ⟨rfl,EF⟩
end
section
open Go Go.RowKit
section
variable {P : Program} {ops : Array Oper} {md : Region.Mode} {C : World → Prop} {R : Act → World → Prop} {zs : List Nat}
def Zt (P : Program) (md : Region.Mode) (ops : Array Oper) (C : World → Prop) (zs : List Nat) (R : Act → World → Prop) : Nat → Array Bool → Act → World → Prop
 | 0,L,a,w => Region.ready md ops L = [] ∧ R a w
 | f + 1,L,a,w => (Region.ready md ops L = [] → R a w) ∧ ∀ i ∈ Region.ready md ops L,wpOp P ops (Zz fun _ _ => False) i (fun a' w' => (i ∉ zs → C w') ∧ Zt P md ops C zs R f (L.setIfInBounds i true) a' w') a w
theorem Qd7 {R : Act → World → Prop} : ∀ (f : Nat) (L : Array Bool) (a : Act) (w : World),Zt P md ops C zs R f L a w → wpAny P md ops (Zz R) f L a w
 | 0,_,_,_,h => h
 | f + 1,_,_,_,h => ⟨h.1,fun i hi => wpOp_mono (fun a' w' h' => Qd7 f _ a' w' h'.2) (Qea (h.2 i hi))⟩
/-- What is done has what it waits for done. -/
def Kh (md : Region.Mode) (ops : Array Oper) (L : Array Bool) : Prop:=∀ (j : Nat) (oj : Oper),ops[j]? = some oj → L.getD j false = true → ∀ e ∈ oj.after,Region.binds md e = true → L.getD e.on false = true
theorem Kh.set {L : Array Bool} (h : Kh md ops L) {i : Nat} (hi : i ∈ Region.ready md ops L) : Kh md ops (L.setIfInBounds i true):=fun j oj hj hl e he hb => by
 have up : ∀ k,L.getD k false = true → (L.setIfInBounds i true).getD k false = true:=fun k hk => by
  by_cases e1 : i = k
  ·subst e1;rcases Nat.lt_or_ge i L.size with h1 | h1
   ·simp [h1]
   ·simp [Array.getElem?_eq_none h1] at hk
  ·rw [getD_set_ne false e1];exact hk
 refine up _ ?_;obtain ⟨_,oi,hoi,hall⟩:=mem_ready.1 hi;by_cases e1 : i = j
 ·subst e1;have e2 : oj = oi:=Option.some.inj (hj.symm.trans hoi);subst e2;exact hall e he hb
 ·rw [getD_set_ne false e1] at hl;exact h j oj hj hl e he hb
def L9 (md : Region.Mode) (ops : Array Oper) : Nat → Nat → Nat → Bool
 | 0,_,_ => false
 | f + 1,j,i => match ops[j]? with | some oj => oj.after.any fun e => Region.binds md e && (e.on == i || L9 md ops f e.on i) | none => false
theorem Qdy {L : Array Bool} (hc : Kh md ops L) {i : Nat} : ∀ (f j : Nat),L9 md ops f j i = true → L.getD j false = true → L.getD i false = true
 | 0,_,h,_ => by cases h
 | f + 1,j,h,hj => by
  unfold L9 at h
  split at h
  ·rename_i oj hoj
   obtain ⟨e,he,hb⟩:=Array.any_eq_true'.1 h;simp only [Bool.and_eq_true,Bool.or_eq_true,beq_iff_eq] at hb;have h1:=hc j oj hoj hj e he hb.1;rcases hb.2 with e1 | e1
   ·rw [← e1];exact h1
   ·exact Qdy hc f e.on e1 h1
  ·cases h
theorem Qnv {L : Array Bool} (hc : Kh md ops L) {i j f : Nat} (h : L9 md ops f j i = true) (hi : L.getD i true = false) (hj : j ∈ Region.ready md ops L) : False:=by
 obtain ⟨_,oj,hoj,hall⟩:=mem_ready.1 hj
 cases f with
 | zero => cases h
 | succ f =>
  unfold L9 at h;rw [hoj] at h;obtain ⟨e,he,hb⟩:=Array.any_eq_true'.1 h;simp only [Bool.and_eq_true,Bool.or_eq_true,beq_iff_eq] at hb;have h1:=hall e he hb.1
  have h2 : L.getD i false = true:=by
   rcases hb.2 with e1 | e1
   ·rw [← e1];exact h1
   ·exact Qdy hc f e.on e1 h1
  rw [getD_both hi] at h2;cases h2
theorem Qd6 {R : Act → World → Prop} {i : Nat} {oi : Oper} {v : Value} {f0 : Nat} (hi : ops[i]? = some oi) (hwz : ∀ j,j ∈ zs → L9 md ops f0 j i = true)
  (hsel : ∀ (j : Nat) (o : Oper) cs b,ops[j]? = some o → o.op ≠ .select cs b) :
  ∀ (f : Nat) (L : Array Bool) (a : Act) (w : World),Kh md ops L →
   (∀ j oj,ops[j]? = some oj → j ≠ i → L.getD j true = false → (∀ e ∈ oj.after,Region.binds md e = true → e.on ≠ i) → oi.apart ops oj = true) →
   i ∈ Region.ready md ops L → C w → Wx P ops C oi v a →
   Zt P md ops C zs R f (L.setIfInBounds i true) (a.put oi.dst v) w → Zt P md ops C zs R (f + 1) L a w:=by
 intro f
 induction f with
 | zero =>
  intro L a w hcl _ hr hw hy H;refine ⟨fun h => (by rw [h] at hr;cases hr),fun j hj => ?_⟩;by_cases hji : j = i
  ·subst hji;exact hy.wpOp hi hw ⟨fun _ => hw,H⟩
  ·have:=ready_mono hj hji;rw [H.1] at this
   cases this
 | succ f ih =>
  intro L a w hcl hfree hr hw hy H;refine ⟨fun h => (by rw [h] at hr;cases hr),fun j hj => ?_⟩;by_cases hji : j = i
  ·subst hji;exact hy.wpOp hi hw ⟨fun _ => hw,H⟩
  ·have h1:=H.2 j (ready_mono hj hji);obtain ⟨hjun,oj,hoj,hall⟩:=mem_ready.1 hj
   have hnot : ∀ e ∈ oj.after,Region.binds md e = true → e.on ≠ i:=fun e he hb heq => by
    have h1:=hall e he hb;rw [heq,getD_both (mem_ready.1 hr).1] at h1;cases h1
   have hjz : j ∉ zs:=fun hz => Qnv hcl (hwz j hz) (mem_ready.1 hr).1 hj
   have h2:=Bg (Q:=Zz fun _ _ => False) hoj (hfree j oj hoj hji hjun hnot) (fun cs b => hsel i oi cs b hi) (fun cs b => hsel j oj cs b hoj) hy h1
   have hfree' : ∀ k ok,ops[k]? = some ok → k ≠ i → (L.setIfInBounds j true).getD k true = false → (∀ e ∈ ok.after,Region.binds md e = true → e.on ≠ i) → oi.apart ops ok = true:=fun k ok hk hki hun hno => by
    refine hfree k ok hk hki ?_ hno;by_cases hjk : j = k
    ·subst hjk;exact hjun
    ·rw [getD_set_ne true hjk] at hun;exact hun
   refine wpOp_mono (fun a' w' h3 => ⟨h3.2.1,ih (L.setIfInBounds j true) a' w' (hcl.set hj) hfree' (ready_mono hr (Ne.symm hji)) (h3.2.1 hjz) h3.1 ?_⟩) h2;rw [Array.setIfInBounds_comm _ _ hji];exact h3.2.2
/-- An operation that looks at no memory, and after which nothing is asked. -/
theorem Qny {R : Act → World → Prop} {i : Nat} {oi : Oper} {v : Value} (hi : ops[i]? = some oi) (hiz : i ∈ zs)
  (hsel : ∀ (j : Nat) (o : Oper) cs b,ops[j]? = some o → o.op ≠ .select cs b) :
  ∀ (f : Nat) (L : Array Bool) (a : Act) (w : World),
   (∀ j oj,ops[j]? = some oj → j ≠ i → L.getD j true = false → (∀ e ∈ oj.after,Region.binds md e = true → e.on ≠ i) → oi.apart ops oj = true) →
   i ∈ Region.ready md ops L → Wx P ops (fun _ => True) oi v a →
   Zt P md ops C zs R f (L.setIfInBounds i true) (a.put oi.dst v) w → Zt P md ops C zs R (f + 1) L a w:=by
 intro f
 induction f with
 | zero =>
  intro L a w _ hr hy H;refine ⟨fun h => (by rw [h] at hr;cases hr),fun j hj => ?_⟩;by_cases hji : j = i
  ·subst hji;exact hy.wpOp hi trivial ⟨fun h => absurd hiz h,H⟩
  ·have:=ready_mono hj hji;rw [H.1] at this
   cases this
 | succ f ih =>
  intro L a w hfree hr hy H;refine ⟨fun h => (by rw [h] at hr;cases hr),fun j hj => ?_⟩;by_cases hji : j = i
  ·subst hji;exact hy.wpOp hi trivial ⟨fun h => absurd hiz h,H⟩
  ·have h1:=H.2 j (ready_mono hj hji);obtain ⟨hjun,oj,hoj,hall⟩:=mem_ready.1 hj
   have hnot : ∀ e ∈ oj.after,Region.binds md e = true → e.on ≠ i:=fun e he hb heq => by
    have h1:=hall e he hb;rw [heq,getD_both (mem_ready.1 hr).1] at h1;cases h1
   have h2:=Bg (Q:=Zz fun _ _ => False) hoj (hfree j oj hoj hji hjun hnot) (fun cs b => hsel i oi cs b hi) (fun cs b => hsel j oj cs b hoj) hy h1
   have hfree' : ∀ k ok,ops[k]? = some ok → k ≠ i → (L.setIfInBounds j true).getD k true = false → (∀ e ∈ ok.after,Region.binds md e = true → e.on ≠ i) → oi.apart ops ok = true:=fun k ok hk hki hun hno => by
    refine hfree k ok hk hki ?_ hno;by_cases hjk : j = k
    ·subst hjk;exact hjun
    ·rw [getD_set_ne true hjk] at hun;exact hun
   refine wpOp_mono (fun a' w' h3 => ⟨h3.2.1,ih (L.setIfInBounds j true) a' w' hfree' (ready_mono hr (Ne.symm hji)) h3.1 ?_⟩) h2;rw [Array.setIfInBounds_comm _ _ hji];exact h3.2.2
def Gr (md : Region.Mode) (ops : Array Oper) (L : Array Bool) : Bool:=(List.range ops.size).all fun j => !(L.getD j false) || (match ops[j]? with | some o => o.after.all fun e => !Region.binds md e || L.getD e.on false | none => true)
theorem Ah {L : Array Bool} (h : Gr md ops L = true) : Kh md ops L:=fun j oj hj hl e he hb => by
 have h1:=List.all_eq_true.1 h j (List.mem_range.2 (Array.getElem?_eq_some_iff.1 hj).1);rw [hl,hj] at h1;simp only [Bool.not_true,Bool.false_or] at h1;have h2:=Array.all_eq_true_iff_forall_mem.1 h1 e he;rw [hb,Bool.not_true,Bool.false_or] at h2;exact h2
def L8 (md : Region.Mode) (ops : Array Oper) (zs : List Nat) : List Nat → Array Bool → Bool
 | [],_ => true
 | k :: ks,L => (Region.ready md ops L).contains k && Region.free md ops L k && (zs.all fun z => L9 md ops ops.size z k) && L8 md ops zs ks (L.setIfInBounds k true)
theorem Br {W : World} (hW : C W) {A : Act} {g : Nat} (hs : Region.noSelect ops = true) : ∀ (ks : List Nat) (l : List Oper) (L : Array Bool) (a : Act),l.map some = ks.map (fun k => ops[k]?) → Yd l = true → Y9 a l = true → Kh md ops L →
  L8 md ops zs ks L = true → (∀ u,C u → wpQuiet P ops (fun w' => w' = u) (fun a' => a' = A) l a) → Zt P md ops C zs R g (Vb ks L) A W → Zt P md ops C zs R (l.length + g) L a W
 | [],[],L,a,_,_,_,_,_,h,H => by
  have e : a = A:=h W hW;subst e;rw [List.length_nil,Nat.zero_add]
  exact H
 | k :: ks,o :: l,L,a,hl,hd,hz,hcl,hB,h,H => by
  simp only [List.map_cons,List.cons.injEq] at hl;have h0 : ops[k]? = some o:=hl.1.symm;simp only [L8,Bool.and_eq_true] at hB;obtain ⟨⟨⟨hr,hf⟩,hwz⟩,hB'⟩:=hB;have hzo:=hz;simp only [Y9,List.all_cons,Bool.and_eq_true] at hzo;obtain ⟨v,hy,hn⟩:=Ds hW hd (fun d he => by have:=hzo.1;rw [he] at this;simpa using this) h;have hd' : Yd l = true:=by simp only [Yd,Bool.and_eq_true] at hd;exact hd.2
  have hsz : (a.put o.dst v).tmps.size = a.tmps.size:=by cases o.dst <;> simp [Act.put]
  rw [show (o :: l).length + g = (l.length + g) + 1 by simp only [List.length_cons];omega]
  exact Qd6 h0 (fun j hj => List.all_eq_true.1 hwz j hj) (Region.noSelect_spec hs) _ L a W hcl (Region.free_spec h0 hf) (by simpa using hr) hW hy
   (Br hW hs ks l _ _ hl.2 hd' (by unfold Y9;rw [hsz];exact hzo.2) (hcl.set (by simpa using hr)) hB' hn H)
 | [],_ :: _,_,_,hl,_,_,_,_,_,_ => by simp at hl
 | _ :: _,[],_,_,hl,_,_,_,_,_,_ => by simp at hl
theorem Qoc {g f : Nat} {L : Array Bool} {a : Act} {w : World} (ks : List Nat) (l : List Oper) (hl : La ops ks l) (hB : (Region.noSelect ops && Yd l && Gr md ops L && L8 md ops zs ks L && decide (f = l.length + g)) = true) (hz : Y9 a l = true) (hw : C w)
  (h : ∃ A,(∀ u,C u → wpQuiet P ops (fun w' => w' = u) (fun a' => a' = A) l a) ∧ Zt P md ops C zs R g (Vb ks L) A w) : Zt P md ops C zs R f L a w:=by
 obtain ⟨A,h1,h2⟩:=h;simp only [Bool.and_eq_true,decide_eq_true_eq] at hB;obtain ⟨⟨⟨⟨hs,hd⟩,hc⟩,hk⟩,rfl⟩:=hB;exact Br hw hs ks l L a (O3 hl) hd hz (Ah hc) hk h1 h2
def O5 (md : Region.Mode) (ops : Array Oper) (zs : List Nat) : List Nat → Array Bool → Bool
 | [],_ => true
 | k :: ks,L => (Region.ready md ops L).contains k && Region.free md ops L k && zs.contains k && O5 md ops zs ks (L.setIfInBounds k true)
theorem Bk {W : World} {A : Act} {g : Nat} (hs : Region.noSelect ops = true) : ∀ (ks : List Nat) (l : List Oper) (L : Array Bool) (a : Act),l.map some = ks.map (fun k => ops[k]?) → Yd l = true → Y9 a l = true →
  O5 md ops zs ks L = true → (∀ u,True → wpQuiet P ops (fun w' => w' = u) (fun a' => a' = A) l a) → Zt P md ops C zs R g (Vb ks L) A W → Zt P md ops C zs R (l.length + g) L a W
 | [],[],L,a,_,_,_,_,h,H => by
  have e : a = A:=h W trivial;subst e;rw [List.length_nil,Nat.zero_add]
  exact H
 | k :: ks,o :: l,L,a,hl,hd,hz,hB,h,H => by
  simp only [List.map_cons,List.cons.injEq] at hl;have h0 : ops[k]? = some o:=hl.1.symm;simp only [O5,Bool.and_eq_true] at hB;obtain ⟨⟨⟨hr,hf⟩,hkz⟩,hB'⟩:=hB;have hzo:=hz;simp only [Y9,List.all_cons,Bool.and_eq_true] at hzo;obtain ⟨v,hy,hn⟩:=Ds (C:=fun _ => True) (W:=W) trivial hd (fun d he => by have:=hzo.1;rw [he] at this;simpa using this) h;have hd' : Yd l = true:=by simp only [Yd,Bool.and_eq_true] at hd;exact hd.2
  have hsz : (a.put o.dst v).tmps.size = a.tmps.size:=by cases o.dst <;> simp [Act.put]
  rw [show (o :: l).length + g = (l.length + g) + 1 by simp only [List.length_cons];omega]
  exact Qny h0 (by simpa using hkz) (Region.noSelect_spec hs) _ L a W (Region.free_spec h0 hf) (by simpa using hr) hy
   (Bk hs ks l _ _ hl.2 hd' (by unfold Y9;rw [hsz];exact hzo.2) hB' hn H)
 | [],_ :: _,_,_,hl,_,_,_,_,_ => by simp at hl
 | _ :: _,[],_,_,hl,_,_,_,_,_ => by simp at hl
theorem Qob {g f : Nat} {L : Array Bool} {a : Act} {w : World} (ks : List Nat) (l : List Oper) (hl : La ops ks l) (hB : (Region.noSelect ops && Yd l && O5 md ops zs ks L && decide (f = l.length + g)) = true) (hz : Y9 a l = true)
  (h : ∃ A,(∀ u,True → wpQuiet P ops (fun w' => w' = u) (fun a' => a' = A) l a) ∧ Zt P md ops C zs R g (Vb ks L) A w) : Zt P md ops C zs R f L a w:=by
 obtain ⟨A,h1,h2⟩:=h;simp only [Bool.and_eq_true,decide_eq_true_eq] at hB;obtain ⟨⟨⟨hs,hd⟩,hk⟩,rfl⟩:=hB;exact Bk hs ks l L a (O3 hl) hd hz hk h1 h2
theorem z_one {f : Nat} {L : Array Bool} {a : Act} {w : World} {o : Oper} (k : Nat) (ho : ops[k]? = some o) (hB : decide (Region.ready md ops L = [k]) = true)
  (h : wpList P ops (Zz fun a' w' => C w' ∧ Zt P md ops C zs R f (L.setIfInBounds k true) a' w') [o] a w) : Zt P md ops C zs R (f + 1) L a w:=by
 have hB:=of_decide_eq_true hB;refine ⟨fun h => (by rw [hB] at h;cases h),fun j hj => ?_⟩;rw [hB,List.mem_singleton] at hj;subst hj;refine wpOp_mono (fun a' w' h' => ⟨fun _ => h'.1,h'.2⟩) (Wh (Wu ho h))
theorem Vt {f : Nat} {L : Array Bool} {a : Act} {w : World} {o1 o2 : Oper} (k1 k2 : Nat) (h1 : ops[k1]? = some o1) (h2 : ops[k2]? = some o2) (hB : decide (Region.ready md ops L = [k1,k2]) = true)
  (ha : wpList P ops (Zz fun a' w' => C w' ∧ Zt P md ops C zs R f (L.setIfInBounds k1 true) a' w') [o1] a w)
  (hb : wpList P ops (Zz fun a' w' => C w' ∧ Zt P md ops C zs R f (L.setIfInBounds k2 true) a' w') [o2] a w) : Zt P md ops C zs R (f + 1) L a w:=by
 have hB:=of_decide_eq_true hB;refine ⟨fun h => (by rw [hB] at h;cases h),fun j hj => ?_⟩;rw [hB] at hj;rcases List.mem_cons.1 hj with rfl | hj
 ·exact wpOp_mono (fun a' w' h' => ⟨fun _ => h'.1,h'.2⟩) (Wh (Wu h1 ha))
 ·rw [List.mem_singleton] at hj;subst hj;exact wpOp_mono (fun a' w' h' => ⟨fun _ => h'.1,h'.2⟩) (Wh (Wu h2 hb))
/-- Three that may come up next. -/
theorem Ru {f : Nat} {L : Array Bool} {a : Act} {w : World} {o1 o2 o3 : Oper} (k1 k2 k3 : Nat) (h1 : ops[k1]? = some o1) (h2 : ops[k2]? = some o2) (h3 : ops[k3]? = some o3) (hB : decide (Region.ready md ops L = [k1,k2,k3]) = true)
  (ha : wpList P ops (Zz fun a' w' => C w' ∧ Zt P md ops C zs R f (L.setIfInBounds k1 true) a' w') [o1] a w)
  (hb : wpList P ops (Zz fun a' w' => C w' ∧ Zt P md ops C zs R f (L.setIfInBounds k2 true) a' w') [o2] a w)
  (hc : wpList P ops (Zz fun a' w' => C w' ∧ Zt P md ops C zs R f (L.setIfInBounds k3 true) a' w') [o3] a w) : Zt P md ops C zs R (f + 1) L a w:=by
 have hB:=of_decide_eq_true hB;refine ⟨fun h => (by rw [hB] at h;cases h),fun j hj => ?_⟩;rw [hB] at hj;rcases List.mem_cons.1 hj with rfl | hj
 ·exact wpOp_mono (fun a' w' h' => ⟨fun _ => h'.1,h'.2⟩) (Wh (Wu h1 ha))
 ·rcases List.mem_cons.1 hj with rfl | hj
  ·exact wpOp_mono (fun a' w' h' => ⟨fun _ => h'.1,h'.2⟩) (Wh (Wu h2 hb))
  ·rw [List.mem_singleton] at hj;subst hj;exact wpOp_mono (fun a' w' h' => ⟨fun _ => h'.1,h'.2⟩) (Wh (Wu h3 hc))
/-- Behind one of zs nothing is asked of the world. -/
theorem z_end {f : Nat} {L : Array Bool} {a : Act} {w : World} {o : Oper} (k : Nat) (ho : ops[k]? = some o) (hB : (zs.contains k && decide (Region.ready md ops L = [k])) = true)
  (h : wpList P ops (Zz fun a' w' => Zt P md ops C zs R f (L.setIfInBounds k true) a' w') [o] a w) : Zt P md ops C zs R (f + 1) L a w:=by
 simp only [Bool.and_eq_true,decide_eq_true_eq] at hB;refine ⟨fun h => (by rw [hB.2] at h;cases h),fun j hj => ?_⟩;rw [hB.2,List.mem_singleton] at hj;subst hj;exact wpOp_mono (fun a' w' h' => ⟨fun h => absurd (by simpa using hB.1) h,h'⟩) (Wh (Wu ho h))
theorem z_done {L : Array Bool} {a : Act} {w : World} (hB : decide (Region.ready md ops L = []) = true) (h : R a w) : Zt P md ops C zs R 0 L a w:=⟨of_decide_eq_true hB,h⟩
end
theorem Q5 {P : Program} {id : Nat} {Q : Exit → Act → World → Prop} {a : Act} {w : World} {l : List Oper} (n : Nat) (zs : List Nat) (C : World → Prop) (hm : P.follows .mixedOrders = true) (hn : n = l.length)
  (h : ∀ w',Qb w w' → Zt P .any l.toArray C zs (fun a w => Q .normal a w) n (Array.replicate n false) a w') : (Code.region id l.toArray true).wp P Q a w:=by
 have H:=h { w with drawn:=w.drawn + 1 } ⟨rfl,rfl,rfl,Nat.le_refl _,fun _ _ => rfl⟩;refine Code.wp_mono (Q:=Zz fun a w => Q .normal a w) (fun e a' w' h' => by cases e <;> first | exact h' | exact False.elim h') (wp_region_any hm (Qd7 (C:=C) (zs:=zs) _ _ _ _ ?_));subst hn
 simpa using H
theorem Qm {S : Act → World → Prop} {a : Act} {w : World} (h : S a w) : Zz (fun a' w' => S a' w') .normal a w:=h
def O0 (l : List Oper) : List Nat → Option (List Oper)
 | [] => some []
 | k :: ks => match l[k]?,O0 l ks with
  | some o,some os => some (o :: os)
  | _,_ => none
section
variable {P : Program} {md : Region.Mode} {l : List Oper} {C : World → Prop} {zs : List Nat} {R : Act → World → Prop} {f g : Nat} {L : Array Bool} {a : Act} {w : World} {o o1 o2 o3 : Oper} {os : List Oper}
theorem P7 : ∀ (ks : List Nat) (os : List Oper),O0 l ks = some os → La l.toArray ks os
 | [],os,h => by cases h;trivial
 | k :: ks,os,h => by
  unfold O0 at h
  split at h
  ·rename_i o os' h1 h2
   cases h
   exact ⟨by simpa using h1,P7 ks _ h2⟩
  ·cases h
theorem Qr (ks : List Nat) (hw : C w) (h : ∃ A,(∀ u,C u → wpQuiet P l.toArray (fun w' => w' = u) (fun a' => a' = A) os a) ∧ Zt P md l.toArray C zs R g (Vb ks L) A w)
  (hh : O0 l ks = some os ∧ (Region.noSelect l.toArray && Yd os && Gr md l.toArray L && L8 md l.toArray zs ks L && decide (f = os.length + g)) = true ∧ Y9 a os = true:=by exact ⟨rfl,by kernel_rfl,by kernel_rfl⟩) : Zt P md l.toArray C zs R f L a w :=
 Qoc ks os (P7 ks os hh.1) hh.2.1 hh.2.2 hw h
theorem Jv (ks : List Nat) (h : ∃ A,(∀ u,True → wpQuiet P l.toArray (fun w' => w' = u) (fun a' => a' = A) os a) ∧ Zt P md l.toArray C zs R g (Vb ks L) A w)
  (hh : O0 l ks = some os ∧ (Region.noSelect l.toArray && Yd os && O5 md l.toArray zs ks L && decide (f = os.length + g)) = true ∧ Y9 a os = true:=by exact ⟨rfl,by kernel_rfl,by kernel_rfl⟩) : Zt P md l.toArray C zs R f L a w :=
 Qob ks os (P7 ks os hh.1) hh.2.1 hh.2.2 h
theorem Qk (k : Nat) (h : wpList P l.toArray (Zz fun a' w' => C w' ∧ Zt P md l.toArray C zs R f (L.setIfInBounds k true) a' w') [o] a w)
  (hh : l[k]? = some o ∧ decide (Region.ready md l.toArray L = [k]) = true:=by exact ⟨rfl,by kernel_rfl⟩) : Zt P md l.toArray C zs R (f + 1) L a w:=z_one k (by simpa using hh.1) hh.2 h
theorem Qn (k : Nat) (h : wpList P l.toArray (Zz fun a' w' => Zt P md l.toArray C zs R f (L.setIfInBounds k true) a' w') [o] a w)
  (hh : l[k]? = some o ∧ (zs.contains k && decide (Region.ready md l.toArray L = [k])) = true:=by exact ⟨rfl,by kernel_rfl⟩) : Zt P md l.toArray C zs R (f + 1) L a w:=z_end k (by simpa using hh.1) hh.2 h
theorem Zp (k1 k2 : Nat) (ha : wpList P l.toArray (Zz fun a' w' => C w' ∧ Zt P md l.toArray C zs R f (L.setIfInBounds k1 true) a' w') [o1] a w) (hb : wpList P l.toArray (Zz fun a' w' => C w' ∧ Zt P md l.toArray C zs R f (L.setIfInBounds k2 true) a' w') [o2] a w)
  (hh : l[k1]? = some o1 ∧ l[k2]? = some o2 ∧ decide (Region.ready md l.toArray L = [k1,k2]) = true:=by exact ⟨rfl,rfl,by kernel_rfl⟩) : Zt P md l.toArray C zs R (f + 1) L a w:=Vt k1 k2 (by simpa using hh.1) (by simpa using hh.2.1) hh.2.2 ha hb
theorem Up (k1 k2 k3 : Nat) (ha : wpList P l.toArray (Zz fun a' w' => C w' ∧ Zt P md l.toArray C zs R f (L.setIfInBounds k1 true) a' w') [o1] a w) (hb : wpList P l.toArray (Zz fun a' w' => C w' ∧ Zt P md l.toArray C zs R f (L.setIfInBounds k2 true) a' w') [o2] a w) (hc : wpList P l.toArray (Zz fun a' w' => C w' ∧ Zt P md l.toArray C zs R f (L.setIfInBounds k3 true) a' w') [o3] a w)
  (hh : l[k1]? = some o1 ∧ l[k2]? = some o2 ∧ l[k3]? = some o3 ∧ decide (Region.ready md l.toArray L = [k1,k2,k3]) = true:=by exact ⟨rfl,rfl,rfl,by kernel_rfl⟩) : Zt P md l.toArray C zs R (f + 1) L a w:=Ru k1 k2 k3 (by simpa using hh.1) (by simpa using hh.2.1) (by simpa using hh.2.2.1) hh.2.2.2 ha hb hc
theorem Qt (h : R a w) (hB : decide (Region.ready md l.toArray L = []) = true:=by kernel_rfl) : Zt P md l.toArray C zs R 0 L a w:=z_done hB h
end
end
section
open Go Go.RowKit Go.Shelf
attribute [local go_sem] Zx
/-- The global 'zero' holds 0/1. -/
def Z6 (w : World) : Prop:=w.cell? ⟨0,0,none⟩ = some (.int .i64 0) ∧ w.cell? ⟨0,1,none⟩ = some (.int .i64 1) ∧ 0 < w.heap.size
theorem Z6.ext {w w' : World} (h : Z6 w) (e : Qb w w') : Z6 w':=⟨(e.cell (p:=⟨0,0,none⟩) h.2.2).trans h.1,(e.cell (p:=⟨0,1,none⟩) h.2.2).trans h.2.1,Nat.lt_of_lt_of_le h.2.2 e.size⟩
def Xj (f : Nat → Rt) (i : Nat) : List Value:=[.int .i64 (f i).n,.int .i64 (f i).d]
theorem Qdo (g : Nat → Nat) (k : Nat) : Q0 (Zd g) k ++ [.int .u64 (g k : Int)] = Q0 (Zd g) (k + 1):=by rw [Ud];rfl
theorem Qij {W : World} {b : Nat} {t : TypeId} {v0 v1 : Value} (h : Qc W b t #[v0,v1]) (u : Value) : Qc (W.setCell ⟨b,0,none⟩ u) b t #[u,v1]:=by unfold Qc at h ⊢;simp [World.setCell,Array.getElem?_modify,h]
theorem Qik {W : World} {b : Nat} {t : TypeId} {v0 v1 : Value} (h : Qc W b t #[v0,v1]) (u : Value) : Qc (W.setCell ⟨b,1,none⟩ u) b t #[v0,u]:=by unfold Qc at h ⊢;simp [World.setCell,Array.getElem?_modify,h]
def K7 (p q : Value) : Prop:=∀ x y,p.ownBlock = some x → q.ownBlock = some y → x ≠ y
theorem Qeq {p q : Value} (h : K7 p q) : q.ownBlock = none ∨ q.ownBlock ≠ p.ownBlock:=by
 cases e : q.ownBlock with
 | none => exact .inl rfl
 | some y => exact .inr (fun h' => h y y h'.symm e rfl)
theorem Qer {p q : Value} (h : K7 p q) : p.ownBlock = none ∨ p.ownBlock ≠ q.ownBlock:=by
 cases e : p.ownBlock with
 | none => exact .inl rfl
 | some y => exact .inr (fun h' => h y y e h'.symm rfl)
theorem Qeo {p q p' : Value} {w : World} {base size n : Nat} {e : TypeId} {xs : List Value} (h : K7 p q) (hloc : p'.ownBlock = p.ownBlock ∨ p'.ownBlock = some w.heap.size) (hq : w.ownsRow base e size q n xs) : K7 p' q:=fun x y hx hy => by
 rcases hloc with e | e
 ·exact h x y (e.symm.trans hx) hy
 ·rw [e] at hx;cases hx;have:=(hq.lt y hy).2;omega
theorem Qep {p q p' : Value} {w : World} {base size n : Nat} {e : TypeId} {xs : List Value} (h : K7 q p) (hloc : p'.ownBlock = p.ownBlock ∨ p'.ownBlock = some w.heap.size) (hq : w.ownsRow base e size q n xs) : K7 q p':=fun x y hx hy => by
 rcases hloc with e | e
 ·exact h x y hx (e.symm.trans hy)
 ·rw [e] at hy;cases hy;have:=(hq.lt x hx).2;omega
set_option maxHeartbeats 8000000 in
theorem Qkn (A : Option Addr) (n ca : Nat) (f : Nat → Rt) (w : World) (hA : Qs w A n 2 (Xj f)) (hn : n ≤ 1000) (hok : ∀ i,i < n → (f i).ok = true) (hZ : Z6 w) :
  Calls Tryz.prog 122 #[.slice A n ca] w fun e w' => e = .returned (.tuple #[.agg #[.int .i64 (U0 f n).1.n,.int .i64 (U0 f n).1.d],.int .i64 (U0 f n).2]) ∧ Qb w w':=by
 obtain ⟨i0,hi,hz0,hz1,hz2⟩:=info_parts S9;obtain ⟨R,hR0⟩:=Qf (U0 f n);rw [← hR0];have HR:=Lib.hid hR0;clear hR0
 go_enter Tryz.func122,Tryz.ntmps122
 go_upto_region 1 with (fail)
 obtain ⟨v0,hv⟩:=Qf (w.alloc (.cells #[.int .i64 0,.int .i64 0] 65));rw [← hv];have E : Qb w v0:=by rw [hv];exact (Qb.refl _).alloc _
 have B1 : Qc v0 w.heap.size 65 #[.int .i64 0,.int .i64 0]:=by rw [hv];exact Qc.new _ _ _
 clear hv;have RA:=hA.ext E;have Z0:=hZ.ext E;clear hA hZ;obtain ⟨b1,hb1⟩:=Qf (w.heap.size);rw [← hb1] at B1 ⊢;have hb1':=Nat.le_of_eq hb1.symm;clear hb1;go_upto_region 4 with (fail)
 obtain ⟨v,hv⟩:=Qf (v0.alloc (.cells #[.slice none 0 0,.slice none 0 0] 252));rw [← hv];have E0 : Qb v0 v:=by rw [hv];exact (Qb.refl _).alloc _
 have B2 : Qc v v0.heap.size 252 #[.slice none 0 0,.slice none 0 0]:=by rw [hv];exact Qc.new _ _ _
 clear hv;obtain ⟨b2,hb2⟩:=Qf (v0.heap.size);rw [← hb2] at B2 ⊢;have hb2':=Nat.le_of_eq hb2.symm;have l12 : b1 < b2:=by have:=B1.lt;omega
 clear hb2
 go_loopw [5,10] (fun ng iv wr => ∃ k : Nat,k ≤ n ∧ iv = .int .i64 k ∧ ng = .bool (Oq f k) ∧ Hid (∀ i,i < k → (f i).n ≠ 0) ∧ ∃ vu vd,Qb v0 wr ∧ Qc wr b2 252 #[vu,vd] ∧ wr.ownsRow (b2 + 1) 245 1 vu k (Q0 (Zd fun i => (f i).n.natAbs) k) ∧ wr.ownsRow (b2 + 1) 245 1 vd k (Q0 (Zd fun i => (f i).d.natAbs) k) ∧ K7 vu vd) (fun _ iv _ => n - (intOf iv).toNat)
 case atStart => exact ⟨0,Nat.zero_le _,rfl,rfl,(fun i h => absurd h Qa),_,_,E0,B2,World.ownsRow_nil _ _ _ _,World.ownsRow_nil _ _ _ _,fun x y h _ => by cases h⟩
 case round =>
  obtain ⟨k,hk,rfl,rfl,hnz,vu,vd,hE,HB,hU,hD,hap⟩:=hrel;obtain ⟨wo,rfl⟩:=Qf wr;clear E0 B2;by_cases hlt : k < n
  ·have hokk:=hok k hlt;obtain ⟨d1,d2,n1,n2,_⟩:=J9 hokk;have Nn:=fun w => Vr (f k).n Qa Qa w
   have Nd:=fun w => Vr (f k).d Qa Qa w
   obtain ⟨b,off,rfl,hb,hc⟩:=(RA.ext hE) Qa;have c0 : wo.cell? ⟨b,off + k * 2,none⟩ = some (.int .i64 (f k).n):=by simpa [Xj] using hc k 0 _ hlt rfl
   have c1 : wo.cell? ⟨b,off + k * 2 + 1,none⟩ = some (.int .i64 (f k).d):=by simpa [Xj] using hc k 1 _ hlt rfl
   clear hc;go_upto_region 6 with (fail)
   obtain ⟨v3,hv⟩:=Qf (wo.alloc (.cells #[.int .i64 (f k).n,.int .i64 (f k).d] 65));rw [← hv];have E3 : Qb wo v3:=by rw [hv];exact (Qb.refl _).alloc _
   have H3 : Qc v3 wo.heap.size 65 #[.int .i64 (f k).n,.int .i64 (f k).d]:=by rw [hv];exact Qc.new _ _ _
   clear hv c0 c1;obtain ⟨b3,hb3⟩:=Qf (wo.heap.size);rw [← hb3] at H3 ⊢;have hb32 : b3 ≠ b2:=by have:=HB.lt;omega
   clear hb3;replace hE:=hE.trans E3;replace HB:=HB.ext E3;replace hU:=Ja hU E3;replace hD:=Ja hD E3;clear E3;obtain ⟨q0,q1⟩:=H3.c2;have lq:=H3.lt;by_cases h0 : (f k).n = 0
   ·have hz : Hid (R = (⟨0,1⟩,0)):=by
     unfold Hid;rw [HR.out];unfold U0;rw [(Qds (f:=fun i => (f i).n.natAbs) n).2 ⟨k,hlt,by simp only [h0];rfl⟩];exact Dd (Nm n fun i hi => by have:=(J9 (hok i hi)).1;omega)
    have B1v:=B1.ext hE;obtain ⟨z0,z1,lz⟩:=Z0.ext hE;have f0:=B1v.frozen 0;have f1:=B1v.frozen 1;obtain ⟨x0,x1⟩:=B1v.c2;have lx:=B1v.lt;have EF:=((E.trans hE).setCell (p:=⟨b1,0,none⟩) hb1' (.int .i64 0)).setCell (p:=⟨b1,1,none⟩) hb1' (.int .i64 1);have H4:=Qo B1v (.int .i64 0) (.int .i64 1);obtain ⟨y0,y1⟩:=H4.c2;rw [h0] at q0;have hzo:=hz.out;clear h0 hz HR hU hD HB hap hnz Nn Nd;subst hzo;go_wp2;refine bodyPost_ret (v:=.tuple #[.agg #[.int .i64 0,.int .i64 1],.int .i64 0]) (by simp [results,Tryz.results122,go_sem,y0,y1]) rfl ⟨rfl,EF⟩
   ·have h0b : ((f k).n == 0) = false:=beq_eq_false_iff_ne.2 h0;go_upto_region 8 with (fail)
    clear q0 q1 lq;refine Q5 9 [8] (fun x => Qb v0 x ∧ Qc x b2 252 #[vu,vd] ∧ Qc x b3 65 #[.int .i64 (f k).n,.int .i64 (f k).d]) mixed rfl ?_;intro vz hvz;replace hE:=hE.trans hvz;replace HB:=HB.ext hvz;replace H3:=H3.ext hvz;replace hU:=Ja hU hvz;replace hD:=Ja hD hvz;clear hvz;refine Qr (g:=5) [0,1,2,3] ⟨hE,HB,H3⟩ ?_
    constructor
    refine ⟨fun u hu => ?_,?_⟩
    ·obtain ⟨k0,k1⟩:=hu.2.1.c2;obtain ⟨q0,q1⟩:=hu.2.2.c2;have lk:=hu.2.1.lt;have lq:=hu.2.2.lt;exact Qj
    refine Qk 4 ?_;go_wp2_with (go_at_call 162;(with_reducible refine zc (Nn _) ?_);rintro e va ⟨rfl,h4⟩);replace hE:=hE.trans h4;replace HB:=HB.ext h4;replace H3:=H3.ext h4;replace hU:=Ja hU h4;replace hD:=Ja hD h4;clear h4;refine Qe ⟨hE,HB,H3⟩ ?_;refine Qk 5 ?_;go_wp2;refine Qe ⟨hE.alloc _,HB.alloc _,H3.alloc _⟩ ?_;refine Qk 6 ?_;go_wp2_with (at_builtin;refine wpList_append_own_at _ rfl _ _ 250 rfl (b2 + 1) 245 i0 (.int .u64 0) 1 8 Tryz.underlying250 hi hz0 hz1 hz2 rfl (by decide) _ _ _ rfl (hU.alloc _) ⟨va.heap.size,0,none⟩ 1 1 [.int .u64 ((f k).n.natAbs : Int)] rfl rfl (Lj _ _ _) (by simp [Value.oneCell']) (by unfold maxLen;omega) Qa (by have:=HB.lt;simp;omega) ?_;intro vu' vb hown hgrow hnl hloc;clear hnl)
    have hEb : Qb v0 vb:=(hE.alloc _).grown hgrow (fun q hq => by have:=(hU.lt q hq).1;omega);have HBb:=Qc.kept (HB.alloc _) hgrow (HB.not_row (by decide) hU);have H3b:=Qc.kept (H3.alloc _) hgrow (H3.not_row (by decide) hU);have hOb:=World.ownsRow.kept (hD.alloc _) hgrow (Qeq hap);rw [Qdo (fun i => (f i).n.natAbs) k] at hown;have hap2:=Qeo hap hloc (hD.alloc _);clear hgrow hloc hap hU hD hE HB H3 ;obtain ⟨fa,ma,rfl⟩:=Jt hown;refine Qe ⟨hEb,HBb,H3b⟩ ?_;refine Qr (g:=1) [7] ⟨hEb,HBb,H3b⟩ ?_
    constructor
    refine ⟨fun u hu => ?_,?_⟩
    ·have lk:=hu.2.1.lt;exact Qj
    refine Qn 8 ?_;have f0:=HBb.frozen 0;obtain ⟨z0,z1⟩:=HBb.c2;have lz:=HBb.lt;have HB:=Qij HBb (.slice fa (k + 1) ma);have H3:=Qg H3b hb32 0 (.slice fa (k + 1) ma);have hU:=ownsRow_setCell_below hown (a:=⟨b2,0,none⟩) (Nat.lt_succ_self b2) (.slice fa (k + 1) ma);have hD:=ownsRow_setCell_below hOb (a:=⟨b2,0,none⟩) (Nat.lt_succ_self b2) (.slice fa (k + 1) ma);have hE:=hEb.setCell (p:=⟨b2,0,none⟩) hb2' (.slice fa (k + 1) ma);have hap:=hap2;go_wp2;refine Qm ?_;refine Qt ?_;generalize World.setCell vb _ _ = vc at *;generalize va.heap.size = szv0 at *;clear f0 z0 z1 lz HBb H3b hown hOb hEb hap2 va;go_upto_region 9 with (fail)
    refine Q5 9 [8] (fun x => Qb v0 x ∧ Qc x b2 252 #[.slice fa (k + 1) ma,vd] ∧ Qc x b3 65 #[.int .i64 (f k).n,.int .i64 (f k).d]) mixed rfl ?_;intro vz hvz;replace hE:=hE.trans hvz;replace HB:=HB.ext hvz;replace H3:=H3.ext hvz;replace hU:=Ja hU hvz;replace hD:=Ja hD hvz;clear hvz;refine Qr (g:=5) [0,1,2,3] ⟨hE,HB,H3⟩ ?_
    constructor
    refine ⟨fun u hu => ?_,?_⟩
    ·obtain ⟨k0,k1⟩:=hu.2.1.c2;obtain ⟨q0,q1⟩:=hu.2.2.c2;have lk:=hu.2.1.lt;have lq:=hu.2.2.lt;exact Qj
    refine Qk 4 ?_;go_wp2_with (go_at_call 162;(with_reducible refine zc (Nd _) ?_);rintro e va ⟨rfl,h4⟩);replace hE:=hE.trans h4;replace HB:=HB.ext h4;replace H3:=H3.ext h4;replace hU:=Ja hU h4;replace hD:=Ja hD h4;clear h4;refine Qe ⟨hE,HB,H3⟩ ?_;refine Qk 5 ?_;go_wp2;refine Qe ⟨hE.alloc _,HB.alloc _,H3.alloc _⟩ ?_;refine Qk 6 ?_;go_wp2_with (at_builtin;refine wpList_append_own_at _ rfl _ _ 250 rfl (b2 + 1) 245 i0 (.int .u64 0) 1 8 Tryz.underlying250 hi hz0 hz1 hz2 rfl (by decide) _ _ _ rfl (hD.alloc _) ⟨va.heap.size,0,none⟩ 1 1 [.int .u64 ((f k).d.natAbs : Int)] rfl rfl (Lj _ _ _) (by simp [Value.oneCell']) (by unfold maxLen;omega) Qa (by have:=HB.lt;simp;omega) ?_;intro vd' vb hown hgrow hnl hloc;clear hnl)
    have hEb : Qb v0 vb:=(hE.alloc _).grown hgrow (fun q hq => by have:=(hD.lt q hq).1;omega);have HBb:=Qc.kept (HB.alloc _) hgrow (HB.not_row (by decide) hD);have H3b:=Qc.kept (H3.alloc _) hgrow (H3.not_row (by decide) hD);have hOb:=World.ownsRow.kept (hU.alloc _) hgrow (Qer hap);rw [Qdo (fun i => (f i).d.natAbs) k] at hown;have hap2:=Qep hap hloc (hU.alloc _);clear hgrow hloc hap hU hD hE HB H3 ;obtain ⟨fb,mb,rfl⟩:=Jt hown;refine Qe ⟨hEb,HBb,H3b⟩ ?_;refine Qr (g:=1) [7] ⟨hEb,HBb,H3b⟩ ?_
    constructor
    refine ⟨fun u hu => ?_,?_⟩
    ·have lk:=hu.2.1.lt;exact Qj
    refine Qn 8 ?_;have f0:=HBb.frozen 1;obtain ⟨z0,z1⟩:=HBb.c2;have lz:=HBb.lt;have HB:=Qik HBb (.slice fb (k + 1) mb);have H3:=Qg H3b hb32 1 (.slice fb (k + 1) mb);have hD:=ownsRow_setCell_below hown (a:=⟨b2,1,none⟩) (Nat.lt_succ_self b2) (.slice fb (k + 1) mb);have hU:=ownsRow_setCell_below hOb (a:=⟨b2,1,none⟩) (Nat.lt_succ_self b2) (.slice fb (k + 1) mb);have hE:=hEb.setCell (p:=⟨b2,1,none⟩) hb2' (.slice fb (k + 1) mb);have hap:=hap2;go_wp2;refine Qm ?_;refine Qt ?_;generalize World.setCell vb _ _ = vc at *;generalize va.heap.size = szv1 at *;clear f0 z0 z1 lz HBb H3b hown hOb hEb hap2 va;obtain ⟨q0,q1⟩:=H3.c2;have lq:=H3.lt
    have hnz' : Hid (∀ i,i < k + 1 → (f i).n ≠ 0):=fun i hi => by
     by_cases e : i = k
     ·subst e;exact h0
     ·exact hnz.out i Qa
    clear hnz h0 h0b HR RA Z0 hok;go_wp2;exact ⟨⟨k + 1,by omega,by go_num,rfl,hnz',_,_,hE,HB,hU,hD,hap⟩,by simp [intOf];omega⟩
  ·obtain rfl : k = n := by omega
   obtain ⟨F1,c1,rfl⟩:=Jt hU;obtain ⟨F2,c2,rfl⟩:=Jt hD;obtain ⟨F3,c3,hf1,ra,hc1,hc1',hn1,_⟩:=Ue (f:=Zd fun i => (f i).n.natAbs) (sz:=1) (fun _ => rfl) hU;obtain ⟨F4,c4,hf2,rb,hc2,hc2',hn2,_⟩:=Ue (f:=Zd fun i => (f i).d.natAbs) (sz:=1) (fun _ => rfl) hD;obtain ⟨rfl,rfl⟩ : F1 = F3 ∧ c1 = c3:=by simpa using hf1
   obtain ⟨rfl,rfl⟩ : F2 = F4 ∧ c2 = c4:=by simpa using hf2
   have NR:=fun w h1 h2 => De F1 F2 k k c1 c2 (fun i => (f i).n.natAbs) (fun i => (f i).d.natAbs) (Oq f k) w h1 h2 hn1 hn2 hn hn (fun i hi => by have:=hnz.out i hi;omega) (fun i hi => by have:=J9 (hok i hi);omega) (fun i hi => by have:=J9 (hok i hi);omega) (fun i hi => by have:=J9 (hok i hi);omega)
   rw [show Jn (Oq f k) (upTo (fun i => (f i).n.natAbs) k) (upTo (fun i => (f i).d.natAbs) k) = R from HR.out.symm] at NR;obtain ⟨k0,k1⟩:=HB.c2;have lk:=HB.lt;clear hf1 hf2 hc1 hc2 hc1' hc2' hn1 hn2 hnz hok HR hU hD hap RA Z0;obtain ⟨⟨Rn,Rd⟩,Re⟩:=R;go_wp2_with (go_at_call 163;(with_reducible refine zc (NR _ ra rb) ?_);rintro e w2 ⟨rfl,h2⟩;have B3:=B1.ext (hE.trans h2);have f0:=B3.frozen 0;have f1:=B3.frozen 1;obtain ⟨x0,x1⟩:=B3.c2;have lx:=B3.lt);have H4:=Qo B3 (.int .i64 Rn) (.int .i64 Rd);have EF:=(((E.trans hE).trans h2).setCell (p:=⟨b1,0,none⟩) hb1' (.int .i64 Rn)).setCell (p:=⟨b1,1,none⟩) hb1' (.int .i64 Rd);obtain ⟨y0,y1⟩:=H4.c2;go_wp2
   refine bodyPost_ret (v:=.tuple #[.agg #[.int .i64 Rn,.int .i64 Rd],.int .i64 Re]) (by simp [results,Tryz.results122,go_sem,y0,y1]) rfl ⟨rfl,EF⟩
end
end Go.Proofs.YtoflcheopfppoaaGreatDoor

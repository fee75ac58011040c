/- Walks of the program's functions and plain facts, packed; proved: the lemmas below; no conditions but those that each states. -/
import Derived.LaidSub
import Derived.Test.YtoflcheopfppoaaGreatDoorI8
import Derived.Test.YtoflcheopfppoaaGreatDoorI1
set_option maxRecDepth 100000
set_option maxHeartbeats 4000000
namespace Go.Proofs.YtoflcheopfppoaaGreatDoor
section
open Go Go.ChangeShapes Go.WideShapes Go.ChangeAt Go.RowKit Go.Deep
theorem Qf5 : Tryz.prog.cellsOf 65 = 2:=by kernel_rfl
theorem Qod : Tryz.prog.globalNamed "bulla/metro.zero" = some 0:=by kernel_rfl
theorem Qog : (Tryz.prog.globals[0]?).map (·.type) = some 65:=by kernel_rfl
theorem Qoi {W : World} (h : laidMet Tryz.prog [("bulla/metro.zero",.agg [.lit (.int .i64 0),.lit (.int .i64 1)])] W) : Z6 W:=by
 obtain ⟨ps,⟨g,t,cs,fuel,p,q,hg,ht,hvar,hd,_,_⟩,_⟩:=h;obtain rfl:=Option.some.inj (Qod.symm.trans hg);obtain rfl:=Option.some.inj (Qog.symm.trans ht);obtain ⟨xs,m,_,hx,hlen,hxl,hf⟩:=DataW.trod_struct Tryz.underlying65 hd;have hxl2 : xs.length = 2:=hxl;simp only [Prod.mk.injEq,DataW.agg.injEq] at hx;have hx1:=hx.1;obtain ⟨cs⟩:=cs;rw [Qf5] at hlen
 match cs,hlen,xs,hxl2 with
 | [a,b],_,[y0,y1],_ =>
  have e0:=Ni (i:=0) (by simp) (hf 0 _ rfl) V1;have e1:=Ni (i:=1) (by simp) (hf 1 _ rfl) V1;obtain ⟨s0,h01,h02,_⟩:=DataW.trod_int Tryz.underlying3 e0;obtain ⟨s1,h11,h12,_⟩:=DataW.trod_int Tryz.underlying3 e1;simp only [List.map_cons,List.map_nil,List.cons.injEq] at hx1;have f0 : y0.1 = .lit (.int .i64 0):=hx1.1.symm;have f1 : y1.1 = .lit (.int .i64 1):=hx1.2.1.symm;have g0 : y0.1 = .lit (.int .i64 s0):=by have:=congrArg Prod.fst h02;simpa using this
  have g1 : y1.1 = .lit (.int .i64 s1):=by have:=congrArg Prod.fst h12;simpa using this
  obtain rfl : s0 = 0:=by rw [f0] at g0;simpa using g0.symm
  obtain rfl : s1 = 1:=by rw [f1] at g1;simpa using g1.symm
  have ha : a = .int .i64 0:=by simpa using h01
  have hb : b = .int .i64 1:=by simpa using h11
  subst ha;subst hb;have c0:=World.var?_cell hg hvar 0;have c1:=World.var?_cell hg hvar 1;refine ⟨by simpa using c0,by simpa using c1,?_⟩;rcases Nat.lt_or_ge 0 W.heap.size with h1 | h1
  ·exact h1
  ·have h2 : W.heap.size = 0 := by omega
   have : W.cell? ⟨0,0,none⟩ = some (.int .i64 0):=by simpa using c0
   simp [World.cell?,Array.getElem?_eq_none (show W.heap.size ≤ 0 by omega)] at this
section
variable {H : Type} {enc : TypeId × Value → H} {w : World} {base : Nat} {spare : Nat → Bool} {held : Bool} {r : Reach} {b0 : Nat} {v : Value} {d : DataW H} {p : List MemPlace}
end
theorem C5 : Tryz.prog.cellsOf 85 = 2:=by kernel_rfl
theorem Tv : Tryz.prog.cellsOf 52 = 1:=by kernel_rfl
theorem C1 : Tryz.prog.cellsOf 57 = 7:=by kernel_rfl
theorem Qf3 : Tryz.prog.cellsOf 53 = 1:=by kernel_rfl
theorem C8 : Tryz.prog.cellsOf 55 = 12:=by kernel_rfl
theorem Qfm : Tryz.prog.bytesOf 85 = 24:=by kernel_rfl
theorem Qfl : Tryz.prog.bytesOf 57 = 80:=by kernel_rfl
theorem Qaq {H : Type} {P : Program} {e : TypeId} : ∀ {l : List (DataW H)} {d : DataW H},d ∈ l → ∀ n ∈ d.weights P e,n ∈ DataW.weightsAll P e l
 | x :: r,d,h,n,hn => by
  simp only [DataW.weightsAll,List.mem_append];rcases List.mem_cons.1 h with rfl | h
  ·exact Or.inl hn
  ·exact Or.inr (Qaq h n hn)
/-- What the reach says of a period's sizes. -/
structure Pd.Light (p : Pd) : Prop where
 o : p.o.length * 24 ≤ 140737488351232
 c : p.c.length * 24 ≤ 140737488351232
 l : ∀ i,i < p.d.length → (p.d.getD i Qw).l.length * 24 ≤ 140737488351232
 d : p.d.length * 80 ≤ 140737488351232
theorem P2 {α : Type} (z : α) (g : Nat → α) {n i : Nat} (h : i < n) : ((List.range n).map g).getD i z = g i:=by simp [List.getD,h]
section
variable {H : Type} {enc : TypeId × Value → H} {w : World} {base : Nat} {spare : Nat → Bool} {held : Bool} {r : Reach} {b0 : Nat} {v : Value} {d : DataW H} {p : List MemPlace}
theorem Dq {P : Program} {α : Type} {t e : TypeId} {sz m : Nat} {v : Value} {x : DataW H × List MemPlace} {f : α → List Value} {p : α → Prop} (d0 : α) (ht : P.underlying t = some (.slice e)) (hC : P.cellsOf e = sz) (hsz : 0 < sz) (hl : ∀ y,(f y).length = sz)
  (hone : ∀ n cs x,DataW.trod enc P w base spare held n e cs = some x → (∀ k ∈ x.1.weights P e,k ≤ reachBytes) → ∃ y,cs = f y ∧ p y) (h : DataW.trod enc P w base spare held m t [v] = some x) (hw : ∀ k ∈ x.1.weights P t,k ≤ reachBytes) :
  ∃ (A : Option Addr) (n cap : Nat) (g : Nat → α),v = .slice A n cap ∧ Qs w A n sz (fun i => f (g i)) ∧ n ≤ cap ∧ cap ≤ maxLen ∧ (A = none → n = 0 ∧ cap = 0) ∧ (∀ i,i < n → p (g i)) ∧ n * P.bytesOf e ≤ reachBytes:=by
 rcases open_slice ht h with ⟨hcs,_⟩ | ⟨a,len,cap,k,n,D,Pl,hcs,hb,hlc,hcm,hk,hx,hi⟩
 ·exact ⟨none,0,0,fun _ => d0,by simpa using hcs,Qs.nil,Nat.le_refl _,Nat.zero_le _,fun _ => ⟨rfl,rfl⟩,fun i hi => absurd hi Qa,by simp⟩
 ·have hlk : len ≤ k := by rw [hk]; split <;> omega
  rw [hx] at hw
  have hbytes : len * P.bytesOf e ≤ reachBytes:=by
   have:=hw ((len + (k - len)) * P.bytesOf e) (by simp [DataW.weights,ht]);exact Nat.le_trans (Nat.mul_le_mul_right _ (Nat.le_add_right _ _)) this
  have each : ∀ i,∃ y : α,i < len → (p y ∧ ∀ j u,(f y)[j]? = some u → w.cell? (a.add (i * sz + j)) = some u):=fun i => by
   by_cases hil : i < len
   ·obtain ⟨cs',hc,htr⟩:=hi i Qa;rw [hC] at hc
    obtain ⟨y,rfl,hp⟩:=hone _ _ _ htr (fun q hq => hw q (by
     simp only [DataW.weights,ht];exact List.mem_cons_of_mem _ (List.mem_append_left _ (Qaq (List.mem_map.2 ⟨i,List.mem_range.2 hil,rfl⟩) q hq))))
    obtain ⟨_,_,hat⟩:=World.cells?_some hc;refine ⟨y,fun _ => ⟨hp,fun j u hu => ?_⟩⟩;have hj : j < sz:=by have:=(List.getElem?_eq_some_iff.1 hu).1;rw [hl] at this;exact this
    rw [← Go.Deep.add_add,hat j hj,hu]
   ·exact ⟨d0,fun h => absurd h hil⟩
  obtain ⟨g,hg⟩:=Classical.axiomOfChoice each;refine ⟨some a,len,cap,g,by simpa using hcs,fun hn => ?_,hlc,hcm,fun h => (by cases h),fun i hi => (hg i hi).1,hbytes⟩;obtain ⟨b,off,spot⟩:=a;have h00 : ((f (g 0))[0]?).isSome:=by rw [List.getElem?_eq_getElem (by rw [hl];exact hsz)];rfl
  obtain ⟨u,hu⟩:=Option.isSome_iff_exists.1 h00;have hc0:=(hg 0 hn).2 0 u hu;have hspot : spot = none:=by simpa [Addr.add] using World.cell?_spot hc0
  subst hspot;have hc0' : w.cell? ⟨b,off,none⟩ = some u:=by simpa [add_plain] using hc0
  refine ⟨b,off,rfl,?_,fun i j v hi hv => ?_⟩
  ·rcases Nat.lt_or_ge b w.heap.size with h1 | h1
   ·exact h1
   ·simp [World.cell?,Array.getElem?_eq_none h1] at hc0'
  ·have:=(hg i hi).2 j v hv;rw [add_plain,← Nat.add_assoc] at this;exact this
theorem Qjn {n : Nat} {cs : List Value} {x : DataW H × List MemPlace} (h : DataW.trod enc Tryz.prog w base spare held n 85 cs = some x) : ∃ y : Lt,cs = [.string y.g,.int .i64 y.n]:=by
 obtain ⟨xs,m,_,_,hlen,hxl,hf⟩:=DataW.trod_struct Tryz.underlying85 h;rw [C5] at hlen
 match cs,hlen with
 | [a,b],_ =>
  obtain ⟨z0,rfl,_⟩:=Rl (Xa hxl (by decide) (hf 0 _ rfl) N9);obtain ⟨z1,rfl,_⟩:=Ks (Xa hxl (by decide) (hf 1 _ rfl) V1);exact ⟨⟨z0,z1⟩,rfl⟩
theorem Pm {m : Nat} {v : Value} {x : DataW H × List MemPlace} (h : DataW.trod enc Tryz.prog w base spare held m 52 [v] = some x) (hw : ∀ k ∈ x.1.weights Tryz.prog 52,k ≤ reachBytes) : ∃ l : List Lt,Zq w v l ∧ l.length * 24 ≤ 140737488351232:=by
 obtain ⟨A,n,cap,g,rfl,h1,h2,h3,h4,_,h6⟩:=Dq (f:=fun y : Lt => [.string y.g,.int .i64 y.n]) (p:=fun _ => True) Yt Tryz.underlying52 C5 (by decide) (fun _ => rfl) (fun n cs x hx _ => by
  obtain ⟨y,hy⟩:=Qjn hx;exact ⟨y,hy,trivial⟩) h hw
 rw [Qfm,Df] at h6;refine ⟨(List.range n).map g,⟨A,cap,by simp,?_,by simpa using h2,h3,by simpa using h4⟩,by simpa using h6⟩;rw [List.length_map,List.length_range];exact h1.congr (fun i hi => by simp only [Zw,Zb];rw [P2 Yt g hi])
theorem Qg4 {n : Nat} {cs : List Value} {x : DataW H × List MemPlace} (h : DataW.trod enc Tryz.prog w base spare held n 57 cs = some x) (hw : ∀ k ∈ x.1.weights Tryz.prog 57,k ≤ reachBytes) :
  ∃ y : Dl × Value,cs = Zr y.1 y.2 ∧ Zq w y.2 y.1.l ∧ y.1.l.length * 24 ≤ 140737488351232:=by
 obtain ⟨xs,m,_,hx,hlen,hxl,hf⟩:=DataW.trod_struct Tryz.underlying57 h;have hxl2 : xs.length = 4:=hxl;rw [hx] at hw
 have hw' : ∀ n ∈ DataW.weightsEach Tryz.prog [51,4,9,52] (xs.map (·.1)),n ≤ reachBytes:=fun n hn => hw n (by
  simp only [DataW.weights,Tryz.underlying57];exact hn)
 rw [C1] at hlen
 match cs,hlen with
 | [c0,c1,c2,c3,c4,c5,c6],_ =>
  obtain ⟨_,h0⟩:=Xa hxl (by decide) (hf 0 _ rfl) Gp;obtain ⟨a,ha⟩:=Si h0;obtain ⟨z4,rfl⟩:=Co (Xa hxl (by decide) (hf 1 _ rfl) Cz);obtain ⟨z5,rfl,_⟩:=Rl (Xa hxl (by decide) (hf 2 _ rfl) N9);have e3 : DataW.trod enc Tryz.prog w base spare held m 52 [c6] = some xs[3]:=Ni Qa (hf 3 _ rfl) (n:=1) Tv;obtain ⟨l,hl,hs⟩:=Pm e3 (fun k hk => hw' k (DataW.weights_mem_each (j:=3) rfl (by rw [List.getElem?_map,List.getElem?_eq_getElem Qa];rfl) k hk));have ha' : [c0,c1,c2,c3] = [.int .i64 a.y,.int .i64 a.m,.bool a.s,.int .i64 a.d]:=ha;simp only [List.cons.injEq] at ha';obtain ⟨rfl,rfl,rfl,rfl,_⟩:=ha'
  exact ⟨(⟨a,z4,z5,l⟩,c6),rfl,hl,hs⟩
theorem Qg9 {m : Nat} {v : Value} {x : DataW H × List MemPlace} (h : DataW.trod enc Tryz.prog w base spare held m 53 [v] = some x) (hw : ∀ k ∈ x.1.weights Tryz.prog 53,k ≤ reachBytes) :
  ∃ l : List Dl,W9 w v l ∧ (∀ i,i < l.length → (l.getD i Qw).l.length * 24 ≤ 140737488351232) ∧ l.length * 80 ≤ 140737488351232:=by
 obtain ⟨A,n,cap,g,rfl,h1,h2,h3,h4,h5,h6⟩:=Dq (f:=fun y : Dl × Value => Zr y.1 y.2) (p:=fun y => Zq w y.2 y.1.l ∧ y.1.l.length * 24 ≤ 140737488351232) (Qw,.slice none 0 0) Tryz.underlying53 C1 (by decide) (fun _ => rfl) (fun n cs x hx hk => Qg4 hx hk) h hw;rw [Qfl,Df] at h6;have hg : ∀ i,i < n → ((List.range n).map (fun i => (g i).1)).getD i Qw = (g i).1:=fun i hi => P2 Qw _ hi
 refine ⟨(List.range n).map (fun i => (g i).1),⟨A,cap,fun i => (g i).2,by simp,?_,by simpa using h2,h3,by simpa using h4,fun i hi => ?_⟩,fun i hi => ?_,by simpa using h6⟩
 ·rw [List.length_map,List.length_range];exact h1.congr (fun i hi => by show Zr _ _ = Zr _ _;rw [hg i hi])
 ·rw [List.length_map,List.length_range] at hi;rw [hg i hi];exact (h5 i hi).1
 ·rw [List.length_map,List.length_range] at hi;rw [hg i hi];exact (h5 i hi).2
theorem Qlu {n : Nat} {cs : List Value} {x : DataW H × List MemPlace} (h : DataW.trod enc Tryz.prog w base spare held n 55 cs = some x) (hw : ∀ k ∈ x.1.weights Tryz.prog 55,k ≤ reachBytes) :
  ∃ y : Pd × Value × Value × Value,cs = Qq y.1 y.2.1 y.2.2.1 y.2.2.2 ∧ Xo w y.1 y.2.1 y.2.2.1 y.2.2.2 ∧ y.1.Light:=by
 obtain ⟨xs,m,_,hx,hlen,hxl,hf⟩:=DataW.trod_struct Tryz.underlying55 h;have hxl2 : xs.length = 6:=hxl;rw [hx] at hw
 have hw' : ∀ n ∈ DataW.weightsEach Tryz.prog [9,51,51,52,53,52] (xs.map (·.1)),n ≤ reachBytes:=fun n hn => hw n (by
  simp only [DataW.weights,Tryz.underlying55];exact hn)
 rw [C8] at hlen
 match cs,hlen with
 | [c0,c1,c2,c3,c4,c5,c6,c7,c8,c9,c10,c11],_ =>
  obtain ⟨z0,rfl,_⟩:=Rl (Xa hxl (by decide) (hf 0 _ rfl) N9);obtain ⟨_,h1⟩:=Xa hxl (by decide) (hf 1 _ rfl) Gp;obtain ⟨_,h2⟩:=Xa hxl (by decide) (hf 2 _ rfl) Gp;obtain ⟨a,ha⟩:=Si h1;obtain ⟨b,hb⟩:=Si h2;have e3 : DataW.trod enc Tryz.prog w base spare held m 52 [c9] = some xs[3]:=Ni Qa (hf 3 _ rfl) (n:=1) Tv;have e4 : DataW.trod enc Tryz.prog w base spare held m 53 [c10] = some xs[4]:=Ni Qa (hf 4 _ rfl) (n:=1) Qf3;have e5 : DataW.trod enc Tryz.prog w base spare held m 52 [c11] = some xs[5]:=Ni Qa (hf 5 _ rfl) (n:=1) Tv;obtain ⟨lo,ho,hso⟩:=Pm e3 (fun k hk => hw' k (DataW.weights_mem_each (j:=3) rfl (by rw [List.getElem?_map,List.getElem?_eq_getElem Qa];rfl) k hk))
  obtain ⟨ld,hd,hsl,hsd⟩:=Qg9 e4 (fun k hk => hw' k (DataW.weights_mem_each (j:=4) rfl (by rw [List.getElem?_map,List.getElem?_eq_getElem Qa];rfl) k hk));obtain ⟨lc,hc,hsc⟩:=Pm e5 (fun k hk => hw' k (DataW.weights_mem_each (j:=5) rfl (by rw [List.getElem?_map,List.getElem?_eq_getElem Qa];rfl) k hk));have ha' : [c1,c2,c3,c4] = [.int .i64 a.y,.int .i64 a.m,.bool a.s,.int .i64 a.d]:=ha;have hb' : [c5,c6,c7,c8] = [.int .i64 b.y,.int .i64 b.m,.bool b.s,.int .i64 b.d]:=hb;simp only [List.cons.injEq] at ha' hb';obtain ⟨rfl,rfl,rfl,rfl,_⟩:=ha';obtain ⟨rfl,rfl,rfl,rfl,_⟩:=hb';exact ⟨(⟨z0,a,b,lo,ld,lc⟩,c9,c10,c11),rfl,⟨ho,hd,hc⟩,⟨hso,hsc,hsl,hsd⟩⟩
theorem Qly (hv : Value.okWide Tryz.prog w r b0 26 v) (h : DataW.Trod enc Tryz.prog w base spare held 26 v d p) (hl : ∀ n ∈ d.weights Tryz.prog 26,n ≤ reachBytes) :
  ∃ l : List Pd,Js w v l ∧ (∀ i,i < l.length → (l.getD i Qh).Light) ∧ l.length * 152 ≤ 140737488351232:=by
 obtain ⟨a,len,cap,rfl⟩:=okWide_slice Tryz.underlying26 hv;obtain ⟨fuel,hf⟩:=h;obtain ⟨A,n,cap,g,e,h1,h2,h3,h4,h5,h6⟩:=Dq (f:=fun y : Pd × Value × Value × Value => Qq y.1 y.2.1 y.2.2.1 y.2.2.2) (p:=fun y => Xo w y.1 y.2.1 y.2.2.1 y.2.2.2 ∧ y.1.Light) (Qh,.slice none 0 0,.slice none 0 0,.slice none 0 0) Tryz.underlying26 C8 (by decide) (fun _ => rfl) (fun n cs x hx hk => Qlu hx hk) hf hl;rw [show Tryz.prog.bytesOf 55 = 152 by kernel_rfl,Df] at h6;have hg : ∀ i,i < n → ((List.range n).map (fun i => (g i).1)).getD i Qh = (g i).1:=fun i hi => P2 Qh _ hi
 rw [e];refine ⟨(List.range n).map (fun i => (g i).1),⟨A,cap,fun i => (g i).2.1,fun i => (g i).2.2.1,fun i => (g i).2.2.2,by simp,?_,by simpa using h2,h3,by simpa using h4,fun i hi => ?_⟩,fun i hi => ?_,by simpa using h6⟩
 ·rw [List.length_map,List.length_range];exact h1.congr (fun i hi => by show Qq _ _ _ _ = Qq _ _ _ _;rw [hg i hi])
 ·rw [List.length_map,List.length_range] at hi;rw [hg i hi];exact (h5 i hi).1
 ·rw [List.length_map,List.length_range] at hi;rw [hg i hi];exact (h5 i hi).2
end
end
section
open Go Go.RowKit Go.Shelf
attribute [local go_sem] Zx
theorem S8 : (Tryz.prog.info? 55).map (fun i => (i.zero,i.size,i.bytes)) = some (some (.agg #[.string ⟨#[]⟩,.int .i64 0,.int .i64 0,.bool false,.int .i64 0,.int .i64 0,.int .i64 0,.bool false,.int .i64 0,.slice none 0 0,.slice none 0 0,.slice none 0 0]),12,152):=by kernel_rfl
theorem Gq (p : Pd) (F G H : Option Addr) (n1 m1 n2 m2 n3 m3 : Nat) : ∀ u ∈ Qq p (.slice F n1 m1) (.slice G n2 m2) (.slice H n3 m3),u.oneCell' = true:=by simp [Qq,Value.oneCell']
/-- Periods in an own row, each with what it holds in own rows. -/
def Wk (W : World) (b : Nat) (v : Value) (n : Nat) (g : Nat → Pd) : Prop:=∃ vo vd vc : Nat → Value,W.ownsRow b 55 12 v n (Q0 (fun i => Qq (g i) (vo i) (vd i) (vc i)) n) ∧ ∀ i,i < n → Yf W b (g i) (vo i) (vd i) (vc i)
theorem Ql1 (W : World) (b : Nat) (g : Nat → Pd) : Wk W b (.slice none 0 0) 0 g:=⟨fun _ => .slice none 0 0,fun _ => .slice none 0 0,fun _ => .slice none 0 0,World.ownsRow_nil _ _ _ _,fun i h => absurd h Qa⟩
theorem Wk.ext {W W' : World} {b n : Nat} {v : Value} {g : Nat → Pd} (h : Wk W b v n g) (x : Qb W W') : Wk W' b v n g:=by
 obtain ⟨vo,vd,vc,h1,h2⟩:=h;exact ⟨vo,vd,vc,Ja h1 x,fun i hi => (h2 i hi).ext x⟩
theorem Wk.le {W : World} {b b' n : Nat} {v : Value} {g : Nat → Pd} (h : Wk W b v n g) (hb : b' ≤ b) : Wk W b' v n g:=by
 obtain ⟨vo,vd,vc,h1,h2⟩:=h;exact ⟨vo,vd,vc,h1.mono hb,fun i hi => (h2 i hi).le hb⟩
theorem Ql0 {W : World} {b : Nat} {v : Value} {l : List Pd} (h : Wk W b v l.length (fun i => l.getD i Qh)) : Js W v l:=by
 obtain ⟨vo,vd,vc,h1,h2⟩:=h;obtain ⟨F,c,g1,g2,g3,g4,g5,_⟩:=Ue (f:=fun i => Qq (l.getD i Qh) (vo i) (vd i) (vc i)) (fun _ => rfl) h1;exact ⟨F,c,vo,vd,vc,g1,g2,g3,g4,g5,fun i hi => Qlr (h2 i hi)⟩
theorem Yf.kept {W w1 : World} {b b' k : Nat} {v' vo vd vc : Value} {p : Pd} {xs : List Value} {row : Option Nat} (h : Yf W b p vo vd vc) (hr : W.ownsRow b' 55 12 v' k xs) (hg : W.grownBy w1 row) (hrow : row = v'.ownBlock) : Yf w1 b p vo vd vc:=by
 subst hrow;obtain ⟨vs,d1,d2⟩:=h.d;exact ⟨World.ownsRow.kept h.o hg (Ly h.o hr (by decide)),⟨vs,World.ownsRow.kept d1 hg (Ly d1 hr (by decide)),fun i hi => World.ownsRow.kept (d2 i hi) hg (Ly (d2 i hi) hr (by decide))⟩,World.ownsRow.kept h.c hg (Ly h.c hr (by decide))⟩
theorem Yf.alloc {W : World} {b : Nat} {vo vd vc : Value} {p : Pd} (h : Yf W b p vo vd vc) (ob : Obj) : Yf (W.alloc ob) b p vo vd vc:=h.ext ((Qb.refl _).alloc ob)
theorem Ql2 {W w1 : World} {b k : Nat} {v v' uo ud uc : Value} {g : Nat → Pd} {vo vd vc : Nat → Value} {ob : Obj} (hO : W.ownsRow b 55 12 v k (Q0 (fun i => Qq (g i) (vo i) (vd i) (vc i)) k)) (hL : ∀ i,i < k → Yf W b (g i) (vo i) (vd i) (vc i)) (hl : Yf W b (g k) uo ud uc)
  (hown : w1.ownsRow b 55 12 v' (k + 1) (Q0 (fun i => Qq (g i) (vo i) (vd i) (vc i)) k ++ Qq (g k) uo ud uc)) (hgrow : (W.alloc ob).grownBy w1 v.ownBlock) : Wk w1 b v' (k + 1) g:=by
 refine ⟨fun i => if i = k then uo else vo i,fun i => if i = k then ud else vd i,fun i => if i = k then uc else vc i,?_,fun i hi => ?_⟩
 ·rw [Ud, Vj (f' := fun i => Qq (g i) (vo i) (vd i) (vc i)) k (fun i hi => by simp [show i ≠ k by omega])]
  simpa using hown
 ·by_cases e : i = k
  ·subst e;simpa using Yf.kept (hl.alloc ob) (hO.alloc ob) hgrow rfl
  ·simpa [e] using Yf.kept ((hL i Qa).alloc ob) (hO.alloc ob) hgrow rfl
theorem Bw (A A' : Option Addr) (ca cb : Nat) (c : Qd) (v : Value) (l : List Pd) (w : World) (hC : Zg w A ca A' cb c) (hP : Js w v l) :
  Calls Tryz.prog 58 #[.agg #[.slice A c.nk ca,.slice A' c.ny cb],v] w fun e w' => e = .returned (.tuple #[.agg #[.slice A c.nk ca,.slice A' c.ny cb],.int .i64 (c.archE l)]) ∧ Qb w w':=by
 have NO:=fun w h => Ov A A' ca cb c w h
 obtain ⟨D,cap,_,_,_,hv9,_⟩:=id hP;subst hv9;have NP:=fun w h1 h2 => Qb2 A A' ca cb c (.slice D l.length cap) l w h1 h2
 obtain ⟨R,hR0⟩:=Qf (c.archE l);rw [← hR0];have HR:=Lib.hid hR0;clear hR0
 go_enter Tryz.func58,Tryz.ntmps58
 go_upto_region 1 with (fail)
 obtain ⟨v,b1,b2,E,B1,B2,hbr1,hbr,hn21,hv,hb1,hb2⟩:=Yb w 25 #[.slice A c.nk ca,.slice A' c.ny cb] 130 #[.slice none 0 0,.slice none 0 0];rw [← hv,← hb2,← hb1];clear hv hb1 hb2;obtain ⟨k0,k1⟩:=B1.c2;have lk:=B1.lt;obtain ⟨ck,hck⟩:=Qf (c.chk);simp only [← hck] at NO;replace hck:=Lib.hid hck;go_upto_region 2 with (go_at_call 64;(with_reducible refine zc (NO _ (hC.ext E)) ?_);rintro e w1 ⟨rfl,h1⟩)
 obtain ⟨v3,hv⟩:=Qf (w1.alloc (.cells #[.slice A c.nk ca,.slice A' c.ny cb] 130));rw [← hv];have h3 : Qb w1 v3:=by rw [hv];exact (Qb.refl _).alloc _
 have H3 : Qc v3 w1.heap.size 130 #[.slice A c.nk ca,.slice A' c.ny cb]:=by rw [hv];exact Qc.new _ _ _
 clear hv;generalize w1.heap.size = b9 at *;replace E:=(E.trans h1).trans h3;replace B2:=(B2.ext h1).ext h3;have C:=hC.ext E;have P:=hP.ext E;clear hC hP k0 k1 lk B1 NO h1 h3;by_cases e0 : ck = 0;rotate_left
 ·have g0 : (ck == 0) = false := beq_eq_false_iff_ne.2 e0;have g0n : (ck != 0) = true := by rw [bne, g0]; rfl
  have hr : R = ck:=by rw [HR.out,hck.out];unfold Qd.archE;rw [if_pos (by rw [← hck.out];exact e0)]
  clear HR e0 hck NP;obtain ⟨k0,k1⟩:=H3.c2;have lk:=H3.lt;have f0:=B2.frozen 0;have f1:=B2.frozen 1;obtain ⟨x0,x1⟩:=B2.c2;have lx:=B2.lt;have H4:=Qo B2 (.slice A c.nk ca) (.slice A' c.ny cb);have EF:=(E.setCell (p:=⟨b2,0,none⟩) hbr (.slice A c.nk ca)).setCell (p:=⟨b2,1,none⟩) hbr (.slice A' c.ny cb);obtain ⟨y0,y1⟩:=H4.c2;go_wp2;refine bodyPost_ret (v:=.tuple #[.agg #[.slice A c.nk ca,.slice A' c.ny cb],.int .i64 ck]) (by simp [results,Tryz.results58,go_sem,y0,y1]) rfl ⟨by rw [hr],EF⟩
 ·subst e0;by_cases hlim : 32 < l.length
  ·have hr : R = 3 := by rw [HR.out]; unfold Qd.archE; rw [if_neg (by rw [← hck.out]; simp), if_pos hlim]
   have g1 : decide (32 < l.length) = true:=decide_eq_true hlim;clear HR hck NP;obtain ⟨k0,k1⟩:=H3.c2;have lk:=H3.lt;have f0:=B2.frozen 0;have f1:=B2.frozen 1;obtain ⟨x0,x1⟩:=B2.c2;have lx:=B2.lt;have H4:=Qo B2 (.slice A c.nk ca) (.slice A' c.ny cb);have EF:=(E.setCell (p:=⟨b2,0,none⟩) hbr (.slice A c.nk ca)).setCell (p:=⟨b2,1,none⟩) hbr (.slice A' c.ny cb);obtain ⟨y0,y1⟩:=H4.c2;go_wp2;refine bodyPost_ret (v:=.tuple #[.agg #[.slice A c.nk ca,.slice A' c.ny cb],.int .i64 3]) (by simp [results,Tryz.results58,go_sem,y0,y1]) rfl ⟨by rw [hr],EF⟩
  have hr : Hid (R = c.persE l):=by unfold Hid;rw [HR.out];unfold Qd.archE;rw [if_neg (by rw [← hck.out];simp),if_neg hlim]
  have g1 : decide (32 < l.length) = false:=decide_eq_false hlim;clear HR hck;obtain ⟨k0,k1⟩:=H3.c2;have lk:=H3.lt;go_upto_region 6 with (fail)
  clear k0 k1 lk;refine Q5 6 [4,5] (fun x => Qb v3 x) mixed rfl ?_;intro vz hvz;have HC:=hvz;refine Qr (g:=3) [0,1,2] HC ?_
  constructor
  refine ⟨fun u hu => ?_,?_⟩
  ·obtain ⟨k0,k1⟩:=(H3.ext hu).c2;have lk:=(H3.ext hu).lt;exact Qj
  refine Qk 3 ?_;go_wp2_with (go_at_call 107;(with_reducible refine zc (NP _ (C.ext HC) (P.ext HC)) ?_);rintro e va ⟨rfl,h4⟩);replace HC:=HC.trans h4;clear h4;refine Qe HC ?_;refine Qn 4 ?_;replace B2:=B2.ext HC;replace E:=E.trans HC;have f0:=B2.frozen 0;have f1:=B2.frozen 1;obtain ⟨x0,x1⟩:=B2.c2;have lx:=B2.lt;have H4:=Qo B2 (.slice A c.nk ca) (.slice A' c.ny cb);have EF:=(E.setCell (p:=⟨b2,0,none⟩) hbr (.slice A c.nk ca)).setCell (p:=⟨b2,1,none⟩) hbr (.slice A' c.ny cb);obtain ⟨y0,y1⟩:=H4.c2;go_wp2;refine Qm ?_;refine Qn 5 ?_;go_wp2;refine Qm ?_;refine Qt ?_;go_wp2;refine bodyPost_ret (v:=.tuple #[.agg #[.slice A c.nk ca,.slice A' c.ny cb],.int .i64 (c.persE l)]) (by simp [results,Tryz.results58,go_sem,y0,y1]) rfl ⟨by rw [hr.out],EF⟩
theorem Em {f : Nat → List Value} {sz : Nat} (hf : ∀ i,(f i).length = sz) {i j : Nat} (hj : j < sz) (u : Value) : ∀ {n},i < n → (Q0 f n).set (i * sz + j) u = Q0 (fun y => if y = i then (f i).set j u else f y) n
 | n + 1,hi => by
  have hl:=X6 (f:=f) (sz:=sz) hf n;rw [Ud,Ud];by_cases e : i = n
  ·subst e;rw [List.set_append_right _ _ Qa,hl,if_pos rfl,show i * sz + j - i * sz = j by omega];rw [Vj (f':=fun y => if y = i then (f i).set j u else f y) i (fun y hy => by simp [show y ≠ i by omega])]
  ·have hin : i < n := by omega
   have hb : i * sz + j < n * sz:=by
    have h1 : (i + 1) * sz ≤ n * sz:=Nat.mul_le_mul_right _ hin;rw [Nat.succ_mul] at h1;omega
   rw [List.set_append_left _ _ Qa,Em hf hj u hin,if_neg Qa]
theorem Qg5 (g : Nat → Dl) (vs : Nat → Value) {n k : Nat} (hk : k < n) (u : Value) : (Q0 (fun i => Zr (g i) (vs i)) n).set (k * 7 + 6) u = Q0 (fun i => Zr (g i) (if i = k then u else vs i)) n:=by
 rw [Em (f:=fun i => Zr (g i) (vs i)) (sz:=7) (fun _ => rfl) (by decide) u hk];refine Vj n (fun i _ => ?_);by_cases e : i = k
 ·subst e;simp [Zr]
 ·simp [e]
theorem Qg6 {w : World} {base q n cap k : Nat} {g : Nat → Dl} {vs : Nat → Value} (h : w.ownsRow base 57 7 (.slice (some ⟨q,0,none⟩) n cap) n (Q0 (fun i => Zr (g i) (vs i)) n)) (hk : k < n) : w.cell? ⟨q,k * 7 + 6,none⟩ = some (vs k):=by
 rw [World.ownsRow.cellAt h (k * 7 + 6) Qa,Uv (f:=fun i => Zr (g i) (vs i)) (sz:=7) (fun _ => rfl) hk (by decide)];rfl
theorem Qha {w : World} {g : Nat → Dl} {vs : Nat → Value} {n : Nat} (h : ∀ i,i < n → Zq w (vs i) (g i).l) : ∀ u ∈ Q0 (fun i => Zr (g i) (vs i)) n,u.oneCell' = true:=fun u hu => by
 obtain ⟨i,hi,hm⟩:=List.mem_flatMap.1 hu;obtain ⟨A,c,hv,_⟩:=h i (List.mem_range.1 hi);rw [hv] at hm;exact C0 _ _ _ _ u hm
theorem Qal {W : World} {base : Nat} {e : TypeId} {sz : Nat} {g n cap : Nat} {xs : List Value} {v : Value} {l : List Lt} (h : Xn W base v l) (hO : W.ownsRow base e sz (.slice (some ⟨g,0,none⟩) n cap) n xs) (hne : 85 ≠ e) (j : Nat) (u : Value) : Xn (W.setCell ⟨g,j,none⟩ u) base v l :=
 World.ownsRow.kept h (World.ownsRow.stored hO j u).2 (Ly h hO hne)
theorem Qgh (v : Value) (l : List Dl) (w : World) (hD : W9 w v l) (hn : l.length ≤ 1000000) :
  Calls Tryz.prog 109 #[v] w fun e w' => ∃ v',e = .returned v' ∧ Qb w w' ∧ ∃ vs : Nat → Value,w'.ownsRow w.heap.size 57 7 v' l.length (Q0 (fun i => Zr (l.getD i Qw) (vs i)) l.length) ∧ ∀ i,i < l.length → Zq w (vs i) (l.getD i Qw).l:=by
 obtain ⟨T,cap,vs,rfl,hT,hcap,hmax,hnil,hat⟩:=hD;have hone:=Qha (g:=fun i => l.getD i Qw) hat;obtain ⟨g,hg⟩:=Qf (fun i => l.getD i Qw);have hg' : ∀ i,l.getD i Qw = g i:=fun i => by rw [hg]
 simp only [hg'] at hT hat hone ⊢;clear hg hg';generalize l.length = n at *;replace hat:=Lib.hid hat;have q23 : ∀ (w : World) (a : Option Addr) (n c n' c' : Nat),(binOp .eql 53 (.slice a n c) (.slice none n' c')).run Tryz.prog w = .ok (.bool a.isNone) w:=fun w a n c n' c' => Lib.run_eql_slice_nil w _ _ a n c n' c' Tryz.underlying53
 cases T with
 | none =>
  obtain ⟨rfl,rfl⟩:=hnil rfl
  go_enter Tryz.func109,Tryz.ntmps109
  go_wp2;go_ret
  first | exact ⟨_,rfl,Qb.refl _,vs,World.ownsRow_nil _ _ _ _,hat.out⟩ | exact ⟨_,rfl,Qb.refl _,vs,World.ownsRow_nil _ _ _ _⟩
 | some a =>
  obtain ⟨i0,hi,hz0,hz1,hz2⟩:=info_parts Ip;have hlen:=X6 (f:=fun i => Zr (g i) (vs i)) (sz:=7) (fun _ => rfl) n;have HN:=fun v (h : Qs v (some a) n 7 (fun i => Zr (g i) (vs i))) => Mi (f:=fun i => Zr (g i) (vs i)) (sz:=7) (fun _ => rfl) (by decide) h
  go_enter Tryz.func109,Tryz.ntmps109
  go_wp2_with (at_builtin;refine wpList_append_own _ rfl _ _ 53 rfl w.heap.size 57 i0 (.agg #[.int .i64 0,.int .i64 0,.bool false,.int .i64 0,.bool false,.string ⟨#[]⟩,.slice none 0 0]) 7 80 Tryz.underlying53 hi hz0 hz1 hz2 rfl (by decide) _ _ _ rfl (World.ownsRow_made w #[] 0 (Nat.le_refl _) (Nat.zero_le _) rfl) a n cap (Q0 (fun i => Zr (g i) (vs i)) n) rfl hlen (HN _ (hT.ext ((Qb.refl _).alloc _)) a rfl) hone (by unfold maxLen;omega) Qa (by simp) ?_;intro v' w1 hown hgrow hnil2);go_ret;refine ⟨v',rfl,((Qb.refl w).alloc _).grown hgrow (fun q hq => by have h : some w.heap.size = some q:=hq;cases h;exact Nat.le_refl _),vs,by simpa using hown,hat.out⟩
theorem Qgu (v : Value) (l : List Dl) (w : World) (hD : W9 w v l) (hn : l.length ≤ 1000000) (hl : ∀ i,i < l.length → (l.getD i Qw).l.length ≤ 1000000) :
  Calls Tryz.prog 62 #[v] w fun e w' => ∃ v',e = .returned v' ∧ Qb w w' ∧ Yu w' w.heap.size v' l.length (fun i => l.getD i Qw):=by
 have NC:=fun w h => Qgh v l w h hn
 obtain ⟨D,cap,vs,rfl,hT,hcap,hmax,_,hat⟩:=id hD;obtain ⟨g,hg⟩:=Qf (fun i => l.getD i Qw);have hg' : ∀ i,l.getD i Qw = g i:=fun i => by rw [hg]
 simp only [hg'] at hT hat hl NC ⊢;clear hg hg' hmax;generalize l.length = n at *;replace hat:=Lib.hid hat;replace hl:=Lib.hid hl
 go_enter Tryz.func62,Tryz.ntmps62
 go_upto_region 2 with (go_at_call 109;(with_reducible refine zc (NC _ hD) ?_);rintro e w1 ⟨v',rfl,h1,vs1,hO1,_⟩;obtain ⟨FO,mO,rfl⟩:=Jt hO1)
 clear NC hD;go_upto_region 3 with (fail)
 go_loopw [9] (fun iv wr => ∃ (k : Nat) (vs' : Nat → Value),k ≤ n ∧ iv = .int .i64 k ∧ Qb w wr ∧ wr.ownsRow w.heap.size 57 7 (.slice FO n mO) n (Q0 (fun i => Zr (g i) (vs' i)) n) ∧ Hid (∀ i,i < k → Xn wr w.heap.size (vs' i) (g i).l)) (fun iv _ => n - (intOf iv).toNat)
 case atStart => exact ⟨0,vs1,Nat.zero_le _,rfl,h1,hO1,fun i h => absurd h Qa⟩
 case round =>
  clear hO1 h1;obtain ⟨k,vs',hk,rfl,hE,hO,hLo⟩:=hrel;obtain ⟨wo,rfl⟩:=Qf wr;by_cases hlt : k < n;rotate_left
  ·obtain rfl : n = k := by omega
   go_wp2;go_ret;exact ⟨_,rfl,hE,vs',hO,hLo.out⟩
  obtain ⟨q,cq,hv,hbq,_⟩:=M1 hO Qa;injection hv with hv1 _ hv2
  subst hv1;subst hv2;obtain ⟨b,off,rfl,hb,hc⟩:=(hT.ext hE) Qa;have c6 : wo.cell? ⟨b,off + k * 7 + 6,none⟩ = some (vs k):=by simpa [Zr] using hc k 6 _ hlt rfl
  have HL:=(hat.out k hlt).ext hE;have hs:=hl.out k hlt;obtain ⟨VL,hvl⟩:=Qf (vs k);rw [← hvl] at c6 HL;clear hc hvl hat hl;obtain ⟨TL,cl,hVL,_⟩:=id HL;subst hVL;have NL:=fun w h => Ob (.slice TL (g k).l.length cl) (g k).l w h hs
  go_upto_region 6 with (go_at_call 59;(with_reducible refine zc (NL _ HL) ?_);rintro e w2 ⟨vl,rfl,h2,hS⟩;obtain ⟨F0,m0,rfl⟩:=Jt hS;have hO2:=Ja hO h2;have fz:=World.ownsRow.frozenAt hO2 (k * 7 + 6);have xz:=Qg6 hO2 hlt;have xl:=Ox hO2)
  have hS2 : Xn w2 w.heap.size (.slice F0 (g k).l.length m0) (g k).l:=U5 hS hE.size;have hO3:=(World.ownsRow.stored hO2 (k * 7 + 6) (.slice F0 (g k).l.length m0)).1;rw [Qg5 g vs' hlt] at hO3;have hE3:=(hE.trans h2).setCell (p:=⟨q,k * 7 + 6,none⟩) hbq (.slice F0 (g k).l.length m0)
  have hL3 : Hid (∀ i,i < k + 1 → Xn (w2.setCell ⟨q,k * 7 + 6,none⟩ (.slice F0 (g k).l.length m0)) w.heap.size (if i = k then .slice F0 (g k).l.length m0 else vs' i) (g i).l):=fun i hi => by
   by_cases e : i = k
   ·subst e;rw [if_pos rfl];exact Qal hS2 hO2 (by decide) _ _
   ·rw [if_neg e];exact Qal (Ja (hLo.out i Qa) h2) hO2 (by decide) _ _
  generalize w2.setCell ⟨q,k * 7 + 6,none⟩ (.slice F0 (g k).l.length m0) = w3 at *;clear fz xz xl hO2 hS hS2 h2 hLo hO NL HL c6 hE hb;go_wp2;exact ⟨⟨k + 1,_,by omega,by go_num,hE3,hO3,hL3⟩,by simp [intOf];omega⟩
theorem Qai {w : World} {base k : Nat} {v : Value} {l : List Lt} (h : w.ownsRow base 85 2 v k (l.flatMap Jw)) : Xn w base v l:=by
 have hk:=h.1;rw [G9] at hk;obtain rfl : k = l.length:=by omega
 exact h
theorem Qah (w : World) (b : Nat) : Xn w b (.slice none 0 0) []:=World.ownsRow_nil _ _ _ _
theorem Qeh (v1 v2 : Value) (a b : List Lt) (w : World) (h1 : Zq w v1 a) (h2 : Zq w v2 b) :
  Calls Tryz.prog 19 #[v1,v2] w fun e w' => ∃ F k m,e = .returned (.tuple #[.slice F k m,.int .i64 (Jc 1 a b)]) ∧ Qb w w' ∧ Xn w' w.heap.size (.slice F k m) (Jj 1 a b):=by
 obtain ⟨T,cap,rfl,hT,hcap,hmax,_⟩:=h1;obtain ⟨S,cm,rfl,hS,hcm,hmm,_⟩:=h2;refine zc (Td T a.length cap (Zb a) S b.length cm (Zb b) w hT hcap (Nat.le_trans hcap (Nat.le_trans hmax (by decide))) hS hcm (Nat.le_trans hcm (Nat.le_trans hmm (by decide)))) ?_;rintro e w' ⟨F,k,c,rfl,hx,ho⟩;exact ⟨F,k,c,rfl,hx,Qai ho⟩
theorem Qm6 (v1 v2 : Value) (a b : List Lt) (w : World) (h1 : Zq w v1 a) (h2 : Zq w v2 b) :
  Calls Tryz.prog 108 #[v1,v2] w fun e w' => ∃ F k m,e = .returned (.tuple #[.slice F k m,.int .i64 (Jc (-1) a b)]) ∧ Qb w w' ∧ Xn w' w.heap.size (.slice F k m) (Jj (-1) a b):=by
 obtain ⟨T,cap,rfl,hT,hcap,hmax,_⟩:=h1;obtain ⟨S,cm,rfl,hS,hcm,hmm,_⟩:=h2;refine zc (Qc7 T a.length cap (Zb a) S b.length cm (Zb b) w hT hcap (Nat.le_trans hcap (Nat.le_trans hmax (by decide))) hS hcm (Nat.le_trans hcm (Nat.le_trans hmm (by decide)))) ?_;rintro e w' ⟨F,k,c,rfl,hx,ho⟩;exact ⟨F,k,c,rfl,hx,Qai ho⟩
theorem Tq (vo vd : Value) (o : List Lt) (d : List Dl) (w : World) (hO : Zq w vo o) (hD : W9 w vd d) (ho : o.length ≤ 1000000) :
  Calls Tryz.prog 61 #[vo,vd] w fun e w' => ∃ v',e = .returned (.tuple #[v',.int .i64 (Qz o d).2]) ∧ Qb w w' ∧ Xn w' w.heap.size v' (Qz o d).1:=by
 obtain ⟨D,cap,vs,rfl,hD,hcap,hmax,_,hat⟩:=hD;have hn : d.length ≤ 9223372036854775807:=Nat.le_trans hcap (Nat.le_trans hmax (by decide));have NC:=Ob vo o w hO ho;obtain ⟨A0,cc0,rfl,_⟩:=id hO;obtain ⟨R,hR⟩:=Qf (Qz o d);rw [← hR];replace hR:=Lib.hid hR
 go_enter Tryz.func61,Tryz.ntmps61
 go_upto_region 2 with (go_at_call 59;(with_reducible refine zc (NC) ?_);rintro e w1 ⟨v0,rfl,h1,hown⟩)
 have hS0 : Xn w1 w.heap.size v0 o:=hown;obtain ⟨F0,m0,rfl⟩:=Jt hown;clear NC hown hO;go_upto_region 3 with (fail)
 obtain ⟨n,hnl⟩:=Qf (d.length);rw [← hnl] at hn hD hat hcap ⊢;replace hnl:=Lib.hid hnl;obtain ⟨g,hg⟩:=Qf (fun i => d.getD i Qw);have hg' : ∀ i,d.getD i Qw = g i:=fun i => by rw [hg]
 have hdr : Hid (∀ s k,k < n → Qz s (d.drop k) = if Jc (Wb (g k).i) s (g k).l ≠ 0 then ([],Jc (Wb (g k).i) s (g k).l) else Qz (Jj (Wb (g k).i) s (g k).l) (d.drop (k + 1))):=fun s k hk => by
  rw [Qc9 s (by rw [← hnl.out];exact hk),hg']
 simp only [hg'] at hD hat;clear hg hg';replace hat:=Lib.hid hat;have hD1:=hD.ext h1
 go_loopw [6,16] (fun sv iv wr => ∃ (k : Nat) (s : List Lt),k ≤ n ∧ iv = .int .i64 k ∧ Xn wr w.heap.size sv s ∧ Hid (R = Qz s (d.drop k)) ∧ Qb w wr) (fun _ i _ => n - (intOf i).toNat)
 case atStart => exact ⟨0,o,Nat.zero_le _,rfl,hS0,by unfold Hid;rw [hR.out];rfl,h1⟩
 case round =>
  clear hS0;obtain ⟨k,s,hk,rfl,hS,hrun,hE⟩:=hrel;obtain ⟨wo,rfl⟩:=Qf wr;by_cases hlt : k < n
  ·obtain ⟨b,off,rfl,hb,hc⟩:=(hD.ext hE) Qa;have hL:=(hat.out k hlt).ext hE;obtain ⟨c0,c1,c2,c3,c4,c5,c6⟩:=zp7 hc hlt;have HS:=Lib.hid (hdr.out s k hlt);obtain ⟨VL,hvl⟩:=Qf (vs k);rw [← hvl] at c6 hL;clear hvl hc hdr hat hR hD hD1;obtain ⟨TL,cl,hVL,_⟩:=id hL;subst hVL;obtain ⟨AS,cs,hsv⟩:=Jt hS;subst hsv;obtain ⟨SD,hSD⟩:=Qf (Qz s (d.drop k));rw [← hSD] at HS hrun;clear hSD;go_upto_region 5 with (fail)
   obtain ⟨v3,hv⟩:=Qf (wo.alloc (.cells #[.int .i64 (g k).on.y,.int .i64 (g k).on.m,.bool (g k).on.s,.int .i64 (g k).on.d,.bool (g k).i,.string (g k).w,.slice TL (g k).l.length cl] 57));rw [← hv];have E3 : Qb wo v3:=by rw [hv];exact (Qb.refl _).alloc _
   have H3 : Qc v3 wo.heap.size 57 #[.int .i64 (g k).on.y,.int .i64 (g k).on.m,.bool (g k).on.s,.int .i64 (g k).on.d,.bool (g k).i,.string (g k).w,.slice TL (g k).l.length cl]:=by rw [hv];exact Qc.new _ _ _
   clear hv;generalize wo.heap.size = b3 at *;clear c0 c1 c2 c3 c4 c5 c6;replace hL:=hL.ext E3;replace hS : Xn v3 w.heap.size _ s:=Ja hS E3;replace hE:=hE.trans E3;clear E3;have NA:=fun h1 h2 => Qeh (.slice AS s.length cs) (.slice TL (g k).l.length cl) s (g k).l v3 h1 h2
   have NB:=fun h1 h2 => Qm6 (.slice AS s.length cs) (.slice TL (g k).l.length cl) s (g k).l v3 h1 h2
   obtain ⟨q0,q1,q2,q3,q4,q5,q6⟩:=Gz H3;have lq:=H3.lt;cases hi : (g k).i
   ·have NX:=NB (Wz hS) hL;rw [hi] at HS;have HS2 : Hid (SD = if Jc (-1) s (g k).l ≠ 0 then ([],Jc (-1) s (g k).l) else Qz (Jj (-1) s (g k).l) (d.drop (k + 1))):=HS;rw [hi] at q4;clear HS hi;generalize hce : Jc (-1) s (g k).l = E1 at *;generalize Jj (-1) s (g k).l = L1 at *;by_cases e0 : E1 = 0
    ·subst e0;have HS3:=Lib.hid (HS2.out.trans (if_neg (by simp)));clear HS2 hce;go_wp2_with (first | (go_at_call 108;(with_reducible refine zc (NX) ?_);rintro e w6 ⟨F6,k6,m6,rfl,h6,L6⟩) | (go_at_fn 108;(with_reducible refine zc (NX) ?_);rintro e w6 ⟨F6,k6,m6,rfl,h6,L6⟩));exact ⟨⟨k + 1,L1,by omega,by go_num,U5 L6 hE.size,Lib.hid (hrun.out.trans HS3.out),hE.trans h6⟩,by simp [intOf];omega⟩
    ·have g0 : (E1 == 0) = false := beq_eq_false_iff_ne.2 e0;have g0n : (E1 != 0) = true := by rw [bne, g0]; rfl
     have HS3:=Lib.hid (hrun.out.trans (HS2.out.trans (if_pos e0)));clear HS2 hrun hce e0;go_wp2_with (first | (go_at_call 108;(with_reducible refine zc (NX) ?_);rintro e w6 ⟨F6,k6,m6,rfl,h6,L6⟩) | (go_at_fn 108;(with_reducible refine zc (NX) ?_);rintro e w6 ⟨F6,k6,m6,rfl,h6,L6⟩));go_ret2;exact ⟨_,by rw [HS3.out];rfl,hE.trans h6,by rw [HS3.out];exact Qah _ _⟩
   ·have NX:=NA (Wz hS) hL;rw [hi] at HS;have HS2 : Hid (SD = if Jc 1 s (g k).l ≠ 0 then ([],Jc 1 s (g k).l) else Qz (Jj 1 s (g k).l) (d.drop (k + 1))):=HS;rw [hi] at q4;clear HS hi;generalize hce : Jc 1 s (g k).l = E1 at *;generalize Jj 1 s (g k).l = L1 at *;by_cases e0 : E1 = 0
    ·subst e0;have HS3:=Lib.hid (HS2.out.trans (if_neg (by simp)));clear HS2 hce;go_wp2_with (first | (go_at_call 19;(with_reducible refine zc (NX) ?_);rintro e w6 ⟨F6,k6,m6,rfl,h6,L6⟩) | (go_at_fn 19;(with_reducible refine zc (NX) ?_);rintro e w6 ⟨F6,k6,m6,rfl,h6,L6⟩));exact ⟨⟨k + 1,L1,by omega,by go_num,U5 L6 hE.size,Lib.hid (hrun.out.trans HS3.out),hE.trans h6⟩,by simp [intOf];omega⟩
    ·have g0 : (E1 == 0) = false := beq_eq_false_iff_ne.2 e0;have g0n : (E1 != 0) = true := by rw [bne, g0]; rfl
     have HS3:=Lib.hid (hrun.out.trans (HS2.out.trans (if_pos e0)));clear HS2 hrun hce e0;go_wp2_with (first | (go_at_call 19;(with_reducible refine zc (NX) ?_);rintro e w6 ⟨F6,k6,m6,rfl,h6,L6⟩) | (go_at_fn 19;(with_reducible refine zc (NX) ?_);rintro e w6 ⟨F6,k6,m6,rfl,h6,L6⟩));go_ret2;exact ⟨_,by rw [HS3.out];rfl,hE.trans h6,by rw [HS3.out];exact Qah _ _⟩
  ·obtain rfl : k = n := by omega
   have hr : Hid (R = (s,0)):=by
    unfold Hid;rw [hrun.out,hnl.out,List.drop_length];rfl
   clear hrun hdr hat hR;go_wp2;go_ret2;exact ⟨_,by rw [hr.out];rfl,hE,by rw [hr.out];exact hS⟩
theorem Ia {W : World} {b : Nat} {t : TypeId} {v0 v1 v2 v3 v4 v5 v6 v7 v8 v9 v10 v11 : Value} (h : Qc W b t #[v0,v1,v2,v3,v4,v5,v6,v7,v8,v9,v10,v11]) (u0 u1 u2 u3 u4 u5 u6 u7 u8 u9 u10 u11 : Value) : Qc ((((((((((((W.setCell ⟨b,0,none⟩ u0).setCell ⟨b,1,none⟩ u1).setCell ⟨b,2,none⟩ u2).setCell ⟨b,3,none⟩ u3).setCell ⟨b,4,none⟩ u4).setCell ⟨b,5,none⟩ u5).setCell ⟨b,6,none⟩ u6).setCell ⟨b,7,none⟩ u7).setCell ⟨b,8,none⟩ u8).setCell ⟨b,9,none⟩ u9).setCell ⟨b,10,none⟩ u10).setCell ⟨b,11,none⟩ u11) b t #[u0,u1,u2,u3,u4,u5,u6,u7,u8,u9,u10,u11]:=by unfold Qc at h ⊢;simp [World.setCell,Array.getElem?_modify,h]
theorem Ee {w W : World} {b : Nat} (h : Qb w W) (hb : w.heap.size ≤ b) (u0 u1 u2 u3 u4 u5 u6 u7 u8 u9 u10 u11 : Value) : Qb w ((((((((((((W.setCell ⟨b,0,none⟩ u0).setCell ⟨b,1,none⟩ u1).setCell ⟨b,2,none⟩ u2).setCell ⟨b,3,none⟩ u3).setCell ⟨b,4,none⟩ u4).setCell ⟨b,5,none⟩ u5).setCell ⟨b,6,none⟩ u6).setCell ⟨b,7,none⟩ u7).setCell ⟨b,8,none⟩ u8).setCell ⟨b,9,none⟩ u9).setCell ⟨b,10,none⟩ u10).setCell ⟨b,11,none⟩ u11):=((((((((((((h.setCell (p:=⟨b,0,none⟩) hb u0).setCell (p:=⟨b,1,none⟩) hb u1).setCell (p:=⟨b,2,none⟩) hb u2).setCell (p:=⟨b,3,none⟩) hb u3).setCell (p:=⟨b,4,none⟩) hb u4).setCell (p:=⟨b,5,none⟩) hb u5).setCell (p:=⟨b,6,none⟩) hb u6).setCell (p:=⟨b,7,none⟩) hb u7).setCell (p:=⟨b,8,none⟩) hb u8).setCell (p:=⟨b,9,none⟩) hb u9).setCell (p:=⟨b,10,none⟩) hb u10).setCell (p:=⟨b,11,none⟩) hb u11)
theorem oth12Q {W : World} {b b' : Nat} {t : TypeId} {cs : Array Value} (h : Qc W b' t cs) (hne : b' ≠ b) (u0 u1 u2 u3 u4 u5 u6 u7 u8 u9 u10 u11 : Value) : Qc ((((((((((((W.setCell ⟨b,0,none⟩ u0).setCell ⟨b,1,none⟩ u1).setCell ⟨b,2,none⟩ u2).setCell ⟨b,3,none⟩ u3).setCell ⟨b,4,none⟩ u4).setCell ⟨b,5,none⟩ u5).setCell ⟨b,6,none⟩ u6).setCell ⟨b,7,none⟩ u7).setCell ⟨b,8,none⟩ u8).setCell ⟨b,9,none⟩ u9).setCell ⟨b,10,none⟩ u10).setCell ⟨b,11,none⟩ u11) b' t cs:=(Qg (Qg (Qg (Qg (Qg (Qg (Qg (Qg (Qg (Qg (Qg (Qg h hne 0 u0) hne 1 u1) hne 2 u2) hne 3 u3) hne 4 u4) hne 5 u5) hne 6 u6) hne 7 u7) hne 8 u8) hne 9 u9) hne 10 u10) hne 11 u11)
theorem P5 {W : World} {b : Nat} {t e : TypeId} {v0 v1 v2 v3 v4 v5 v6 v7 v8 v9 v10 v11 : Value} (h : Qc W b t #[v0,v1,v2,v3,v4,v5,v6,v7,v8,v9,v10,v11]) (hte : t ≠ e) {base size k : Nat} {v : Value} {xs : List Value} (hr : W.ownsRow base e size v k xs) (u0 u1 u2 u3 u4 u5 u6 u7 u8 u9 u10 u11 : Value) : (((((((((((((W.setCell ⟨b,0,none⟩ u0).setCell ⟨b,1,none⟩ u1).setCell ⟨b,2,none⟩ u2).setCell ⟨b,3,none⟩ u3).setCell ⟨b,4,none⟩ u4).setCell ⟨b,5,none⟩ u5).setCell ⟨b,6,none⟩ u6).setCell ⟨b,7,none⟩ u7).setCell ⟨b,8,none⟩ u8).setCell ⟨b,9,none⟩ u9).setCell ⟨b,10,none⟩ u10).setCell ⟨b,11,none⟩ u11)).ownsRow base e size v k xs:=by
 have T0:=h;have T1 : Qc _ _ _ #[u0,v1,v2,v3,v4,v5,v6,v7,v8,v9,v10,v11]:=Wy T0 0 u0;have R1:=Y8 T0 hte hr 0 u0;have T2 : Qc _ _ _ #[u0,u1,v2,v3,v4,v5,v6,v7,v8,v9,v10,v11]:=Wy T1 1 u1;have R2:=Y8 T1 hte R1 1 u1;have T3 : Qc _ _ _ #[u0,u1,u2,v3,v4,v5,v6,v7,v8,v9,v10,v11]:=Wy T2 2 u2;have R3:=Y8 T2 hte R2 2 u2;have T4 : Qc _ _ _ #[u0,u1,u2,u3,v4,v5,v6,v7,v8,v9,v10,v11]:=Wy T3 3 u3;have R4:=Y8 T3 hte R3 3 u3;have T5 : Qc _ _ _ #[u0,u1,u2,u3,u4,v5,v6,v7,v8,v9,v10,v11]:=Wy T4 4 u4;have R5:=Y8 T4 hte R4 4 u4;have T6 : Qc _ _ _ #[u0,u1,u2,u3,u4,u5,v6,v7,v8,v9,v10,v11]:=Wy T5 5 u5
 have R6:=Y8 T5 hte R5 5 u5;have T7 : Qc _ _ _ #[u0,u1,u2,u3,u4,u5,u6,v7,v8,v9,v10,v11]:=Wy T6 6 u6;have R7:=Y8 T6 hte R6 6 u6;have T8 : Qc _ _ _ #[u0,u1,u2,u3,u4,u5,u6,u7,v8,v9,v10,v11]:=Wy T7 7 u7;have R8:=Y8 T7 hte R7 7 u7;have T9 : Qc _ _ _ #[u0,u1,u2,u3,u4,u5,u6,u7,u8,v9,v10,v11]:=Wy T8 8 u8;have R9:=Y8 T8 hte R8 8 u8;have T10 : Qc _ _ _ #[u0,u1,u2,u3,u4,u5,u6,u7,u8,u9,v10,v11]:=Wy T9 9 u9;have R10:=Y8 T9 hte R9 9 u9;have T11 : Qc _ _ _ #[u0,u1,u2,u3,u4,u5,u6,u7,u8,u9,u10,v11]:=Wy T10 10 u10;have R11:=Y8 T10 hte R10 10 u10;have T12 : Qc _ _ _ #[u0,u1,u2,u3,u4,u5,u6,u7,u8,u9,u10,u11]:=Wy T11 11 u11
 have R12:=Y8 T11 hte R11 11 u11;exact R12
theorem Qg7 {W : World} {b : Nat} {t : TypeId} {v0 v1 v2 v3 v4 v5 v6 v7 v8 v9 v10 v11 : Value} (h : Qc W b t #[v0,v1,v2,v3,v4,v5,v6,v7,v8,v9,v10,v11]) (h1 : t ≠ 85) (h2 : t ≠ 57) {base n : Nat} {v : Value} {g : Nat → Dl} (hr : Yu W base v n g) (u0 u1 u2 u3 u4 u5 u6 u7 u8 u9 u10 u11 : Value) : Yu ((((((((((((W.setCell ⟨b,0,none⟩ u0).setCell ⟨b,1,none⟩ u1).setCell ⟨b,2,none⟩ u2).setCell ⟨b,3,none⟩ u3).setCell ⟨b,4,none⟩ u4).setCell ⟨b,5,none⟩ u5).setCell ⟨b,6,none⟩ u6).setCell ⟨b,7,none⟩ u7).setCell ⟨b,8,none⟩ u8).setCell ⟨b,9,none⟩ u9).setCell ⟨b,10,none⟩ u10).setCell ⟨b,11,none⟩ u11) base v n g:=by
 obtain ⟨vs,g1,g2⟩:=hr;exact ⟨vs,P5 h h2 g1 u0 u1 u2 u3 u4 u5 u6 u7 u8 u9 u10 u11,fun i hi => P5 h h1 (g2 i hi) u0 u1 u2 u3 u4 u5 u6 u7 u8 u9 u10 u11⟩
theorem Qc.f12 {W : World} {b : Nat} {t : TypeId} {cs : Array Value} (h : Qc W b t cs) : W.frozen? ⟨b,0,none⟩ = false ∧ W.frozen? ⟨b,1,none⟩ = false ∧ W.frozen? ⟨b,2,none⟩ = false ∧ W.frozen? ⟨b,3,none⟩ = false ∧ W.frozen? ⟨b,4,none⟩ = false ∧ W.frozen? ⟨b,5,none⟩ = false ∧ W.frozen? ⟨b,6,none⟩ = false ∧ W.frozen? ⟨b,7,none⟩ = false ∧ W.frozen? ⟨b,8,none⟩ = false ∧ W.frozen? ⟨b,9,none⟩ = false ∧ W.frozen? ⟨b,10,none⟩ = false ∧ W.frozen? ⟨b,11,none⟩ = false:=⟨h.frozen 0,h.frozen 1,h.frozen 2,h.frozen 3,h.frozen 4,h.frozen 5,h.frozen 6,h.frozen 7,h.frozen 8,h.frozen 9,h.frozen 10,h.frozen 11⟩
/-- A whole period stored: what stays. -/
theorem keep12 {W : World} {b : Nat} {t : TypeId} {v0 v1 v2 v3 v4 v5 v6 v7 v8 v9 v10 v11 : Value} (h : Qc W b t #[v0,v1,v2,v3,v4,v5,v6,v7,v8,v9,v10,v11]) (h1 : t ≠ 85) (h2 : t ≠ 57) (u0 u1 u2 u3 u4 u5 u6 u7 u8 u9 u10 u11 : Value) : ∃ wq : World,wq = ((((((((((((W.setCell ⟨b,0,none⟩ u0).setCell ⟨b,1,none⟩ u1).setCell ⟨b,2,none⟩ u2).setCell ⟨b,3,none⟩ u3).setCell ⟨b,4,none⟩ u4).setCell ⟨b,5,none⟩ u5).setCell ⟨b,6,none⟩ u6).setCell ⟨b,7,none⟩ u7).setCell ⟨b,8,none⟩ u8).setCell ⟨b,9,none⟩ u9).setCell ⟨b,10,none⟩ u10).setCell ⟨b,11,none⟩ u11) ∧ Qc wq b t #[u0,u1,u2,u3,u4,u5,u6,u7,u8,u9,u10,u11] ∧ (∀ {base size k : Nat} {v : Value} {xs : List Value},W.ownsRow base 85 size v k xs → wq.ownsRow base 85 size v k xs) ∧ (∀ {base n : Nat} {v : Value} {g : Nat → Dl},Yu W base v n g → Yu wq base v n g) ∧ (∀ {b' : Nat} {t' : TypeId} {cs : Array Value},Qc W b' t' cs → b' ≠ b → Qc wq b' t' cs) ∧ (∀ {w : World},Qb w W → w.heap.size ≤ b → Qb w wq) :=
 ⟨_,rfl,Ia h u0 u1 u2 u3 u4 u5 u6 u7 u8 u9 u10 u11,fun hr => P5 h h1 hr u0 u1 u2 u3 u4 u5 u6 u7 u8 u9 u10 u11,fun hr => Qg7 h h1 h2 hr u0 u1 u2 u3 u4 u5 u6 u7 u8 u9 u10 u11,fun h' hne => oth12Q h' hne u0 u1 u2 u3 u4 u5 u6 u7 u8 u9 u10 u11,fun e hb => Ee e hb u0 u1 u2 u3 u4 u5 u6 u7 u8 u9 u10 u11⟩
end
section
def Qi {α : Type} (f : Nat → α) (k : Nat) (v : α) : Nat → α:=fun x => if x = k then v else f x
theorem Z2 {α : Type} (f : Nat → α) (k : Nat) (v : α) : Qi f k v k = v:=by simp [Qi]
theorem Zl {α : Type} (f : Nat → α) {k x : Nat} (v : α) (h : x ≠ k) : Qi f k v x = f x:=by simp [Qi,h]
/-- The partners of the ins, those of the outs. -/
abbrev Mt:=(Nat → Int) × (Nat → Int)
abbrev Bl:=Nat → Bool
def Xv (s : Mt) (k i : Nat) : Mt:=(Qi s.1 k i,Qi s.2 i k)
def Z7 (rec : Mt → Bl → Nat → Option Mt × Bl) (i : Nat) : List Nat → Mt → Bl → Option Mt × Bl
 | [],_,b => (none,b)
 | k :: r,m,b =>
  if b k then Z7 rec i r m b
  else if m.1 k < 0 then (some (Xv m k i),Qi b k true)
  else match rec m (Qi b k true) (m.1 k).toNat with
   | (some m',b') => (some (Xv m' k i),b')
   | (none,b') => Z7 rec i r m b'
def Zh (adj : Nat → List Nat) : Nat → Mt → Bl → Nat → Option Mt × Bl
 | 0,_,b,_ => (none,b)
 | n + 1,m,b,i => Z7 (Zh adj n) i (adj i) m b
def J7 : Nat → Bl → Nat
 | 0,_ => 0
 | n + 1,b => J7 n b + (if b n then 0 else 1)
theorem Od : ∀ (n : Nat) (b : Bl),J7 n b ≤ n
 | 0,_ => Nat.le_refl _
 | n + 1,b => by have:=Od n b;unfold J7;split <;> omega
theorem Sb {b b' : Bl} (h : ∀ k,b k = true → b' k = true) : ∀ n,J7 n b' ≤ J7 n b
 | 0 => Nat.le_refl _
 | n + 1 => by
  have:=Sb h n;unfold J7;by_cases e : b n = true
  ·simp [e,h n e,this]
  ·by_cases e' : b' n = true <;> simp [e,e'] <;> omega
theorem Sc {b : Bl} {k : Nat} (hb : b k = false) : ∀ {n : Nat},k < n → J7 n (Qi b k true) + 1 = J7 n b
 | n + 1,hk => by
  unfold J7;by_cases e : n = k
  ·subst e
   have h : J7 n (Qi b n true) = J7 n b:=by
    have : ∀ m,m ≤ n → J7 m (Qi b n true) = J7 m b:=fun m => by
     induction m with
     | zero => intro _;rfl
     | succ m ih => intro hm;unfold J7;rw [ih Qa,Zl b true (show m ≠ n by omega)]
    exact this n (Nat.le_refl _)
   rw [h,Z2,hb];simp
  ·have:=Sc hb (n:=n) Qa;rw [Zl b true e];omega
theorem Sf {b : Bl} : ∀ {n : Nat},J7 n b = 0 → ∀ k,k < n → b k = true
 | n + 1,h,k,hk => by
  unfold J7 at h;by_cases e : k = n
  ·subst e;cases hb : b k
   ·rw [hb] at h;simp at h
   ·rfl
  ·exact Sf (n:=n) Qa k Qa
theorem Cg {rec : Mt → Bl → Nat → Option Mt × Bl} {i : Nat} {m : Mt} {b : Bl} : ∀ {l : List Nat},(∀ k ∈ l,b k = true) → Z7 rec i l m b = (none,b)
 | [],_ => rfl
 | k :: r,h => by
  unfold Z7;rw [if_pos (h k List.mem_cons_self)];exact Cg fun x hx => h x (List.mem_cons_of_mem _ hx)
theorem aug_eq {adj : Nat → List Nat} {ni n : Nat} {m : Mt} {b : Bl} {i : Nat} (hi : ∀ k ∈ adj i,k < ni) (h : J7 ni b ≤ n) : Zh adj n m b i = Z7 (Zh adj (n - 1)) i (adj i) m b:=by
 cases n with
 | zero => rw [Cg fun k hk => Sf (Nat.le_zero.1 h) k (hi k hk)];rfl
 | succ n => rfl
theorem Tj {rec : Mt → Bl → Nat → Option Mt × Bl} (hr : ∀ m b i k,b k = true → (rec m b i).2 k = true) {i : Nat} {m : Mt} : ∀ {l : List Nat} {b : Bl} {k : Nat},b k = true → (Z7 rec i l m b).2 k = true
 | [],_,_,h => h
 | x :: r,b,k,h => by
  have hu : Qi b x true k = true:=by
   by_cases e : k = x
   ·subst e;exact Z2 _ _ _
   ·rw [Zl b true e];exact h
  unfold Z7
  split
  ·exact Tj hr h
  split
  ·exact hu
  ·have h1:=hr m (Qi b x true) (m.1 x).toNat k hu;generalize rec m (Qi b x true) (m.1 x).toNat = R at *;obtain ⟨o,b'⟩:=R
   cases o with
   | none => exact Tj hr h1
   | some m' => exact h1
theorem Lg (adj : Nat → List Nat) : ∀ (n : Nat) (m : Mt) (b : Bl) (i k : Nat),b k = true → (Zh adj n m b i).2 k = true
 | 0,_,_,_,_,h => h
 | n + 1,_,_,_,_,h => Tj (Lg adj n) h
/-- What a search that failed has seen: it is closed. -/
def Rx (adj : Nat → List Nat) (m : Mt) (l : List Nat) (b b' : Bl) : Prop :=
 (∀ k ∈ l,b' k = true) ∧ (∀ k,b k = true → b' k = true) ∧ ∀ k,b' k = true → b k = false → 0 ≤ m.1 k ∧ ∀ k2 ∈ adj (m.1 k).toNat,b' k2 = true
theorem Ti {adj : Nat → List Nat} {ni n : Nat} {m : Mt} {i : Nat} (IH : ∀ b j b',J7 ni b ≤ n → Zh adj n m b j = (none,b') → Rx adj m (adj j) b b') : ∀ {l : List Nat} {b b' : Bl},(∀ k ∈ l,k < ni) → J7 ni b ≤ n + 1 → Z7 (Zh adj n) i l m b = (none,b') → Rx adj m l b b'
 | [],b,b',_,_,h => by
  obtain rfl : b = b':=by simpa [Z7] using h
  exact ⟨fun k hk => absurd hk (by simp),fun k h => h,fun k h h' => by rw [h] at h';exact absurd h' (by decide)⟩
 | k :: r,b,b',hl,hc,h => by
  unfold Z7 at h;have hr : ∀ x ∈ r,x < ni:=fun x hx => hl x (List.mem_cons_of_mem _ hx)
  split at h
  ·rename_i hb
   obtain ⟨h1,h2,h3⟩:=Ti IH hr hc h;refine ⟨fun x hx => ?_,h2,h3⟩;rcases List.mem_cons.1 hx with rfl | hx
   ·exact h2 _ hb
   ·exact h1 x hx
  rename_i hb
  split at h
  ·exact absurd h (by simp)
  rename_i hm
  have hb' : b k = false:=by simpa using hb
  have hcu:=Sc hb' (hl k List.mem_cons_self);have hmono:=Lg adj n m (Qi b k true) (m.1 k).toNat;generalize hR : Zh adj n m (Qi b k true) (m.1 k).toNat = R at *;obtain ⟨o,b2⟩:=R
  cases o with
  | some m' => exact absurd h (by simp)
  | none =>
   obtain ⟨g1,g2,g3⟩:=IH (Qi b k true) (m.1 k).toNat b2 Qa hR
   have hbb : ∀ x,b x = true → Qi b k true x = true:=fun x hx => by
    by_cases e : x = k
    ·subst e;exact Z2 _ _ _
    ·rw [Zl b true e];exact hx
   obtain ⟨h1,h2,h3⟩:=Ti IH hr (Nat.le_trans (Sb (fun x hx => g2 x (hbb x hx)) ni) hc) h;have hk : b' k = true:=h2 k (g2 k (Z2 _ _ _));refine ⟨fun x hx => ?_,fun x hx => h2 x (g2 x (hbb x hx)),fun x hx hx' => ?_⟩
   ·rcases List.mem_cons.1 hx with rfl | hx
    ·exact hk
    ·exact h1 x hx
   ·by_cases e : x = k
    ·subst e;exact ⟨by omega,fun k2 hk2 => h2 k2 (g1 k2 hk2)⟩
    ·cases e2 : b2 x
     ·exact h3 x hx e2
     ·obtain ⟨q1,q2⟩:=g3 x e2 (by rw [Zl b true e];exact hx');exact ⟨q1,fun k2 hk2 => h2 k2 (q2 k2 hk2)⟩
theorem Ci {adj : Nat → List Nat} {ni : Nat} (hadj : ∀ o,∀ k ∈ adj o,k < ni) {m : Mt} : ∀ (n : Nat) (b : Bl) (i : Nat) (b' : Bl),J7 ni b ≤ n → Zh adj n m b i = (none,b') → Rx adj m (adj i) b b'
 | 0,b,i,b',hc,h => by
  obtain rfl : b = b':=by simpa [Zh] using h
  exact ⟨fun k hk => Sf (Nat.le_zero.1 hc) k (hadj i k hk),fun k h => h,fun k h h' => by rw [h] at h';exact absurd h' (by decide)⟩
 | n + 1,b,i,b',hc,h => Ti (fun b j b' => Ci hadj n b j b') (fun k hk => hadj i k hk) hc h
/-- Outs and ins from which no way leads out. -/
def Clo (adj : Nat → List Nat) (fx : Bl) (m : Nat → Int) (A R : Nat → Prop) : Prop:=(∀ o,A o → ∀ k ∈ adj o,R k ∨ fx k = true) ∧ ∀ k,R k → 0 ≤ m k ∧ A (m k).toNat
def Vu (adj : Nat → List Nat) (fx : Bl) (m : Nat → Int) (o : Nat) : Prop:=∃ A R,Clo adj fx m A R ∧ A o
theorem Ay {adj : Nat → List Nat} {ni n : Nat} {m : Mt} {fx : Bl} {i : Nat} (hadj : ∀ o,∀ k ∈ adj o,k < ni) (hc : J7 ni fx ≤ n) (h : (Zh adj n m fx i).1 = none) : Vu adj fx m.1 i:=by
 obtain ⟨b',hb⟩ : ∃ b',Zh adj n m fx i = (none,b'):=⟨(Zh adj n m fx i).2,by rw [← h]⟩;obtain ⟨h1,h2,h3⟩:=Ci hadj n fx i b' hc hb;refine ⟨fun o => o = i ∨ ∃ k,b' k = true ∧ fx k = false ∧ (m.1 k).toNat = o,fun k => b' k = true ∧ fx k = false,⟨fun o ho k hk => ?_,fun k hk => ?_⟩,.inl rfl⟩
 ·have hk' : b' k = true:=by
   rcases ho with rfl | ⟨k0,g1,g2,rfl⟩
   ·exact h1 k hk
   ·exact (h3 k0 g1 g2).2 k hk
  cases e : fx k
  ·exact .inl ⟨hk',e⟩
  ·exact .inr rfl
 ·exact ⟨(h3 k hk.1 hk.2).1,.inr ⟨k,hk.1,hk.2,rfl⟩⟩
theorem Af {adj : Nat → List Nat} {fx : Bl} {m : Mt} {A R : Nat → Prop} (h : Clo adj fx m.1 A R) : ∀ (n : Nat) (b : Bl) (i : Nat),(∀ k,fx k = true → b k = true) → A i → (Zh adj n m b i).1 = none
 | 0,_,_,_,_ => rfl
 | n + 1,b,i,hb,hi => by
  have go : ∀ (l : List Nat) (b : Bl),(∀ k ∈ l,k ∈ adj i) → (∀ k,fx k = true → b k = true) → (Z7 (Zh adj n) i l m b).1 = none:=fun l => by
   induction l with
   | nil => intro b _ _;rfl
   | cons k r ih =>
    intro b hl hb;have hr : ∀ x ∈ r,x ∈ adj i:=fun x hx => hl x (List.mem_cons_of_mem _ hx)
    unfold Z7
    split
    ·exact ih b hr hb
    rename_i hbk
    have hR : R k:=by
     rcases h.1 i hi k (hl k List.mem_cons_self) with g | g
     ·exact g
     ·exact absurd (hb k g) hbk
    obtain ⟨g1,g2⟩:=h.2 k hR;rw [if_neg Qa]
    have hu : ∀ x,fx x = true → Qi b k true x = true:=fun x hx => by
     by_cases e : x = k
     ·subst e;exact Z2 _ _ _
     ·rw [Zl b true e];exact hb x hx
    have hn:=Af h n (Qi b k true) (m.1 k).toNat hu g2;have hm:=fun x hx => Lg adj n m (Qi b k true) (m.1 k).toNat x (hu x hx)
    generalize Zh adj n m (Qi b k true) (m.1 k).toNat = Q at *;obtain ⟨o,b2⟩:=Q;obtain rfl : o = none:=hn;exact ih b2 hr hm
  exact go (adj i) b (fun k hk => hk) hb
theorem Ae {adj : Nat → List Nat} {fx : Bl} {m : Mt} {A R : Nat → Prop} (h : Clo adj fx m.1 A R) : ∀ (n : Nat) (b : Bl) (i : Nat) (m' : Mt),(∀ k,fx k = true → b k = true) → (Zh adj n m b i).1 = some m' → ∀ k,R k → m'.1 k = m.1 k
 | 0,_,_,_,_,hs => by simp [Zh] at hs
 | n + 1,b,i,m',hb,hs => by
  have go : ∀ (l : List Nat) (b : Bl),(∀ k,fx k = true → b k = true) → (Z7 (Zh adj n) i l m b).1 = some m' → ∀ k,R k → m'.1 k = m.1 k:=fun l => by
   induction l with
   | nil => intro b _ hs;simp [Z7] at hs
   | cons k r ih =>
    intro b hb hs;unfold Z7 at hs
    split at hs
    ·exact ih b hb hs
    split at hs
    ·rename_i hm
     obtain rfl : Xv m k i = m':=by simpa using hs
     intro x hx;have:=(h.2 x hx).1;exact Zl _ _ (fun e => by subst e;omega)
    rename_i hm
    have hu : ∀ x,fx x = true → Qi b k true x = true:=fun x hx => by
     by_cases e : x = k
     ·subst e;exact Z2 _ _ _
     ·rw [Zl b true e];exact hb x hx
    have hk:=Ae h n (Qi b k true) (m.1 k).toNat;have hnn:=Af h n (Qi b k true) (m.1 k).toNat hu;have hm2:=fun x hx => Lg adj n m (Qi b k true) (m.1 k).toNat x (hu x hx)
    generalize Zh adj n m (Qi b k true) (m.1 k).toNat = Q at *;obtain ⟨o,b2⟩:=Q
    cases o with
    | none => exact ih b2 hm2 hs
    | some m1 =>
     obtain rfl : Xv m1 k i = m':=by simpa using hs
     intro x hx;have h1:=hk m1 hu rfl x hx;by_cases e : x = k
     ·subst e;exact absurd (hnn (h.2 x hx).2) (by simp)
     ·exact (Zl _ _ e).trans h1
  exact go (adj i) b hb hs
theorem Qg2 {adj : Nat → List Nat} {fx : Bl} {m m' : Mt} {n i o : Nat} (hs : (Zh adj n m fx i).1 = some m') (h : Vu adj fx m.1 o) : Vu adj fx m'.1 o:=by
 obtain ⟨A,R,hc,ho⟩:=h;refine ⟨A,R,⟨hc.1,fun k hk => ?_⟩,ho⟩;rw [Ae hc n fx i m' (fun _ h => h) hs k hk];exact hc.2 k hk
/-- How many ins have a partner; how many have that one. -/
def J2 : Nat → (Nat → Int) → Int → Nat
 | 0,_,_ => 0
 | n + 1,m,x => J2 n m x + (if m n = x then 1 else 0)
theorem Ai {m m' : Nat → Int} {x : Int} : ∀ {n : Nat},(∀ k,k < n → m k = m' k) → J2 n m x = J2 n m' x
 | 0,_ => rfl
 | n + 1,h => by unfold J2;rw [Ai fun k hk => h k Qa,h n Qa]
theorem Oc (m : Nat → Int) {k : Nat} (v x : Int) : ∀ {n : Nat},k < n → J2 n (Qi m k v) x + (if m k = x then 1 else 0) = J2 n m x + (if v = x then 1 else 0)
 | n + 1,hk => by
  unfold J2;by_cases e : n = k
  ·subst e;rw [Ai (m':=m) fun j hj => Zl m v Qa,Z2];omega
  ·have:=Oc m v x (n:=n) (k:=k) Qa;rw [Zl m v e];omega
theorem Kp {m : Nat → Int} {x : Int} : ∀ {n : Nat},0 < J2 n m x → ∃ k,k < n ∧ m k = x
 | n + 1,h => by
  unfold J2 at h;by_cases e : m n = x
  ·exact ⟨n,by omega,e⟩
  ·rw [if_neg e] at h;obtain ⟨k,h1,h2⟩:=Kp (n:=n) Qa;exact ⟨k,by omega,h2⟩
theorem Lk {m : Nat → Int} {x : Int} {k : Nat} : ∀ {n : Nat},k < n → m k = x → 0 < J2 n m x
 | n + 1,hk,h => by
  unfold J2;by_cases e : k = n
  ·subst e;rw [if_pos h];omega
  ·have:=Lk (n:=n) (show k < n by omega) h;omega
theorem Mh {m : Nat → Int} {x : Int} {k j : Nat} : ∀ {n : Nat},J2 n m x ≤ 1 → k < n → j < n → m k = x → m j = x → k = j
 | n + 1,h,hk,hj,h1,h2 => by
  unfold J2 at h;by_cases e : m n = x
  ·rw [if_pos e] at h;by_cases e1 : k = n
   ·by_cases e2 : j = n
    ·omega
    ·have:=Lk (n:=n) (show j < n by omega) h2;omega
   ·have:=Lk (n:=n) (show k < n by omega) h1;omega
  ·have h3 : k ≠ n:=fun e' => e (by rw [← e'];exact h1)
   have h4 : j ≠ n:=fun e' => e (by rw [← e'];exact h2)
   exact Mh (n:=n) Qa Qa Qa h1 h2
/-- The ins that are not fixed and have a partner. -/
def Zs : Nat → Bl → (Nat → Int) → Nat
 | 0,_,_ => 0
 | n + 1,fx,m => Zs n fx m + (if fx n = false ∧ 0 ≤ m n then 1 else 0)
theorem Rm {fx fx' : Bl} {m m' : Nat → Int} : ∀ {n : Nat},(∀ k,k < n → fx k = fx' k ∧ (fx k = false → (0 ≤ m k ↔ 0 ≤ m' k))) → Zs n fx m = Zs n fx' m'
 | 0,_ => rfl
 | n + 1,h => by
  unfold Zs;rw [Rm fun k hk => h k Qa];obtain ⟨h1,h2⟩:=h n Qa;rw [← h1]
  congr 1
  by_cases e : fx n = false
  ·simp [e,h2 e]
  ·simp [e]
theorem Ro {fx : Bl} (m : Nat → Int) {k : Nat} (v : Int) (hf : fx k = false) : ∀ {n : Nat},k < n → Zs n fx (Qi m k v) + (if 0 ≤ m k then 1 else 0) = Zs n fx m + (if 0 ≤ v then 1 else 0)
 | n + 1,hk => by
  unfold Zs;by_cases e : n = k
  ·subst e;rw [Rm (fx':=fx) (m':=m) fun j hj => ⟨rfl,fun _ => by rw [Zl m v (show j ≠ n by omega)]⟩,Z2];simp [hf];omega
  ·have:=Ro m v hf (n:=n) (k:=k) Qa;rw [Zl m v e];omega
theorem Dv {fx : Bl} {m : Nat → Int} {k : Nat} (hf : fx k = false) (hm : 0 ≤ m k) : ∀ {n : Nat},k < n → Zs n (Qi fx k true) m + 1 = Zs n fx m
 | n + 1,hk => by
  unfold Zs;by_cases e : n = k
  ·subst e;rw [Rm (fx':=fx) (m':=m) fun j hj => ⟨Zl fx true (show j ≠ n by omega),fun _ => Iff.rfl⟩,Z2];simp [hf,hm]
  ·have:=Dv hf hm (n:=n) (k:=k) Qa;rw [Zl fx true e];omega
/-- What a search that succeeded has made. -/
structure Vy (adj : Nat → List Nat) (ni : Nat) (fx : Bl) (m : Mt) (b : Bl) (i : Nat) (m' : Mt) : Prop where
 k : ∀ k,b k = true → m'.1 k = m.1 k
 a : ∀ k,m'.1 k = m.1 k ∨ (0 ≤ m'.1 k ∧ k ∈ adj (m'.1 k).toNat)
 c : ∀ x : Int,0 ≤ x → J2 ni m'.1 x = J2 ni m.1 x + (if x = i then 1 else 0)
 p : ∀ k,0 ≤ m.1 k → 0 ≤ m'.1 k
 s : Zs ni fx m'.1 = Zs ni fx m.1 + 1
theorem Qnw {adj : Nat → List Nat} {ni : Nat} {fx b : Bl} {m : Mt} {k i : Nat} (hk : k ∈ adj i) (hn : k < ni) (hb : b k = false) (hf : ∀ x,fx x = true → b x = true) (hm : m.1 k < 0) : Vy adj ni fx m b i (Xv m k i):=by
 have hfk : fx k = false:=by
  cases e : fx k
  ·rfl
  ·rw [hf k e] at hb;exact absurd hb (by decide)
 refine ⟨fun x hx => Zl _ _ (fun e => by subst e;rw [hx] at hb;exact absurd hb (by decide)),fun x => ?_,fun x hx => ?_,fun x hx => ?_,?_⟩
 ·by_cases e : x = k
  ·subst e
   right
   show 0 ≤ Qi m.1 x i x ∧ x ∈ adj (Qi m.1 x i x).toNat
   rw [Z2];exact ⟨by omega,by simpa using hk⟩
  ·exact .inl (Zl _ _ e)
 ·have := Oc m.1 (i : Int) x hn;rw [if_neg (show m.1 k ≠ x by omega)] at this
  show J2 ni (Qi m.1 k i) x = _
  by_cases e : x = i
  ·subst e;simpa using this
  ·rw [if_neg (fun e' => e e'.symm)] at this;simpa [e] using this
 ·show 0 ≤ Qi m.1 k i x
  by_cases e : x = k
  ·subst e;rw [Z2];omega
  ·rw [Zl _ _ e];exact hx
 ·have:=Ro m.1 (i : Int) hfk hn;rw [if_neg (show ¬ 0 ≤ m.1 k by omega),if_pos (show (0 : Int) ≤ i by omega)] at this;exact this
theorem Qnx {adj : Nat → List Nat} {ni : Nat} {fx b : Bl} {m m1 : Mt} {k i : Nat} (hk : k ∈ adj i) (hn : k < ni) (hb : b k = false) (hf : ∀ x,fx x = true → b x = true) (hm : ¬ m.1 k < 0) (W : Vy adj ni fx m (Qi b k true) (m.1 k).toNat m1) : Vy adj ni fx m b i (Xv m1 k i):=by
 have hfk : fx k = false:=by
  cases e : fx k
  ·rfl
  ·rw [hf k e] at hb;exact absurd hb (by decide)
 have h1 : m1.1 k = m.1 k:=W.k k (Z2 _ _ _);have hp : ((m.1 k).toNat : Int) = m.1 k:=by omega
 refine ⟨fun x hx => ?_,fun x => ?_,fun x hx => ?_,fun x hx => ?_,?_⟩
 ·have e : x ≠ k := fun e => by subst e; rw [hx] at hb; exact absurd hb (by decide)
  exact (Zl _ _ e).trans (W.k x (by rw [Zl b true e];exact hx))
 ·by_cases e : x = k
  ·subst e
   right
   show 0 ≤ Qi m1.1 x i x ∧ x ∈ adj (Qi m1.1 x i x).toNat
   rw [Z2];exact ⟨by omega,by simpa using hk⟩
  ·show Qi m1.1 k i x = _ ∨ (0 ≤ Qi m1.1 k i x ∧ x ∈ adj (Qi m1.1 k i x).toNat)
   rw [Zl _ _ e];exact W.a x
 ·have h2:=Oc m1.1 (i : Int) x hn;have h3:=W.c x hx;rw [hp] at h3;rw [h1] at h2
  show J2 ni (Qi m1.1 k i) x = _
  by_cases e : x = i
  ·subst e;by_cases e2 : m.1 k = (i : Int)
   ·simp [e2] at h2 h3;simp;omega
   ·have e3 : ¬ (i : Int) = m.1 k:=fun h => e2 h.symm
    simp [e2,e3] at h2 h3;simp;omega
  ·have e' : ¬ (i : Int) = x:=fun h => e h.symm
   by_cases e2 : m.1 k = x
   ·subst e2;simp [e,e'] at h2 h3 ⊢;omega
   ·have e3 : ¬ x = m.1 k:=fun h => e2 h.symm
    simp [e,e',e2,e3] at h2 h3 ⊢;omega
 ·show 0 ≤ Qi m1.1 k i x
  by_cases e : x = k
  ·subst e;rw [Z2];omega
  ·rw [Zl _ _ e];exact W.p x hx
 ·have h2 := Ro m1.1 (i : Int) hfk hn;have h3 := W.s;rw [h1, if_pos (show 0 ≤ m.1 k by omega), if_pos (show (0 : Int) ≤ i by omega)] at h2
  show Zs ni fx (Qi m1.1 k i) = _
  omega
theorem Tn {adj : Nat → List Nat} {ni : Nat} {fx : Bl} (hadj : ∀ o,∀ k ∈ adj o,k < ni) {m : Mt} : ∀ (n : Nat) (b : Bl) (i : Nat) (m' : Mt),(∀ k,fx k = true → b k = true) → (Zh adj n m b i).1 = some m' → Vy adj ni fx m b i m'
 | 0,_,_,_,_,hs => by simp [Zh] at hs
 | n + 1,b,i,m',hb,hs => by
  have go : ∀ (l : List Nat) (b0 b : Bl),(∀ k ∈ l,k ∈ adj i) → (∀ k,fx k = true → b0 k = true) → (∀ k,b0 k = true → b k = true) → (Z7 (Zh adj n) i l m b).1 = some m' → Vy adj ni fx m b0 i m':=fun l => by
   induction l with
   | nil => intro b0 b _ _ _ hs;simp [Z7] at hs
   | cons k r ih =>
    intro b0 b hl h0 hb hs;have hr : ∀ x ∈ r,x ∈ adj i:=fun x hx => hl x (List.mem_cons_of_mem _ hx)
    have hki:=hl k List.mem_cons_self;unfold Z7 at hs
    split at hs
    ·exact ih b0 b hr h0 hb hs
    rename_i hbk
    have hbk' : b k = false:=by simpa using hbk
    have hbk0 : b0 k = false:=by
     cases e : b0 k
     ·rfl
     ·rw [hb k e] at hbk';exact absurd hbk' (by decide)
    have weak : ∀ {m'' : Mt},Vy adj ni fx m b i m'' → Vy adj ni fx m b0 i m'':=fun W => ⟨fun x hx => W.k x (hb x hx),W.a,W.c,W.p,W.s⟩
    have hfb : ∀ x,fx x = true → b x = true:=fun x hx => hb x (h0 x hx)
    split at hs
    ·rename_i hm
     obtain rfl : Xv m k i = m':=by simpa using hs
     exact weak (Qnw hki (hadj i k hki) hbk' hfb hm)
    rename_i hm
    have hu : ∀ x,b x = true → Qi b k true x = true:=fun x hx => by
     by_cases e : x = k
     ·subst e;exact Z2 _ _ _
     ·rw [Zl b true e];exact hx
    have hk:=fun m1 => Tn (fx:=fx) hadj (m:=m) n (Qi b k true) (m.1 k).toNat m1 (fun x hx => hu x (hfb x hx))
    have hm2:=fun x hx => Lg adj n m (Qi b k true) (m.1 k).toNat x (hu x hx)
    generalize Zh adj n m (Qi b k true) (m.1 k).toNat = Q at *;obtain ⟨o,b2⟩:=Q
    cases o with
    | none => exact ih b0 b2 hr h0 (fun x hx => hm2 x (hb x hx)) hs
    | some m1 =>
     obtain rfl : Xv m1 k i = m':=by simpa using hs
     exact weak (Qnx hki (hadj i k hki) hbk' hfb hm (hk m1 rfl))
  exact go (adj i) b b (fun k hk => hk) hb (fun _ h => h) hs
/-- The outs' side of a state. -/
structure Inv (ni : Nat) (m : Mt) : Prop where
 o : ∀ o : Nat,0 ≤ m.2 o → (m.2 o).toNat < ni ∧ m.1 (m.2 o).toNat = o
 i : ∀ k,k < ni → 0 ≤ m.1 k → 0 ≤ m.2 (m.1 k).toNat
structure Ga (ni : Nat) (m : Mt) (b : Bl) (i : Nat) (m' : Mt) : Prop where
 o : ∀ o : Nat,0 ≤ m'.2 o → (m'.2 o).toNat < ni ∧ m'.1 (m'.2 o).toNat = o
 b : 0 ≤ m'.2 i ∧ b (m'.2 i).toNat = false
 p : ∀ o : Nat,0 ≤ m.2 o → 0 ≤ m'.2 o
theorem Qd2 {ni : Nat} {b : Bl} {m : Mt} {k i : Nat} (hn : k < ni) (hb : b k = false) (ho : ∀ o : Nat,0 ≤ m.2 o → (m.2 o).toNat < ni ∧ m.1 (m.2 o).toNat = o) (hk : ∀ o : Nat,o ≠ i → m.2 o ≠ k) : Ga ni m b i (Xv m k i):=by
 refine ⟨fun o h => ?_,?_,fun o h => ?_⟩
 ·have h' : 0 ≤ Qi m.2 i k o:=h
  show (Qi m.2 i k o).toNat < ni ∧ Qi m.1 k i (Qi m.2 i k o).toNat = o
  by_cases e : o = i
  ·subst e;rw [Z2];exact ⟨by omega,by rw [show ((k : Int)).toNat = k by omega,Z2]⟩
  ·rw [Zl _ _ e] at h' ⊢;obtain ⟨h1,h2⟩:=ho o h';have h3:=hk o e;exact ⟨h1,(Zl _ _ Qa).trans h2⟩
 ·show 0 ≤ Qi m.2 i k i ∧ b (Qi m.2 i k i).toNat = false
  rw [Z2];exact ⟨by omega,by rw [show ((k : Int)).toNat = k by omega];exact hb⟩
 ·show 0 ≤ Qi m.2 i k o
  by_cases e : o = i
  ·subst e;rw [Z2];omega
  ·rw [Zl _ _ e];exact h
theorem Tp {adj : Nat → List Nat} {ni : Nat} (hadj : ∀ o,∀ k ∈ adj o,k < ni) {m : Mt} (ho : ∀ o : Nat,0 ≤ m.2 o → (m.2 o).toNat < ni ∧ m.1 (m.2 o).toNat = o) : ∀ (n : Nat) (b : Bl) (i : Nat) (m' : Mt),(Zh adj n m b i).1 = some m' → Ga ni m b i m' ∧ ∀ k,b k = true → m'.1 k = m.1 k
 | 0,_,_,_,hs => by simp [Zh] at hs
 | n + 1,b,i,m',hs => by
  have go : ∀ (l : List Nat) (b0 b : Bl),(∀ k ∈ l,k ∈ adj i) → (∀ k,b0 k = true → b k = true) → (Z7 (Zh adj n) i l m b).1 = some m' → Ga ni m b0 i m' ∧ ∀ k,b0 k = true → m'.1 k = m.1 k:=fun l => by
   induction l with
   | nil => intro b0 b _ _ hs;simp [Z7] at hs
   | cons k r ih =>
    intro b0 b hl hb hs;have hr : ∀ x ∈ r,x ∈ adj i:=fun x hx => hl x (List.mem_cons_of_mem _ hx)
    have hki:=hadj i k (hl k List.mem_cons_self);unfold Z7 at hs
    split at hs
    ·exact ih b0 b hr hb hs
    rename_i hbk
    have hbk0 : b0 k = false:=by
     cases e : b0 k
     ·rfl
     ·exact absurd (hb k e) hbk
    have hne : ∀ x,b0 x = true → x ≠ k:=fun x hx e => by subst e;rw [hx] at hbk0;exact absurd hbk0 (by decide)
    split at hs
    ·rename_i hm
     obtain rfl : Xv m k i = m':=by simpa using hs
     refine ⟨Qd2 hki hbk0 ho fun o _ h => ?_,fun x hx => Zl _ _ (hne x hx)⟩;have:=(ho o Qa).2;rw [h,show ((k : Int)).toNat = k by omega] at this;omega
    rename_i hm
    have hk:=Tp hadj ho n (Qi b k true) (m.1 k).toNat;have hm2:=fun x hx => Lg adj n m (Qi b k true) (m.1 k).toNat x hx
    generalize Zh adj n m (Qi b k true) (m.1 k).toNat = Q at *;obtain ⟨o,b2⟩:=Q;have hu : ∀ x,b0 x = true → Qi b k true x = true:=fun x hx => by rw [Zl b true (hne x hx)];exact hb x hx
    cases o with
    | none => exact ih b0 b2 hr (fun x hx => hm2 x (hu x hx)) hs
    | some m1 =>
     obtain rfl : Xv m1 k i = m':=by simpa using hs
     obtain ⟨W,hW⟩:=hk m1 rfl;have hkk:=hW k (Z2 _ _ _)
     have W2:=Qd2 (b:=b0) (m:=m1) (i:=i) hki hbk0 W.o fun o _ h => by
      have h1:=(W.o o Qa).2;rw [h,show ((k : Int)).toNat = k by omega,hkk] at h1;have h2:=W.b.2;rw [show (m.1 k).toNat = o by omega,h,show ((k : Int)).toNat = k by omega,Z2] at h2;exact absurd h2 (by decide)
     refine ⟨⟨W2.o,W2.b,fun o h => W2.p o (W.p o h)⟩,fun x hx => (Zl _ _ (hne x hx)).trans (hW x (hu x hx))⟩
  exact go (adj i) b b (fun k hk => hk) (fun _ h => h) hs
/-- A matching, kept as the ins' partners: those that are not fixed have partners among D. -/
structure Us (adj : Nat → List Nat) (ni : Nat) (D : Nat → Prop) (fx : Bl) (m : Nat → Int) : Prop where
 a : ∀ k,k < ni → fx k = false → 0 ≤ m k → D (m k).toNat ∧ k ∈ adj (m k).toNat
 u : ∀ x : Int,0 ≤ x → J2 ni m x ≤ 1
 f : ∀ k,k < ni → fx k = true → 0 ≤ m k → ¬ D (m k).toNat
def Wi (ni : Nat) (m : Nat → Int) (o : Nat) : Prop:=J2 ni m (o : Int) = 0
structure Ub (adj : Nat → List Nat) (D : Nat → Prop) (fx : Bl) (M : List (Nat × Nat)) : Prop where
 a : ∀ p ∈ M,D p.1 ∧ p.2 ∈ adj p.1 ∧ fx p.2 = false
 o : M.Pairwise fun p q => p.1 ≠ q.1
 i : M.Pairwise fun p q => p.2 ≠ q.2
def K3 (fx : Bl) (m : Nat → Int) : Nat → List (Nat × Nat)
 | 0 => []
 | n + 1 => K3 fx m n ++ (if fx n = false ∧ 0 ≤ m n then [((m n).toNat,n)] else [])
theorem Qdg (fx : Bl) (m : Nat → Int) : ∀ n,(K3 fx m n).length = Zs n fx m
 | 0 => rfl
 | n + 1 => by unfold K3 Zs;rw [List.length_append,Qdg fx m n];split <;> rfl
theorem Hw {fx : Bl} {m : Nat → Int} {p : Nat × Nat} : ∀ {n : Nat},p ∈ K3 fx m n → p.2 < n ∧ fx p.2 = false ∧ 0 ≤ m p.2 ∧ p.1 = (m p.2).toNat
 | n + 1,h => by
  unfold K3 at h;rcases List.mem_append.1 h with h | h
  ·obtain ⟨h1,h2⟩:=Hw h;exact ⟨by omega,h2⟩
  ·split at h
   ·rename_i e
    rw [List.mem_singleton] at h;subst h;exact ⟨by simp,e.1,e.2,rfl⟩
   ·exact absurd h (by simp)
theorem Dw (fx : Bl) (m : Nat → Int) : ∀ n,(K3 fx m n).Pairwise fun p q => p.2 ≠ q.2
 | 0 => List.Pairwise.nil
 | n + 1 => by
  unfold K3;refine List.pairwise_append.2 ⟨Dw fx m n,by split <;> simp,fun p hp q hq => ?_⟩;have h1:=(Hw hp).1
  split at hq
  ·rw [List.mem_singleton] at hq;subst hq;show p.2 ≠ n;omega
  ·exact absurd hq (by simp)
theorem Ba {adj : Nat → List Nat} {ni : Nat} {D : Nat → Prop} {fx : Bl} {m : Nat → Int} (V : Us adj ni D fx m) : ∃ M,Ub adj D fx M ∧ M.length = Zs ni fx m:=by
 refine ⟨K3 fx m ni,⟨fun p hp => ?_,(Dw fx m ni).imp_of_mem fun {p q} hp hq hne e => ?_,Dw fx m ni⟩,Qdg fx m ni⟩
 ·obtain ⟨h1,h2,h3,h4⟩:=Hw hp;have:=V.a p.2 h1 h2 h3;rw [← h4] at this;exact ⟨this.1,this.2,h2⟩
 ·obtain ⟨h1,h2,h3,h4⟩:=Hw hp;obtain ⟨g1,g2,g3,g4⟩:=Hw hq;exact hne (Mh (V.u (m p.2) h3) h1 g1 rfl Qa)
theorem P9 {fx : Bl} {m : Nat → Int} : ∀ (n : Nat) (l : List Nat),l.Nodup → (∀ k ∈ l,k < n ∧ fx k = false ∧ 0 ≤ m k) → l.length ≤ Zs n fx m
 | 0,l,_,h => by
  cases l with
  | nil => exact Nat.le_refl _
  | cons k r => exact absurd (h k List.mem_cons_self).1 Qa
 | n + 1,l,hd,h => by
  by_cases e : n ∈ l
  ·have h1:=P9 n (l.erase n) (hd.erase n) (fun k hk => by
    obtain ⟨g1,g2⟩:=(hd.mem_erase_iff).1 hk;obtain ⟨q1,q2⟩:=h k g2;exact ⟨by omega,q2⟩)
   rw [List.length_erase_of_mem e] at h1;have h2:=(h n e).2;unfold Zs;rw [if_pos h2];omega
  ·have:=P9 n l hd fun k hk => by
    obtain ⟨q1,q2⟩:=h k hk;have : k ≠ n:=fun e' => e (by rw [← e'];exact hk)
    exact ⟨by omega,q2⟩
   unfold Zs;omega
theorem Az {adj : Nat → List Nat} {ni : Nat} {D : Nat → Prop} {fx : Bl} {m : Nat → Int} (hadj : ∀ o,∀ k ∈ adj o,k < ni) (V : Us adj ni D fx m) (hd : ∀ o,D o → Wi ni m o → Vu adj fx m o) {M : List (Nat × Nat)} (hM : Ub adj D fx M) : M.length ≤ Zs ni fx m:=by
 have each : ∀ p : Nat × Nat,∃ k,p ∈ M → (k < ni ∧ fx k = false ∧ 0 ≤ m k) ∧ ((Vu adj fx m p.1 ∧ k = p.2 ∧ Vu adj fx m (m k).toNat) ∨ (¬ Vu adj fx m p.1 ∧ m k = p.1)):=fun p => by
  by_cases hp : p ∈ M
  ·obtain ⟨h1,h2,h3⟩:=hM.a p hp;by_cases e : Vu adj fx m p.1
   ·obtain ⟨A,R,hc,hA⟩:=id e
    have hR : R p.2:=by
     rcases hc.1 p.1 hA p.2 h2 with g | g
     ·exact g
     ·rw [h3] at g;exact absurd g (by decide)
    obtain ⟨g1,g2⟩:=hc.2 p.2 hR;exact ⟨p.2,fun _ => ⟨⟨hadj p.1 p.2 h2,h3,g1⟩,.inl ⟨e,rfl,A,R,hc,g2⟩⟩⟩
   ·have hf : ¬ Wi ni m p.1:=fun h => e (hd p.1 h1 h)
    obtain ⟨k,hk,hm⟩:=Kp (n:=ni) (m:=m) (x:=(p.1 : Int)) (by unfold Wi at hf;omega);refine ⟨k,fun _ => ⟨⟨hk,?_,by omega⟩,.inr ⟨e,hm⟩⟩⟩;cases hfk : fx k
    ·rfl
    ·exact absurd (by rw [hm];exact h1) (V.f k hk hfk Qa)
  ·exact ⟨0,fun h => absurd h hp⟩
 obtain ⟨g,hg⟩:=Classical.axiomOfChoice each
 have hpw : (M.map g).Nodup:=by
  refine List.pairwise_map.2 ((hM.o.and hM.i).imp_of_mem fun {p q} hp hq hne e => ?_);obtain ⟨_,h1⟩:=hg p hp;obtain ⟨_,h2⟩:=hg q hq;rcases h1 with ⟨a1,a2,a3⟩ | ⟨a1,a2⟩
  ·rcases h2 with ⟨b1,b2,b3⟩ | ⟨b1,b2⟩
   ·exact hne.2 (by rw [← a2,← b2,e])
   ·rw [e,b2] at a3;exact b1 (by simpa using a3)
  ·rcases h2 with ⟨b1,b2,b3⟩ | ⟨b1,b2⟩
   ·rw [← e,a2] at b3;exact a1 (by simpa using b3)
   ·rw [e] at a2;exact hne.1 Qa
 have:=P9 ni (M.map g) hpw (fun k hk => by
  obtain ⟨p,hp,rfl⟩:=List.mem_map.1 hk;exact (hg p hp).1)
 simpa using this
/-- How many can be matched. -/
def Nu (adj : Nat → List Nat) (D : Nat → Prop) (fx : Bl) (s : Nat) : Prop:=(∃ M,Ub adj D fx M ∧ M.length = s) ∧ ∀ M,Ub adj D fx M → M.length ≤ s
theorem Fj {adj : Nat → List Nat} {D : Nat → Prop} {fx : Bl} {s t : Nat} (h1 : Nu adj D fx s) (h2 : Nu adj D fx t) : s = t:=by
 obtain ⟨⟨M,hM,rfl⟩,h1⟩:=h1;obtain ⟨⟨N,hN,rfl⟩,h2⟩:=h2;have:=h1 N hN;have:=h2 M hM;omega
def Top (adj : Nat → List Nat) (ni : Nat) (D : Nat → Prop) (fx : Bl) (m : Nat → Int) : Prop:=Us adj ni D fx m ∧ ∀ M,Ub adj D fx M → M.length ≤ Zs ni fx m
theorem Top.nu {adj : Nat → List Nat} {ni : Nat} {D : Nat → Prop} {fx : Bl} {m : Nat → Int} (h : Top adj ni D fx m) : Nu adj D fx (Zs ni fx m):=⟨Ba h.1,h.2⟩
theorem Qd3 {adj : Nat → List Nat} {ni : Nat} {D : Nat → Prop} {fx : Bl} {m m' : Mt} {i : Nat} (V : Us adj ni D fx m.1) (hi : D i) (hf : Wi ni m.1 i) (W : Vy adj ni fx m fx i m') : Us adj ni D fx m'.1:=by
 have hu : ∀ x : Int,0 ≤ x → J2 ni m'.1 x ≤ 1:=fun x hx => by
  rw [W.c x hx];by_cases e : x = i
  ·subst e;unfold Wi at hf;rw [hf];simp
  ·rw [if_neg e];exact V.u x hx
 refine ⟨fun k hk hfk h0 => ?_,hu,fun k hk hfk h0 => ?_⟩
 ·rcases W.a k with e | ⟨_,ha⟩
  ·rw [e] at h0 ⊢;exact V.a k hk hfk h0
  ·refine ⟨?_,ha⟩;have hc:=W.c (m'.1 k) h0;by_cases e : m'.1 k = i
   ·rw [e];simpa using hi
   ·rw [if_neg e] at hc;have hp:=Lk hk (rfl : m'.1 k = m'.1 k);obtain ⟨k1,g1,g2⟩:=Kp (n:=ni) (m:=m.1) (x:=m'.1 k) Qa;cases hf1 : fx k1
    ·have:=(V.a k1 g1 hf1 Qa).1;rw [g2] at this;exact this
    ·have h3:=W.k k1 hf1;have h4:=Mh (hu _ h0) hk g1 rfl (h3.trans g2);subst h4;rw [hfk] at hf1;exact absurd hf1 (by decide)
 ·rw [W.k k hfk] at h0 ⊢;exact V.f k hk hfk h0
theorem Qnc {adj : Nat → List Nat} {ni : Nat} {D : Nat → Prop} {fx : Bl} {m : Mt} (hadj : ∀ o,∀ k ∈ adj o,k < ni) (V : Us adj ni D fx m.1) (h : ∀ o,D o → Wi ni m.1 o → (Zh adj ni m fx o).1 = none) : Top adj ni D fx m.1 :=
 ⟨V,fun _ hM => Az hadj V (fun o ho hf => Ay hadj (Od ni fx) (h o ho hf)) hM⟩
/-- The outs one after the other. -/
def Jq (adj : Nat → List Nat) (ni : Nat) (fx : Bl) : Nat → Nat → Mt → Mt × Nat
 | 0,_,m => (m,0)
 | n + 1,s,m => match (Zh adj ni m fx s).1 with
  | none => Jq adj ni fx n (s + 1) m
  | some m' => ((Jq adj ni fx n (s + 1) m').1,(Jq adj ni fx n (s + 1) m').2 + 1)
structure Ma (adj : Nat → List Nat) (ni f : Nat) (fx : Bl) (s : Nat) (m : Mt) : Prop where
 v : Us adj ni (fun o => f ≤ o ∧ o < s) fx m.1
 x : ∀ k,k < ni → fx k = true → m.1 k < 0
 d : ∀ o,f ≤ o → o < s → Wi ni m.1 o → Vu adj fx m.1 o
 i : Inv ni m
theorem Iu {adj : Nat → List Nat} {ni : Nat} {fx : Bl} {m m' : Mt} {i : Nat} (I : Inv ni m) (W : Vy adj ni fx m fx i m') (O : Ga ni m fx i m') : Inv ni m':=by
 refine ⟨O.o,fun k hk h0 => ?_⟩;have hc:=W.c (m'.1 k) h0;by_cases e : m'.1 k = i
 ·rw [e];simpa using O.b.1
 ·rw [if_neg e] at hc;have hp:=Lk hk (rfl : m'.1 k = m'.1 k);obtain ⟨k1,g1,g2⟩:=Kp (n:=ni) (m:=m.1) (x:=m'.1 k) Qa;rw [← g2];exact O.p _ (I.i k1 g1 Qa)
theorem Gx {adj : Nat → List Nat} {ni f : Nat} {fx : Bl} (hadj : ∀ o,∀ k ∈ adj o,k < ni) : ∀ (n s : Nat) (m : Mt),f ≤ s → Ma adj ni f fx s m → Ma adj ni f fx (s + n) (Jq adj ni fx n s m).1 ∧ Zs ni fx (Jq adj ni fx n s m).1.1 = Zs ni fx m.1 + (Jq adj ni fx n s m).2
 | 0,s,m,_,h => ⟨h,rfl⟩
 | n + 1,s,m,hs,h => by
  have hfree : Wi ni m.1 s:=by
   unfold Wi;refine Nat.eq_zero_of_not_pos fun hp => ?_
   obtain ⟨k,g1,g2⟩:=Kp hp;cases e : fx k
   ·have:=(h.v.a k g1 e Qa).1;omega
   ·have:=h.x k g1 e;omega
  have V' : Us adj ni (fun o => f ≤ o ∧ o < s + 1) fx m.1:=⟨fun k hk hf h0 => by
   obtain ⟨g1,g2⟩:=h.v.a k hk hf h0;exact ⟨⟨g1.1,by have:=g1.2;omega⟩,g2⟩,h.v.u,fun k hk hf h0 => by have:=h.x k hk hf;omega⟩
  unfold Jq
  cases e : (Zh adj ni m fx s).1 with
  | none =>
   have:=Gx hadj n (s + 1) m Qa ⟨V',h.x,fun o h1 h2 h3 => by
    by_cases e' : o = s
    ·subst e';exact Ay hadj (Od ni fx) e
    ·exact h.d o h1 Qa h3,h.i⟩
   rw [show s + (n + 1) = s + 1 + n by omega]
   exact this
  | some m' =>
   have W:=Tn (fx:=fx) hadj ni fx s m' (fun _ h => h) e;obtain ⟨O,_⟩:=Tp hadj h.i.o ni fx s m' e;have V2:=Qd3 V' ⟨hs,by simp⟩ hfree W
   obtain ⟨g1,g2⟩:=Gx hadj n (s + 1) m' Qa ⟨V2,fun k hk hf => by rw [W.k k hf];exact h.x k hk hf,fun o h1 h2 h3 => by
    have hc:=W.c (o : Int) Qa;unfold Wi at h3;by_cases e' : o = s
    ·subst e';rw [if_pos rfl] at hc;omega
    ·exact Qg2 e (h.d o h1 Qa (by unfold Wi;omega)),Iu h.i W O⟩
   rw [show s + (n + 1) = s + 1 + n by omega];refine ⟨g1,?_⟩;have:=W.s
   simp only
   omega
theorem Qh3 {adj : Nat → List Nat} {ni f : Nat} {fx : Bl} (hadj : ∀ o,∀ k ∈ adj o,k < ni) {s : Nat} {m : Mt} (hs : f ≤ s) (h : Ma adj ni f fx s m) : Ma adj ni f fx (s + 1) ((Zh adj ni m fx s).1.getD m) ∧ ∀ n,(Jq adj ni fx (n + 1) s m).1 = (Jq adj ni fx n (s + 1) ((Zh adj ni m fx s).1.getD m)).1:=by
 have g:=(Gx hadj 1 s m hs h).1;unfold Jq at g
 constructor
 ·cases e : (Zh adj ni m fx s).1 with
  | none => rw [e] at g;exact g
  | some m' => rw [e] at g;exact g
 ·intro n
  conv => lhs;unfold Jq
  cases e : (Zh adj ni m fx s).1 with
  | none => rfl
  | some m' => rfl
def Yl : Mt:=(fun _ => -1,fun _ => -1)
theorem Qgn (ni : Nat) (x : Int) (hx : 0 ≤ x) : J2 ni Yl.1 x = 0:=by
 refine Nat.eq_zero_of_not_pos fun hp => ?_
 obtain ⟨k,_,h⟩:=Kp hp;have h : (-1 : Int) = x:=h;omega
theorem Qde (fx : Bl) : ∀ ni,Zs ni fx Yl.1 = 0
 | 0 => rfl
 | n + 1 => by unfold Zs;rw [Qde fx n,if_neg (by rintro ⟨_,h⟩;have h : (0 : Int) ≤ -1:=h;omega)]
theorem Et (adj : Nat → List Nat) (ni f : Nat) (fx : Bl) : Ma adj ni f fx f Yl :=
 ⟨⟨fun k _ _ h => by have h : (0 : Int) ≤ -1:=h;omega,fun x hx => by rw [Qgn ni x hx];omega,fun k _ _ h => by have h : (0 : Int) ≤ -1:=h;omega⟩,fun k _ _ => by show (-1 : Int) < 0;omega,fun o h1 h2 _ => by omega,⟨fun o h => by have h : (0 : Int) ≤ -1:=h;omega,fun k _ h => by have h : (0 : Int) ≤ -1:=h;omega⟩⟩
theorem Eu {adj : Nat → List Nat} {ni : Nat} (hadj : ∀ o,∀ k ∈ adj o,k < ni) (fx : Bl) (f n : Nat) : Top adj ni (fun o => f ≤ o ∧ o < f + n) fx (Jq adj ni fx n f Yl).1.1 ∧ Inv ni (Jq adj ni fx n f Yl).1 ∧ Nu adj (fun o => f ≤ o ∧ o < f + n) fx (Jq adj ni fx n f Yl).2:=by
 obtain ⟨g1,g2⟩:=Gx hadj n f Yl (Nat.le_refl _) (Et adj ni f fx);have T : Top adj ni (fun o => f ≤ o ∧ o < f + n) fx (Jq adj ni fx n f Yl).1.1:=⟨g1.v,fun M hM => Az hadj g1.v (fun o ho hf => g1.d o ho.1 ho.2 hf) hM⟩;have h:=T.nu;rw [g2,Qde,Nat.zero_add] at h;exact ⟨T,g1.i,h⟩
theorem Sx {ni : Nat} {m : Mt} {o : Nat} (I : Inv ni m) : m.2 o < 0 ↔ Wi ni m.1 o:=by
 unfold Wi
 constructor
 ·intro h;refine Nat.eq_zero_of_not_pos fun hp => ?_
  obtain ⟨k,g1,g2⟩:=Kp hp;have:=I.i k g1 Qa;rw [g2] at this;have : 0 ≤ m.2 o:=by simpa using this
  omega
 ·intro h;refine Int.not_le.1 fun h0 => ?_
  obtain ⟨g1,g2⟩:=I.o o h0;have:=Lk g1 g2;omega
theorem Qdd {fx : Bl} {m : Nat → Int} {k : Nat} (hm : ¬ 0 ≤ m k) : ∀ {n : Nat},Zs n (Qi fx k true) m = Zs n fx m
 | 0 => rfl
 | n + 1 => by
  unfold Zs;rw [Qdd hm];by_cases e : n = k
  ·subst e;simp [hm]
  ·rw [Zl fx true e]
/-- An out and an in made a pair, whatever partners they had. -/
def Z8 (m : Mt) (i : Nat) : Nat → Int:=if 0 ≤ m.2 i then Qi m.1 (m.2 i).toNat (-1) else m.1
def Ya (m : Mt) (i k : Nat) : Mt:=(Qi (Z8 m i) k i,Qi (if 0 ≤ m.1 k then Qi m.2 (m.1 k).toNat (-1) else m.2) i k)
def Vc (adj : Nat → List Nat) (ni : Nat) (fx : Bl) : Nat → Nat → Mt → Option Mt
 | 0,_,_ => none
 | n + 1,j,m => if m.2 j < 0 then (match (Zh adj ni m fx j).1 with | some m' => some m' | none => Vc adj ni fx n (j + 1) m) else Vc adj ni fx n (j + 1) m
def Xk (adj : Nat → List Nat) (ni no : Nat) (fx : Bl) (m : Mt) (i k : Nat) : Option Mt :=
 if m.2 i < 0 ∨ m.1 k < 0 then some (Ya m i k) else Vc adj ni (Qi fx k true) (no - (i + 1)) (i + 1) (Ya m i k)
def Xd (adj : Nat → List Nat) (ni no : Nat) (i : Nat) : List Nat → Mt → Bl → Option (Nat × Mt × Bl)
 | [],_,_ => none
 | k :: r,m,fx =>
  if fx k then Xd adj ni no i r m fx
  else if m.2 i = k then some (k,m,Qi fx k true)
  else match Xk adj ni no fx m i k with
   | some m' => some (k,m',Qi fx k true)
   | none => Xd adj ni no i r m fx
def J1 (adj : Nat → List Nat) (ni no : Nat) : Nat → Nat → Mt → Bl → List (Nat × Nat)
 | 0,_,_,_ => []
 | n + 1,i,m,fx => match Xd adj ni no i (adj i) m fx with
  | some (k,m',fx') => (i,k) :: J1 adj ni no n (i + 1) m' fx'
  | none => J1 adj ni no n (i + 1) m fx
/-- The reference's choice. -/
def Nc (adj : Nat → List Nat) (ni no : Nat) (i : Nat) (left : Int) (fx : Bl) : List Nat → Option Nat
 | [] => none
 | k :: r => if fx k then Nc adj ni no i left fx r else if ((Jq adj ni (Qi fx k true) (no - (i + 1)) (i + 1) Yl).2 : Int) = left - 1 then some k else Nc adj ni no i left fx r
def Hk (adj : Nat → List Nat) (ni no : Nat) : Nat → Nat → Int → Bl → List (Nat × Nat)
 | 0,_,_,_ => []
 | n + 1,i,left,fx => match Nc adj ni no i left fx (adj i) with
  | some k => (i,k) :: Hk adj ni no n (i + 1) (left - 1) (Qi fx k true)
  | none => Hk adj ni no n (i + 1) left fx
def Xb (i no : Nat) : Nat → Prop:=fun o => i ≤ o ∧ o < no
structure Ur (adj : Nat → List Nat) (ni no i : Nat) (fx : Bl) (m : Mt) : Prop where
 t : Top adj ni (Xb i no) fx m.1
 i : Inv ni m
theorem Am {adj : Nat → List Nat} {no i k : Nat} {fx : Bl} {M : List (Nat × Nat)} (hM : Ub adj (Xb (i + 1) no) (Qi fx k true) M) (hi : i < no) (hk : k ∈ adj i) (hf : fx k = false) : Ub adj (Xb i no) fx ((i,k) :: M):=by
 refine ⟨fun p hp => ?_,List.pairwise_cons.2 ⟨fun q hq => ?_,hM.o⟩,List.pairwise_cons.2 ⟨fun q hq => ?_,hM.i⟩⟩
 ·rcases List.mem_cons.1 hp with rfl | hp
  ·exact ⟨⟨Nat.le_refl _,hi⟩,hk,hf⟩
  ·obtain ⟨h1,h2,h3⟩:=hM.a p hp;refine ⟨⟨by have:=h1.1;omega,h1.2⟩,h2,?_⟩;by_cases e : p.2 = k
   ·rw [e];exact hf
   ·rw [Zl fx true e] at h3;exact h3
 ·have:=(hM.a q hq).1.1
  show i ≠ q.1;omega
 ·intro e;have:=(hM.a q hq).2.2;have e : k = q.2:=e;rw [← e,Z2] at this;exact absurd this (by decide)
theorem Ao {adj : Nat → List Nat} {no i k s : Nat} {fx : Bl} {M : List (Nat × Nat)} (hM : Ub adj (Xb (i + 1) no) (Qi fx k true) M) (hi : i < no) (hk : k ∈ adj i) (hf : fx k = false) (h : ∀ M,Ub adj (Xb i no) fx M → M.length ≤ s) : M.length + 1 ≤ s:=h ((i,k) :: M) (Am hM hi hk hf)
theorem Qnm {adj : Nat → List Nat} {ni no i k : Nat} {fx : Bl} {m : Nat → Int} (V : Us adj ni (Xb i no) fx m) (hk : m k = i) (hn : k < ni) : Us adj ni (Xb (i + 1) no) (Qi fx k true) m:=by
 refine ⟨fun x hx hf h0 => ?_,V.u,fun x hx hf h0 => ?_⟩
 ·have e : x ≠ k := fun e => by subst e; rw [Z2] at hf; exact absurd hf (by decide)
  rw [Zl fx true e] at hf;obtain ⟨g1,g2⟩:=V.a x hx hf h0;refine ⟨⟨?_,g1.2⟩,g2⟩;have h1:=g1.1;refine Nat.lt_of_le_of_ne h1 fun h2 => e ?_
  exact Mh (V.u (i : Int) Qa) hx hn Qa hk
 ·by_cases e : x = k
  ·subst e;rw [hk];intro h;have:=h.1;simp only [Int.toNat_natCast] at this;omega
  ·rw [Zl fx true e] at hf;have:=V.f x hx hf h0;exact fun h => this ⟨by have:=h.1;omega,h.2⟩
theorem Qf7 {adj : Nat → List Nat} {ni no i k : Nat} {fx : Bl} {m : Mt} (J : Ur adj ni no i fx m) (hi : i < no) (hk : k ∈ adj i) (hn : k < ni) (hf : fx k = false) (hm : m.1 k = i) : Ur adj ni no (i + 1) (Qi fx k true) m ∧ Zs ni (Qi fx k true) m.1 + 1 = Zs ni fx m.1:=by
 have hs:=Dv hf (show 0 ≤ m.1 k by omega) hn;refine ⟨⟨⟨Qnm J.t.1 hm hn,fun M hM => ?_⟩,J.i⟩,hs⟩;have:=Ao hM hi hk hf J.t.2;omega
theorem Qm9 {adj : Nat → List Nat} {ni no i k : Nat} {fx : Bl} {m : Mt} (J : Ur adj ni no i fx m) (hi : i < no) (hn : k < ni) (hf : fx k = false) (hm : m.2 i ≠ k) :
  Us adj ni (Xb (i + 1) no) (Qi fx k true) (Ya m i k).1 ∧ Inv ni (Ya m i k) ∧ Zs ni (Qi fx k true) (Ya m i k).1 + (if 0 ≤ m.2 i then 1 else 0) + (if 0 ≤ m.1 k then 1 else 0) = Zs ni fx m.1:=by
 have V:=J.t.1;have I:=J.i
 -- the partner of i dropped
 have hold : ∀ h : 0 ≤ m.2 i,(m.2 i).toNat < ni ∧ m.1 (m.2 i).toNat = i ∧ (m.2 i).toNat ≠ k ∧ fx (m.2 i).toNat = false:=fun h => by
  obtain ⟨g1,g2⟩:=I.o i h;refine ⟨g1,g2,fun e => hm Qa,?_⟩;cases e : fx (m.2 i).toNat
  ·rfl
  ·refine absurd ?_ (V.f _ g1 e Qa);rw [g2];exact ⟨by simp,by simpa using hi⟩
 have hA : ∀ x,Z8 m i x = m.1 x ∨ Z8 m i x = -1:=fun x => by
  unfold Z8
  split
  ·by_cases e : x = (m.2 i).toNat
   ·subst e;exact .inr (Z2 _ _ _)
   ·exact .inl (Zl _ _ e)
  ·exact .inl rfl
 have hAk : Z8 m i k = m.1 k:=by
  unfold Z8
  split
  ·rename_i h;exact Zl _ _ (fun e => (hold h).2.2.1 e.symm)
  ·rfl
 have hAi : ∀ x,x < ni → Z8 m i x ≠ i:=fun x hx e => by
  have hx0 : m.1 x = i:=by
   rcases hA x with h | h
   ·rw [← h];exact e
   ·rw [h] at e;omega
  have h0 : 0 ≤ m.2 i:=by have:=I.i x hx Qa;rw [hx0] at this;simpa using this
  obtain ⟨g1,g2,_,_⟩:=hold h0;have:=Mh (V.u (i : Int) Qa) hx g1 hx0 g2;unfold Z8 at e;rw [if_pos h0,this,Z2] at e;omega
 have hAc : ∀ x : Int,0 ≤ x → J2 ni (Z8 m i) x ≤ J2 ni m.1 x:=fun x hx => by
  unfold Z8
  split
  ·rename_i h
   have:=Oc m.1 (-1 : Int) x (hold h).1;rw [if_neg (show ¬ (-1 : Int) = x by omega)] at this;omega
  ·exact Nat.le_refl _
 have hu : ∀ x : Int,0 ≤ x → J2 ni (Qi (Z8 m i) k i) x ≤ 1:=fun x hx => by
  have h1:=Oc (Z8 m i) (i : Int) x hn;have h2:=hAc x hx;have h3:=V.u x hx;by_cases e : (i : Int) = x
  ·have h4 : J2 ni (Z8 m i) x = 0:=by
    refine Nat.eq_zero_of_not_pos fun hp => ?_
    obtain ⟨y,q1,q2⟩:=Kp hp;exact hAi y q1 (q2.trans e.symm)
   rw [if_pos e] at h1;omega
  ·rw [if_neg e] at h1;omega
 refine ⟨⟨fun x hx hfx h0 => ?_,hu,fun x hx hfx h0 => ?_⟩,⟨fun o h => ?_,fun x hx h0 => ?_⟩,?_⟩
 ·have e : x ≠ k := fun e => by subst e; rw [Z2] at hfx; exact absurd hfx (by decide)
  rw [Zl fx true e] at hfx;have h0' : 0 ≤ Qi (Z8 m i) k i x:=h0
  show Xb (i + 1) no (Qi (Z8 m i) k i x).toNat ∧ x ∈ adj (Qi (Z8 m i) k i x).toNat
  rw [Zl _ _ e] at h0' ⊢
  have h1 : Z8 m i x = m.1 x:=by
   rcases hA x with h | h
   ·exact h
   ·omega
  have h2:=hAi x hx;rw [h1] at h0' h2 ⊢;obtain ⟨g1,g2⟩:=V.a x hx hfx h0';exact ⟨⟨by have:=g1.1;omega,g1.2⟩,g2⟩
 ·have h0' : 0 ≤ Qi (Z8 m i) k i x:=h0
  show ¬ Xb (i + 1) no (Qi (Z8 m i) k i x).toNat
  by_cases e : x = k
  ·subst e;rw [Z2];intro h;have:=h.1;simp only [Int.toNat_natCast] at this;omega
  ·rw [Zl _ _ e] at h0' ⊢;rw [Zl fx true e] at hfx
   have h1 : Z8 m i x = m.1 x:=by
    rcases hA x with h | h
    ·exact h
    ·omega
   rw [h1] at h0' ⊢;exact fun h => V.f x hx hfx h0' ⟨by have:=h.1;omega,h.2⟩
 ·have h' : 0 ≤ Qi (if 0 ≤ m.1 k then Qi m.2 (m.1 k).toNat (-1) else m.2) i k o:=h
  show (Qi (if 0 ≤ m.1 k then Qi m.2 (m.1 k).toNat (-1) else m.2) i k o).toNat < ni ∧ Qi (Z8 m i) k i (Qi (if 0 ≤ m.1 k then Qi m.2 (m.1 k).toNat (-1) else m.2) i k o).toNat = o
  by_cases e : o = i
  ·subst e;rw [Z2];exact ⟨by omega,by rw [show ((k : Int)).toNat = k by omega,Z2]⟩
  ·rw [Zl _ _ e] at h' ⊢
   have h2 : (if 0 ≤ m.1 k then Qi m.2 (m.1 k).toNat (-1) else m.2) o = m.2 o ∧ (0 ≤ m.1 k → o ≠ (m.1 k).toNat):=by
    by_cases c : 0 ≤ m.1 k
    ·rw [if_pos c] at h' ⊢;by_cases e2 : o = (m.1 k).toNat
     ·rw [e2,Z2] at h';omega
     ·exact ⟨Zl _ _ e2,fun _ => e2⟩
    ·rw [if_neg c];exact ⟨rfl,fun h => absurd h c⟩
   rw [h2.1] at h' ⊢;obtain ⟨g1,g2⟩:=I.o o h'
   have g3 : (m.2 o).toNat ≠ k:=fun e2 => by
    rw [e2] at g2;exact h2.2 Qa Qa
   refine ⟨g1,(Zl _ _ g3).trans ?_⟩;unfold Z8
   split
   ·rename_i c
    refine (Zl _ _ fun e2 => e ?_).trans g2;have:=(hold c).2.1;rw [← e2,g2] at this;omega
   ·exact g2
 ·have h0' : 0 ≤ Qi (Z8 m i) k i x:=h0
  show 0 ≤ Qi (if 0 ≤ m.1 k then Qi m.2 (m.1 k).toNat (-1) else m.2) i k (Qi (Z8 m i) k i x).toNat
  by_cases e : x = k
  ·subst e;rw [Z2,show ((i : Int)).toNat = i by omega,Z2];omega
  ·rw [Zl _ _ e] at h0' ⊢
   have h1 : Z8 m i x = m.1 x:=by
    rcases hA x with h | h
    ·exact h
    ·omega
   have h2:=hAi x hx;rw [h1] at h0' h2 ⊢;rw [Zl _ _ Qa];have h3:=I.i x hx h0'
   split
   ·rename_i c
    rw [Zl _ _ fun e2 => e (Mh (V.u (m.1 x) h0') hx hn rfl Qa)];exact h3
   ·exact h3
 ·show Zs ni (Qi fx k true) (Qi (Z8 m i) k i) + _ + _ = _
  rw [Rm (fx':=Qi fx k true) (m':=Z8 m i) fun x hx => ⟨rfl,fun hfx => by
   have e : x ≠ k:=fun e => by subst e;rw [Z2] at hfx;exact absurd hfx (by decide)
   rw [Zl _ _ e]⟩]
  have h1 : Zs ni fx (Z8 m i) + (if 0 ≤ m.2 i then 1 else 0) = Zs ni fx m.1:=by
   unfold Z8
   split
   ·rename_i c
    obtain ⟨g1,g2,g3,g4⟩:=hold c;have:=Ro m.1 (-1 : Int) g4 g1;rw [if_pos (show 0 ≤ m.1 (m.2 i).toNat by omega),if_neg (show ¬ (0 : Int) ≤ -1 by omega)] at this;omega
   ·rfl
  have h2 : Zs ni (Qi fx k true) (Z8 m i) + (if 0 ≤ m.1 k then 1 else 0) = Zs ni fx (Z8 m i):=by
   by_cases c : 0 ≤ m.1 k
   ·rw [if_pos c];exact Dv hf (by rw [hAk];exact c) hn
   ·rw [if_neg c];exact Qdd (by rw [hAk];exact c)
  omega
theorem D1 {adj : Nat → List Nat} {ni : Nat} {fx : Bl} {m m' : Mt} : ∀ {n j : Nat},Vc adj ni fx n j m = some m' → ∃ j',(j ≤ j' ∧ j' < j + n) ∧ m.2 j' < 0 ∧ (Zh adj ni m fx j').1 = some m'
 | n + 1,j,h => by
  have more : Vc adj ni fx n (j + 1) m = some m' → ∃ j',(j ≤ j' ∧ j' < j + (n + 1)) ∧ m.2 j' < 0 ∧ (Zh adj ni m fx j').1 = some m':=fun h => by
   obtain ⟨j',h1,h2⟩:=D1 h;exact ⟨j',⟨by omega,by omega⟩,h2⟩
  unfold Vc at h
  split at h
  ·rename_i hm
   split at h
   ·rename_i m'' e
    obtain rfl : m'' = m':=by simpa using h
    exact ⟨j,⟨Nat.le_refl _,by omega⟩,hm,e⟩
   ·exact more h
  ·exact more h
theorem D0 {adj : Nat → List Nat} {ni : Nat} {fx : Bl} {m : Mt} : ∀ {n j : Nat},Vc adj ni fx n j m = none → ∀ j',j ≤ j' → j' < j + n → m.2 j' < 0 → (Zh adj ni m fx j').1 = none
 | 0,j,_,j',h1,h2,_ => by omega
 | n + 1,j,h,j',h1,h2,h3 => by
  unfold Vc at h;by_cases e : j' = j
  ·subst e;rw [if_pos h3] at h
   split at h
   ·exact absurd h (by simp)
   ·rename_i e;exact e
  ·split at h
   ·split at h
    ·exact absurd h (by simp)
    ·exact D0 h j' Qa Qa h3
   ·exact D0 h j' Qa Qa h3
theorem Qf8 {adj : Nat → List Nat} {ni no i k : Nat} {fx : Bl} {m : Mt} (hadj : ∀ o,∀ k ∈ adj o,k < ni) (J : Ur adj ni no i fx m) (hi : i < no) (hk : k ∈ adj i) (hf : fx k = false) (hm : m.2 i ≠ k) :
  (∀ m',Xk adj ni no fx m i k = some m' → Ur adj ni no (i + 1) (Qi fx k true) m' ∧ Zs ni (Qi fx k true) m'.1 + 1 = Zs ni fx m.1) ∧ (Xk adj ni no fx m i k = none → ∀ s,Nu adj (Xb (i + 1) no) (Qi fx k true) s → s + 1 ≠ Zs ni fx m.1):=by
 obtain ⟨V,I,hs⟩:=Qm9 J hi (hadj i k hk) hf hm;have hc:=fun M (hM : Ub adj (Xb (i + 1) no) (Qi fx k true) M) => Ao hM hi hk hf J.t.2
 unfold Xk
 split
 ·rename_i h
  refine ⟨fun m' e => ?_,fun e => absurd e (by simp)⟩;obtain rfl : Ya m i k = m':=by simpa using e
  obtain ⟨M,h1,h2⟩:=Ba V;have h3:=hc M h1
  have h4 : Zs ni (Qi fx k true) (Ya m i k).1 + 1 = Zs ni fx m.1:=by
   rcases h with h | h
   ·rw [if_neg (show ¬ 0 ≤ m.2 i by omega)] at hs;split at hs <;> omega
   ·rw [if_neg (show ¬ 0 ≤ m.1 k by omega)] at hs;split at hs <;> omega
  exact ⟨⟨⟨V,fun M hM => by have:=hc M hM;omega⟩,I⟩,h4⟩
 ·rename_i h
  rw [if_pos (show 0 ≤ m.2 i by omega),if_pos (show 0 ≤ m.1 k by omega)] at hs;refine ⟨fun m' e => ?_,fun e s hn => ?_⟩
  ·obtain ⟨j,hj,hj0,ha⟩:=D1 e;have W:=Tn (fx:=Qi fx k true) hadj ni (Qi fx k true) j m' (fun _ h => h) ha;obtain ⟨O,_⟩:=Tp hadj I.o ni (Qi fx k true) j m' ha;have V2:=Qd3 V ⟨hj.1,by omega⟩ ((Sx I).1 hj0) W;have:=W.s;exact ⟨⟨⟨V2,fun M hM => by have:=hc M hM;omega⟩,Iu I W O⟩,by omega⟩
  ·have T : Top adj ni (Xb (i + 1) no) (Qi fx k true) (Ya m i k).1:=Qnc hadj V fun o ho hfr => D0 e o ho.1 (by have:=ho.2;omega) ((Sx I).2 hfr)
   have:=Fj hn T.nu;omega
theorem ref_nu {adj : Nat → List Nat} {ni no i k : Nat} {fx : Bl} (hadj : ∀ o,∀ k ∈ adj o,k < ni) (hi : i < no) : Nu adj (Xb (i + 1) no) (Qi fx k true) (Jq adj ni (Qi fx k true) (no - (i + 1)) (i + 1) Yl).2:=by
 have:=(Eu hadj (Qi fx k true) (i + 1) (no - (i + 1))).2.2;rw [show i + 1 + (no - (i + 1)) = no by omega] at this;exact this
theorem Ac {adj : Nat → List Nat} {ni no i : Nat} {fx : Bl} {m : Mt} (hadj : ∀ o,∀ k ∈ adj o,k < ni) (J : Ur adj ni no i fx m) (hi : i < no) : ∀ (l : List Nat),(∀ k ∈ l,k ∈ adj i) →
  (∀ k m' fx',Xd adj ni no i l m fx = some (k,m',fx') → k ∈ adj i ∧ fx k = false ∧ fx' = Qi fx k true ∧ Ur adj ni no (i + 1) fx' m' ∧ Zs ni fx' m'.1 + 1 = Zs ni fx m.1 ∧ Nc adj ni no i (Zs ni fx m.1) fx l = some k) ∧
  (Xd adj ni no i l m fx = none → Nc adj ni no i (Zs ni fx m.1) fx l = none ∧ ∀ k ∈ l,fx k = false → m.2 i ≠ k)
 | [],_ => ⟨fun k m' fx' h => by simp [Xd] at h,fun _ => ⟨rfl,fun k hk => absurd hk (by simp)⟩⟩
 | k :: r,hl => by
  have IH:=Ac hadj J hi r fun x hx => hl x (List.mem_cons_of_mem _ hx)
  have hk:=hl k List.mem_cons_self;unfold Xd Nc;by_cases hf : fx k = true
  ·rw [if_pos hf,if_pos hf];refine ⟨IH.1,fun h => ⟨(IH.2 h).1,fun x hx hfx => ?_⟩⟩;rcases List.mem_cons.1 hx with rfl | hx
   ·rw [hf] at hfx;exact absurd hfx (by decide)
   ·exact (IH.2 h).2 x hx hfx
  rw [if_neg hf,if_neg hf];have hf' : fx k = false:=by simpa using hf
  have hn:=ref_nu (fx:=fx) (k:=k) hadj hi;by_cases hm : m.2 i = k
  ·rw [if_pos hm]
   have hm1 : m.1 k = i:=by
    have:=(J.i.o i Qa).2;rw [hm] at this;simpa using this
   obtain ⟨g1,g2⟩:=Qf7 J hi hk (hadj i k hk) hf' hm1;have e:=Fj hn g1.t.nu;refine ⟨fun k' m' fx' h => ?_,fun h => absurd h (by simp)⟩;obtain ⟨rfl,rfl,rfl⟩ : k = k' ∧ m = m' ∧ Qi fx k true = fx':=by simpa using h
   exact ⟨hk,hf',rfl,g1,g2,by rw [if_pos Qa]⟩
  ·rw [if_neg hm];obtain ⟨g1,g2⟩:=Qf8 hadj J hi hk hf' hm
   cases hs : Xk adj ni no fx m i k with
   | some m1 =>
    obtain ⟨q1,q2⟩:=g1 m1 hs;have e:=Fj hn q1.t.nu;refine ⟨fun k' m' fx' h => ?_,fun h => absurd h (by simp)⟩;obtain ⟨rfl,rfl,rfl⟩ : k = k' ∧ m1 = m' ∧ Qi fx k true = fx':=by simpa using h
    exact ⟨hk,hf',rfl,q1,q2,by rw [if_pos Qa]⟩
   | none =>
    have:=g2 hs _ hn;rw [if_neg Qa];refine ⟨IH.1,fun h => ⟨(IH.2 h).1,fun x hx hfx => ?_⟩⟩;rcases List.mem_cons.1 hx with rfl | hx
    ·exact hm
    ·exact (IH.2 h).2 x hx hfx
theorem Qf6 {adj : Nat → List Nat} {ni no i : Nat} {fx : Bl} {m : Mt} (J : Ur adj ni no i fx m) (hi : i < no) (h : ∀ k ∈ adj i,fx k = false → m.2 i ≠ k) : Ur adj ni no (i + 1) fx m:=by
 have hfr : m.2 i < 0:=by
  refine Int.not_le.1 fun h0 => ?_
  obtain ⟨g1,g2⟩:=J.i.o i h0;cases hf : fx (m.2 i).toNat
  ·have:=(J.t.1.a _ g1 hf Qa).2;rw [g2] at this;exact h _ (by simpa using this) hf Qa
  ·have:=J.t.1.f _ g1 hf Qa;rw [g2] at this;exact this ⟨by simp,by simpa using hi⟩
 have hF:=(Sx J.i).1 hfr;refine ⟨⟨⟨fun k hk hf h0 => ?_,J.t.1.u,fun k hk hf h0 hr => J.t.1.f k hk hf h0 ⟨by have:=hr.1;omega,hr.2⟩⟩,fun M hM => J.t.2 M ⟨fun p hp => ?_,hM.o,hM.i⟩⟩,J.i⟩
 ·obtain ⟨g1,g2⟩:=J.t.1.a k hk hf h0;refine ⟨⟨?_,g1.2⟩,g2⟩;refine Nat.lt_of_le_of_ne g1.1 fun e => ?_
  have:=Lk (m:=m.1) (x:=(i : Int)) hk Qa;unfold Wi at hF;omega
 ·obtain ⟨h1,h2⟩:=hM.a p hp;exact ⟨⟨by have:=h1.1;omega,h1.2⟩,h2⟩
/-- The program's choice is the reference's; and no list of pairs is longer. -/
theorem Tz {adj : Nat → List Nat} {ni no : Nat} (hadj : ∀ o,∀ k ∈ adj o,k < ni) : ∀ (n i : Nat) (m : Mt) (fx : Bl),i + n = no → Ur adj ni no i fx m →
  J1 adj ni no n i m fx = Hk adj ni no n i (Zs ni fx m.1) fx ∧ Ub adj (Xb i no) fx (J1 adj ni no n i m fx) ∧ (J1 adj ni no n i m fx).length = Zs ni fx m.1 ∧ (J1 adj ni no n i m fx).Pairwise fun p q => p.1 < q.1
 | 0,i,m,fx,hn,J => by
  refine ⟨rfl,⟨fun p hp => absurd hp (by simp [J1]),List.Pairwise.nil,List.Pairwise.nil⟩,?_,List.Pairwise.nil⟩;obtain ⟨M,h1,h2⟩:=Ba J.t.1
  cases M with
  | nil => exact h2
  | cons p r =>
   have:=(h1.a p List.mem_cons_self).1;have h3:=this.1;have h4:=this.2
   omega
 | n + 1,i,m,fx,hn,J => by
  have hi : i < no:=by omega
  obtain ⟨g1,g2⟩:=Ac hadj J hi (adj i) fun _ h => h
  unfold J1 Hk
  cases h : Xd adj ni no i (adj i) m fx with
  | none =>
   obtain ⟨q1,q2⟩:=g2 h;rw [q1];obtain ⟨c1,c2,c3,c4⟩:=Tz hadj n (i + 1) m fx Qa (Qf6 J hi q2)
   exact ⟨c1,⟨fun p hp => by obtain ⟨a1,a2⟩:=c2.a p hp;exact ⟨⟨by have:=a1.1;omega,a1.2⟩,a2⟩,c2.o,c2.i⟩,c3,c4⟩
  | some x =>
   obtain ⟨k,m',fx'⟩:=x;obtain ⟨q1,q2,rfl,q4,q5,q6⟩:=g1 k m' fx' h;rw [q6];obtain ⟨c1,c2,c3,c4⟩:=Tz hadj n (i + 1) m' (Qi fx k true) Qa q4;refine ⟨?_,Am c2 hi q1 q2,?_,List.pairwise_cons.2 ⟨fun q hq => ?_,c4⟩⟩
   ·show (i,k) :: _ = (i,k) :: _
    rw [c1,show ((Zs ni fx m.1 : Nat) : Int) - 1 = ((Zs ni (Qi fx k true) m'.1 : Nat) : Int) by omega]
   ·show (J1 adj ni no n (i + 1) m' (Qi fx k true)).length + 1 = _
    omega
   ·have:=(c2.a q hq).1.1
    show i < q.1;omega
/-- The whole: as the program begins it. -/
def Kn (adj : Nat → List Nat) (ni no : Nat) : List (Nat × Nat):=J1 adj ni no no 0 (Jq adj ni (fun _ => false) no 0 Yl).1 (fun _ => false)
def Ad (adj : Nat → List Nat) (ni no : Nat) : List (Nat × Nat):=Hk adj ni no no 0 (Jq adj ni (fun _ => false) no 0 Yl).2 (fun _ => false)
theorem Sa {adj : Nat → List Nat} {ni no : Nat} (hadj : ∀ o,∀ k ∈ adj o,k < ni) : Kn adj ni no = Ad adj ni no ∧ Ub adj (Xb 0 no) (fun _ => false) (Kn adj ni no) ∧ Nu adj (Xb 0 no) (fun _ => false) (Kn adj ni no).length ∧ (Kn adj ni no).Pairwise fun p q => p.1 < q.1:=by
 obtain ⟨T,I,N⟩:=Eu hadj (fun _ => false) 0 no;simp only [Nat.zero_add] at T N;have J : Ur adj ni no 0 (fun _ => false) (Jq adj ni (fun _ => false) no 0 Yl).1:=⟨T,I⟩;obtain ⟨c1,c2,c3,c4⟩:=Tz hadj no 0 _ _ Qa J;have e:=Fj N J.t.nu;refine ⟨?_,c2,?_,c4⟩
 ·unfold Kn Ad;rw [c1,e]
 ·unfold Kn;rw [c3];exact J.t.nu
end
end Go.Proofs.YtoflcheopfppoaaGreatDoor

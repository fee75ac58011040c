/- Walks of the program's functions and plain facts, packed; proved: the lemmas below; no conditions but those that each states. -/
import Derived.Test.YtoflcheopfppoaaGreatDoorL3
import Derived.Test.YtoflcheopfppoaaGreatDoorL1
set_option maxRecDepth 100000
set_option maxHeartbeats 4000000
namespace Go.Proofs.YtoflcheopfppoaaGreatDoor
section
open Go Go.RowKit Go.Shelf
attribute [local go_sem] Z5
def Zg (f : Nat → Nat) (i : Nat) : List Value:=[.int .u64 (f i : Int)]
def U5 (l : List Nat) : List Value:=l.map fun (x : Nat) => Value.int .u64 (x : Int)
theorem Qio (l : List Nat) (x : Nat) : U5 l ++ [.int .u64 (x : Int)] = U5 (l ++ [x]):=by simp [U5]
theorem Rk : (Tryz.prog.info? 245).map (fun i => (i.zero,i.size,i.bytes)) = some (some (.int .u64 0),1,8):=by kernel_rfl
theorem Qam {w : World} {base k : Nat} {v : Value} {l : List Nat} (hk : k = l.length) (h : w.ownsRow base 245 1 v k (U5 l)) : ∃ F c,v = .slice F k c ∧ Qp w F k 1 (Zg fun i => l.getD i 0) ∧ k ≤ c ∧ c ≤ maxLen ∧ (F = none → k = 0 ∧ c = 0) ∧ ∀ a,F = some a → base ≤ a.block:=by
 have e : U5 l = Zw (Zg fun i => l.getD i 0) k:=by
  subst hk;apply List.ext_getElem?;intro j;by_cases hj : j < l.length
  ·have:=V5 (f:=Zg fun i => l.getD i 0) (sz:=1) (fun _ => rfl) (i:=j) (j:=0) hj (by decide);rw [Nat.mul_one,Nat.add_zero] at this;rw [this];simp [U5,Zg,List.getD_eq_getElem?_getD,List.getElem?_eq_getElem hj]
  ·rw [List.getElem?_eq_none (by simp [U5];omega),List.getElem?_eq_none (by rw [Xx (f:=Zg fun i => l.getD i 0) (sz:=1) (fun _ => rfl)];omega)]
 rw [e] at h;obtain ⟨F,c,h1,h2,h3,h4,h5,h6⟩:=Ve (f:=Zg fun i => l.getD i 0) (fun _ => rfl) h;exact ⟨F,c,h1,h2,h3,h4,h5,h6⟩
set_option maxHeartbeats 2000000 in
theorem Qah (A : Option Addr) (n ca : Nat) (f : Nat → Nat) (w : World) (hA : Qp w A n 1 (Zg f)) (hn : n ≤ 1000000) :
  Calls Tryz.prog 194 #[.slice A n ca] w fun e w' => ∃ v,e = .returned v ∧ Qb w w' ∧ w'.ownsRow w.heap.size 245 1 v (Zf f n).length (U5 (Zf f n)):=by
 obtain ⟨i0,hi,hz0,hz1,hz2⟩:=info_parts Rk
 go_enter Tryz.func194,Tryz.ntmps194
 go_upto_region 3 with (fail)
 go_loopw [3,8] (fun o i wr => ∃ k : Nat,k ≤ n ∧ i = .int .i64 k ∧ Qb w wr ∧ wr.ownsRow w.heap.size 245 1 o (Zf f k).length (U5 (Zf f k))) (fun _ i _ => n - (intOf i).toNat)
 case atStart => exact ⟨0,Nat.zero_le _,rfl,Qb.refl _,World.ownsRow_nil _ _ _ _⟩
 case round =>
  obtain ⟨k,hk,rfl,hE,hO⟩:=hrel;obtain ⟨wo,rfl⟩:=Qg wr;by_cases hlt : k < n
  ·obtain ⟨b, off, rfl, hb, hc⟩ := (hA.ext hE) (by omega);have c0 : wo.cell? ⟨b, off + k, none⟩ = some (.int .u64 (f k : Int)) := by simpa using hc k 0 _ hlt rfl
   have hml:=Ga f k;have HM:=Lib.hid hml;clear hml hc hA;by_cases h1 : f k = 1
   ·have hs : Hid (Zf f (k + 1) = Zf f k) := by unfold Hid; rw [Zf, if_pos h1]
    rw [h1] at c0;clear h1;rw [← hs.out] at hO;clear hs HM;go_wp2;exact ⟨⟨k + 1,by omega,by go_num,hE,hO⟩,by simp [intOf];omega⟩
   ·have hs : Hid (Zf f (k + 1) = Zf f k ++ [f k]) := by unfold Hid; rw [Zf, if_neg h1]
    have hb1 : ((f k : Int) != 1) = true:=by rw [bne,beq_eq_false_iff_ne.2 (by omega)];rfl
    clear h1;generalize f k = x at *;go_upto_region 7 with (at_builtin;refine wpList_append_own_at _ rfl _ _ 250 rfl w.heap.size 245 i0 (.int .u64 0) 1 8 Tryz.underlying250 hi hz0 hz1 hz2 rfl (by decide) _ _ _ rfl (hO.alloc _) ⟨wo.heap.size,0,none⟩ 1 1 [.int .u64 (x : Int)] rfl rfl (V0 _ _ _) (by simp [Value.oneCell']) (by have:=HM.out;unfold maxLen;omega) (by have:=HM.out;omega) (by have:=hE.size;simp;omega) ?_;intro o' w2 hown hgrow _ _)
    have E2 : Qb w w2:=(hE.alloc _).grown hgrow (fun q hq => (hO.lt q hq).1);rw [Qio,← hs.out] at hown;have hl4 : (Zf f k).length + 1 = (Zf f (k + 1)).length:=by rw [hs.out];simp
    rw [hl4] at hown;clear hs hgrow hl4;go_wp2;exact ⟨⟨k + 1,by omega,by go_num,E2,hown⟩,by simp [intOf];omega⟩
  ·obtain rfl : k = n := by omega
   go_wp2;go_ret;exact ⟨_,rfl,hE,hO⟩
theorem Ya {W : World} {base size k : Nat} {e : TypeId} {v : Value} {xs : List Value} (h : W.ownsRow base e size v k xs) : ∃ F m,v = .slice F k m:=by
 rcases h.2 with ⟨rfl,h0⟩ | ⟨g,cap,cur,rfl,_⟩
 ·exact ⟨none,0,by rw [h0]⟩
 ·exact ⟨_,_,rfl⟩
theorem Qi {W : World} {b b' : Nat} {t : TypeId} {cs : Array Value} (h : Qa W b t cs) (hne : b ≠ b') (j : Nat) (u : Value) : Qa (W.setCell ⟨b',j,none⟩ u) b t cs :=
 h.kept ⟨rfl,rfl,rfl,(KeepsWalks.setCell W _ u).size,fun k _ hk => Below.heap_setCell _ _ _ k (fun e => hk (by rw [e]))⟩ (fun e => hne (by cases e;rfl))
theorem Eo {w : World} {base : Nat} {e : TypeId} {size : Nat} {v : Value} {n : Nat} {xs : List Value} (h : w.ownsRow base e size v n xs) (hn : 0 < n) : ∃ g cap,v = .slice (some ⟨g,0,none⟩) n cap ∧ base ≤ g ∧ g < w.heap.size:=by
 rcases h.2 with ⟨_,h0⟩ | ⟨g,cap,cur,hv,hb,hg,_⟩
 ·omega
 ·exact ⟨g,cap,hv,hb,(Array.getElem?_eq_some_iff.1 hg).1⟩
theorem Ow {w : World} {base : Nat} {e : TypeId} {size g c : Nat} {n m : Nat} {xs : List Value} (h : w.ownsRow base e size (.slice (some ⟨g,0,none⟩) m c) n xs) : g < w.heap.size:=by
 rcases h.2 with ⟨h',_⟩ | ⟨g',cap,cur,hv,hb,hg,_⟩
 ·cases h'
 ·cases hv;exact (Array.getElem?_eq_some_iff.1 hg).1
def Dd (A : Value → Value → Act) (S : World → Value → Value → Prop) : Exit → Act → World → Prop:=fun e a' w' => e = .normal ∧ ∃ p q,S w' p q ∧ a' = A p q
theorem Qcv {A : Value → Value → Act} {S : World → Value → Value → Prop} {w' : World} (p q : Value) {a' : Act} (h : S w' p q) (ha : a' = A p q) : Dd A S .normal a' w':=⟨rfl,p,q,h,ha⟩
theorem Qje {P : Program} {c : Code} {Q : Exit → Act → World → Prop} {a : Act} {w : World} {A : Value → Value → Act} (S : World → Value → Value → Prop) (h1 : c.wp P (Dd A S) a w) (h2 : ∀ p q w',S w' p q → Q .normal (A p q) w') : c.wp P Q a w :=
 Code.wp_mono (fun e a' w' ⟨he,p,q,hs,ha⟩ => by subst he;subst ha;exact h2 p q w' hs) h1
theorem Qin (f : Nat → Nat) (n i x : Nat) (hi : i < n) : (Zw (Zg f) n).set i (.int .u64 (x : Int)) = Zw (Zg (Jl f i x)) n:=by
 apply List.ext_getElem?;intro j;have hl : (Zw (Zg f) n).length = n:=by have:=Xx (f:=Zg f) (sz:=1) (fun _ => rfl) n;omega
 have hg : ∀ (g : Nat → Nat) k,k < n → (Zw (Zg g) n)[k]? = some (.int .u64 (g k : Int)):=fun g k hk => by
  have:=V5 (f:=Zg g) (sz:=1) (fun _ => rfl) (i:=k) (j:=0) hk (by decide);rw [Nat.mul_one,Nat.add_zero] at this;rw [this];rfl
 rw [List.getElem?_set];by_cases e : i = j
 ·subst e;rw [if_pos rfl,if_pos (by omega),hg _ _ hi];simp [Jl]
 ·rw [if_neg e];by_cases hj : j < n
  ·rw [hg _ _ hj,hg _ _ hj];simp [Jl,show j ≠ i by omega]
  ·rw [List.getElem?_eq_none (by omega),List.getElem?_eq_none (by have:=Xx (f:=Zg (Jl f i x)) (sz:=1) (fun _ => rfl) n;omega)]
theorem K9 {w : World} {base g n cap : Nat} {f : Nat → Nat} (h : w.ownsRow base 245 1 (.slice (some ⟨g,0,none⟩) n cap) n (Zw (Zg f) n)) {i : Nat} (hi : i < n) : w.cell? ⟨g,i,none⟩ = some (.int .u64 (f i : Int)):=by
 rw [World.ownsRow.cellAt h i (by omega)];have:=V5 (f:=Zg f) (sz:=1) (fun _ => rfl) (i:=i) (j:=0) hi (by decide);rw [Nat.mul_one,Nat.add_zero] at this;rw [this];rfl
theorem Sc {w : World} {base g n cap : Nat} {f : Nat → Nat} (h : w.ownsRow base 245 1 (.slice (some ⟨g,0,none⟩) n cap) n (Zw (Zg f) n)) {i : Nat} (hi : i < n) (x : Nat) :
  (w.setCell ⟨g,i,none⟩ (.int .u64 (x : Int))).ownsRow base 245 1 (.slice (some ⟨g,0,none⟩) n cap) n (Zw (Zg (Jl f i x)) n):=by
 have:=(World.ownsRow.stored h i (.int .u64 (x : Int))).1
 rwa [Qin f n i x hi] at this
theorem Sb {w : World} {base g n cap g' i : Nat} {f : Nat → Nat} (h : w.ownsRow base 245 1 (.slice (some ⟨g,0,none⟩) n cap) n (Zw (Zg f) n)) (hne : g ≠ g') (u : Value) :
  (w.setCell ⟨g',i,none⟩ u).ownsRow base 245 1 (.slice (some ⟨g,0,none⟩) n cap) n (Zw (Zg f) n) :=
 h.kept ⟨rfl,rfl,rfl,(KeepsWalks.setCell w _ u).size,fun k _ hk => Below.heap_setCell _ _ _ k (fun e => hk (by rw [e]))⟩ (.inr (fun e => hne (by cases e;rfl)))
theorem Qht (A A' : Option Addr) (n m ca cb : Nat) (fu fd : Nat → Nat) (w : World) (hA : Qp w A n 1 (Zg fu)) (hA' : Qp w A' m 1 (Zg fd)) (hnA : A = none → n = 0 ∧ ca = 0) (hnA' : A' = none → m = 0 ∧ cb = 0)
  (hn : n ≤ 1000) (hm : m ≤ 1000) (hu1 : ∀ i,i < n → 1 ≤ fu i) (hu2 : ∀ i,i < n → fu i < 18446744073709551616) (hd1 : ∀ i,i < m → 1 ≤ fd i) (hd2 : ∀ i,i < m → fd i < 18446744073709551616) :
  Calls Tryz.prog 186 #[.agg #[.slice A n ca,.slice A' m cb]] w fun e w' => ∃ U D F c F' c',Xn fu fd n m U D n 0 ∧ e = .returned (.agg #[.slice F (Zf U n).length c,.slice F' (Zf D m).length c']) ∧ Qb w w' ∧
   Qp w' F (Zf U n).length 1 (Zg fun i => (Zf U n).getD i 0) ∧ Qp w' F' (Zf D m).length 1 (Zg fun i => (Zf D m).getD i 0) ∧ (∀ a,F = some a → w.heap.size ≤ a.block) ∧ (∀ a,F' = some a → w.heap.size ≤ a.block):=by
 obtain ⟨i0,hi,hz0,hz1,hz2⟩:=info_parts Rk;have hlu:=Xx (f:=Zg fu) (sz:=1) (fun _ => rfl) n;have hld:=Xx (f:=Zg fd) (sz:=1) (fun _ => rfl) m;have hone : ∀ g k,∀ u ∈ Zw (Zg g) k,u.oneCell' = true:=fun g k => Fx (f:=Zg g) (n:=k) (fun i u hu => by simp [Zg] at hu;subst hu;simp [Value.oneCell'])
 have HNU:=fun v (h : Qp v A n 1 (Zg fu)) => Nl (f:=Zg fu) (sz:=1) (fun _ => rfl) (by decide) h
 have HND:=fun v (h : Qp v A' m 1 (Zg fd)) => Nl (f:=Zg fd) (sz:=1) (fun _ => rfl) (by decide) h
 go_enter Tryz.func186,Tryz.ntmps186
 go_upto_region 1 with (fail)
 obtain ⟨v,hv⟩:=Qg ((w.alloc (.cells #[.slice A n ca,.slice A' m cb] 252)).alloc (.cells #[.slice none 0 0,.slice none 0 0] 252));rw [← hv];have E : Qb w v:=by rw [hv];exact ((Qb.refl _).alloc _).alloc _
 have B1 : Qa v w.heap.size 252 #[.slice A n ca,.slice A' m cb]:=by rw [hv];exact (Qa.new _ _ _).alloc _
 have B2 : Qa v (w.heap.size + 1) 252 #[.slice none 0 0,.slice none 0 0]:=by rw [hv];exact Qa.at _ _ _ _ (by simp)
 clear hv;have RA:=hA.ext E;have RA':=hA'.ext E;clear hA hA';have hb2 : w.heap.size ≤ w.heap.size + 1:=Nat.le_succ _;have hvs : w.heap.size + 1 < v.heap.size:=B2.lt;generalize w.heap.size + 1 = b2 at *;generalize hb1 : w.heap.size = b1 at *;replace hb1:=Lib.hid hb1;obtain ⟨k0,k1⟩:=B1.c2;have lk:=B1.lt;apply Qje (S:=fun w' p q => Qb v w' ∧ w'.ownsRow v.heap.size 245 1 p n (Zw (Zg fu) n) ∧ w'.ownsRow v.heap.size 245 1 q m (Zw (Zg fd) m) ∧ ∀ x y,p.ownBlock = some x → q.ownBlock = some y → x ≠ y)
 ·refine Qjk 8 v Qo rfl (Qb.refl _) ?_;intro hne hrx v3 h3;refine S4 (g:=4) [0,1,3,4] [_,_,_,_] ⟨rfl,rfl,rfl,rfl,trivial⟩ (by kernel_rfl) (by kernel_rfl) h3 ?_;simp only [Qc,Qd,Qe];apply Exists.intro;refine ⟨fun u => ?_,?_⟩
  ·repeat (first | go_big_quiet_skip | (go_big_quiet_want;go_big_quiet_op;go_big_quiet_on))
   refine wpQuiet_nil ?_;rfl
  refine Sz 2 rfl (by kernel_rfl) ?_;simp only [Qc,Qd,Qe];go_wp2_with (at_builtin;refine So rfl _ _ 250 rfl v3.heap.size 245 i0 (.int .u64 0) 1 8 Tryz.underlying250 hi hz0 hz1 hz2 rfl (by decide) rfl A n ca (Zw (Zg fu) n) rfl hnA hlu (HNU _ (RA.ext h3)) (hone _ _) (by unfold maxLen;omega) (by omega) (Nat.le_refl _) ?_;intro p w4 hP hg);have h4 : Qb v3 w4:=(Qb.refl _).grown hg (fun q hq => by cases hq);clear hg;have e4:=h3.trans h4;refine Qh e4 ?_;refine Sz 5 rfl (by kernel_rfl) ?_;simp only [Qc,Qd,Qe];go_wp2_with (at_builtin;refine So rfl _ _ 250 rfl w4.heap.size 245 i0 (.int .u64 0) 1 8 Tryz.underlying250 hi hz0 hz1 hz2 rfl (by decide) rfl A' m cb (Zw (Zg fd) m) rfl hnA' hld (HND _ (RA'.ext e4)) (hone _ _) (by unfold maxLen;omega) (by omega) (Nat.le_refl _) ?_;intro q w5 hQ hg)
  have h5 : Qb w4 w5:=(Qb.refl _).grown hg (fun q hq => by cases hq);clear hg;have e5:=e4.trans h5;refine Qh e5 ?_;refine S4 (g:=0) [6,7] [_,_] ⟨rfl,rfl,trivial⟩ (by kernel_rfl) (by kernel_rfl) e5 ?_;simp only [Qc,Qd,Qe];apply Exists.intro;refine ⟨fun u => ?_,?_⟩
  ·repeat (first | go_big_quiet_skip | (go_big_quiet_want;go_big_quiet_op;go_big_quiet_on))
   refine wpQuiet_nil ?_;rfl
  refine Qbe (by kernel_rfl) ?_;exact Qcv p q ⟨e5,World.ownsRow.mono (Jp hP h5) h3.size,World.ownsRow.mono hQ e4.size,fun x y h1 h2 => by have:=(hP.lt x h1).2;have:=(hQ.lt y h2).1;omega⟩ rfl
 ·rintro p q w1 ⟨E1,hP,hQ,hap⟩;obtain ⟨F1,c1,rfl⟩:=Ya hP;obtain ⟨F2,c2,rfl⟩:=Ya hQ;have hvw:=E1.size;clear RA RA' k0 k1 lk HNU HND hone hlu hld;go_upto_region 3 with (fail)
  go_loopw [16] (fun iv wr => ∃ i : Nat,i ≤ n ∧ iv = .int .i64 (i : Int) ∧ Qb v wr ∧ ∃ U D,Xn fu fd n m U D i 0 ∧ wr.ownsRow v.heap.size 245 1 (.slice F1 n c1) n (Zw (Zg U) n) ∧ wr.ownsRow v.heap.size 245 1 (.slice F2 m c2) m (Zw (Zg D) m)) (fun iv _ => n - (intOf iv).toNat)
  case atStart => exact ⟨0,Nat.zero_le _,rfl,E1,fu,fd,Xn.start hu1 hd1,hP,hQ⟩
  case round =>
   obtain ⟨i,hi0,rfl,hEo,Uo,Do,hRo,hPo,hQo⟩:=hrel;obtain ⟨wo,rfl⟩:=Qg wr;by_cases hlt : i < n
   ·go_upto_region 6 with (fail)
    go_loopw [21] (fun jv wr => ∃ j : Nat,j ≤ m ∧ jv = .int .i64 (j : Int) ∧ Qb v wr ∧ ∃ U D,Xn fu fd n m U D i j ∧ wr.ownsRow v.heap.size 245 1 (.slice F1 n c1) n (Zw (Zg U) n) ∧ wr.ownsRow v.heap.size 245 1 (.slice F2 m c2) m (Zw (Zg D) m)) (fun jv _ => m - (intOf jv).toNat)
    case atStart => exact ⟨0,Nat.zero_le _,rfl,hEo,Uo,Do,hRo,hPo,hQo⟩
    case round =>
     clear hEo hRo hPo hQo;obtain ⟨j,hj0,rfl,hE,U,D,hR,hP,hQ⟩:=hrel;obtain ⟨wo,rfl⟩:=Qg wr;by_cases hltj : j < m
     ·obtain ⟨g1, x1, hf1, hg1, hl1⟩ := Eo hP (by omega);obtain ⟨g2, x2, hf2, hg2, hl2⟩ := Eo hQ (by omega);obtain ⟨rfl, _, rfl⟩ : F1 = some ⟨g1, 0, none⟩ ∧ n = n ∧ c1 = x1 := by simpa using hf1
      obtain ⟨rfl,_,rfl⟩ : F2 = some ⟨g2,0,none⟩ ∧ m = m ∧ c2 = x2:=by simpa using hf2
      have hne:=hap g1 g2 rfl rfl;clear hf1 hf2;have p0:=K9 hP hlt;have q0:=K9 hQ hltj;have hRS:=hR.step hlt hltj;have hU1:=hR.up i hlt;have hD1:=hR.dn j hltj;have hu2i:=hu2 i hlt;have hd2j:=hd2 j hltj;have NC:=fun w => P6 (U i) (D j) (by omega) w
      have hgp : 0 < Nat.gcd (U i) (D j):=Nat.gcd_pos_of_pos_right _ hD1.1;have hP2:=fun x => Sc hP hlt x
      have hQ2:=fun x => Sb (i:=i) hQ (Ne.symm hne) (.int .u64 (x : Int))
      generalize hgg : Nat.gcd (U i) (D j) = g at *;go_upto_region 8 with (fail)
      refine Zd wo Qo (by kernel_rfl) Qj ?_;intro hne hrx hry;try simp only []
      try simp only [List.append_eq,List.cons_append,List.nil_append]
      skip
      repeat (first
       | go_big_quiet_skip
       | (go_big_quiet_want;go_big_quiet_op;go_big_quiet_on)
       | (go_big_quiet_want;go_big_quiet_op;apply Exists.intro;refine ⟨fun u => ?_,?_⟩
          ·first
            | (go_at_call 161;(with_reducible refine Calls.mono (NC _) ?_);rintro e w' ⟨rfl,hb⟩;exact ⟨rfl,u.back hb⟩)
          go_big_quiet_on))
      clear hne hry hrx;refine wpQuiet_nil ?_;intro w2 h2;obtain ⟨hcw2,hfw2,hzw2⟩:=Qb.rules h2;try simp only [World.size_alloc] at hzw2
      obtain ⟨hcbw2,hfbw2,hzbw2⟩:=Qb.rules (show Qb wo w2 from Qj);clear hcw2 hfw2;clear p0 q0 hl1 hl2;replace hP:=Jp hP h2;replace hQ:=Jp hQ h2;have f0:=World.ownsRow.frozenAt hP i;have f1:=World.ownsRow.frozenAt hQ j;have p0:=K9 hP hlt;have q0:=K9 hQ hltj;have l1:=(Ow hP);have l2:=(Ow hQ);have gi0 : (g : Int) ≠ 0:=by omega
      have gi1 : ((g : Int) == 0) = false:=beq_eq_false_iff_ne.2 gi0
      have hq1 : IntKind.u64.wrap ((U i : Int) / (g : Int)) = ((U i / g : Nat) : Int):=by
       rw [IntKind.wrap_u64,← Int.natCast_ediv];have:=Nat.div_le_self (U i) g;generalize U i / g = z at this ⊢;exact Int.emod_eq_of_lt (by omega) (by omega)
      have hq2 : IntKind.u64.wrap ((D j : Int) / (g : Int)) = ((D j / g : Nat) : Int):=by
       rw [IntKind.wrap_u64,← Int.natCast_ediv];have:=Nat.div_le_self (D j) g;generalize D j / g = z at this ⊢;exact Int.emod_eq_of_lt (by omega) (by omega)
      clear hU1 hD1 hu2i hd2j NC hP2 hQ2;generalize U i / g = x1 at *;generalize D j / g = x2 at *;have E3:=(hE.trans h2).setCell (p:=⟨g1,i,none⟩) hg1 (.int .u64 (x1 : Int));have hP3:=Sc hP hlt x1;have hQ3:=Sb (i:=i) hQ (Ne.symm hne) (.int .u64 (x1 : Int));go_upto_region 10 with (fail)
      generalize World.setCell w2 _ _ = w3 at *;clear hP hQ p0 q0 l1 l2 f0 f1;have p0:=K9 hP3 hlt;have q0:=K9 hQ3 hltj;have l1:=(Ow hP3);have l2:=(Ow hQ3);have f1:=World.ownsRow.frozenAt hQ3 j;have E4:=E3.setCell (p:=⟨g2,j,none⟩) hg2 (.int .u64 (x2 : Int));have hQ4:=Sc hQ3 hltj x2;have hP4:=Sb (i:=j) hP3 hne (.int .u64 (x2 : Int));go_wp2;exact ⟨⟨j + 1,by omega,by go_num,E4,_,_,hRS,hP4,hQ4⟩,by simp [intOf];omega⟩
     ·obtain rfl : j = m := by omega
      go_wp2;exact ⟨⟨i + 1,by omega,by go_num,hE,U,D,hR.row,hP,hQ⟩,by simp [intOf];omega⟩
   ·obtain rfl : i = n := by omega
    have hRU:=fun w h => Qah F1 i c1 Uo w h (by omega)
    have hRD:=fun w h => Qah F2 m c2 Do w h (by omega)
    obtain ⟨F3,c3,hf1,ra,_⟩:=Ve (f:=Zg Uo) (sz:=1) (fun _ => rfl) hPo;obtain ⟨F4,c4,hf2,rb,_⟩:=Ve (f:=Zg Do) (sz:=1) (fun _ => rfl) hQo;obtain ⟨rfl,rfl⟩ : F1 = F3 ∧ c1 = c3:=by simpa using hf1
    obtain ⟨rfl,rfl⟩ : F2 = F4 ∧ c2 = c4:=by simpa using hf2
    clear hf1 hf2
    go_wp2_with (first
     | (go_at_call 194;(with_reducible refine Calls.mono (hRU _ ra) ?_);rintro e w2 ⟨va,rfl,h2,oa⟩;obtain ⟨G1,d1,rfl,ga,_,_,_,ga6⟩:=Qam rfl oa)
     | (go_at_call 194;(with_reducible refine Calls.mono (hRD _ (rb.ext h2)) ?_);rintro e w3 ⟨vb,rfl,h3,ob⟩;obtain ⟨G2,d2,rfl,gb,_,_,_,gb6⟩:=Qam rfl ob;have B3:=B2.ext ((hEo.trans h2).trans h3);have z0:=B3.frozen 0;have z1:=B3.frozen 1;obtain ⟨y0,y1⟩:=B3.c2;have ly:=B3.lt))
    have H2:=Qm B3 (.slice G1 (Zf Uo i).length d1) (.slice G2 (Zf Do m).length d2);have E2:=((((E.trans hEo).trans h2).trans h3).setCell (p:=⟨b2,0,none⟩) (by have:=hb1.out;show w.heap.size ≤ b2;omega) (.slice G1 (Zf Uo i).length d1)).setCell (p:=⟨b2,1,none⟩) (by have:=hb1.out;show w.heap.size ≤ b2;omega) (.slice G2 (Zf Do m).length d2);have hvs1:=hEo.size;have hvs2:=h2.size;have ga2:=Hk (ga.ext h3) (b:=b2) (fun a h => by have:=ga6 a h;omega) 0 1 (.slice G1 (Zf Uo i).length d1) (.slice G2 (Zf Do m).length d2);have gb2:=Hk gb (b:=b2) (fun a h => by have:=gb6 a h;omega) 0 1 (.slice G1 (Zf Uo i).length d1) (.slice G2 (Zf Do m).length d2)
    obtain ⟨x0,x1⟩:=H2.c2;generalize (w3.setCell ⟨b2,0,none⟩ (.slice G1 (Zf Uo i).length d1)).setCell ⟨b2,1,none⟩ (.slice G2 (Zf Do m).length d2) = wf at *;clear y0 y1 z0 z1 B3 ly;go_wp2;refine bodyPost_ret (v:=.agg #[.slice G1 (Zf Uo i).length d1,.slice G2 (Zf Do m).length d2]) (by simp [results,Tryz.results186,go_sem,x0,x1]) rfl ⟨Uo,Do,G1,d1,G2,d2,hRo,rfl,E2,ga2,gb2,fun a h => by have:=ga6 a h;have:=E.size;have:=hb1.out;omega,fun a h => by have:=gb6 a h;have:=E.size;have:=hb1.out;omega⟩
theorem H0 {f : Nat → Nat} {n k : Nat} (hk : k < (Zf f n).length) : ∃ i,i < n ∧ (Zf f n).getD k 0 = f i:=by
 refine Tx f n _ ?_;rw [List.getD_eq_getElem?_getD,List.getElem?_eq_getElem hk];exact List.getElem_mem hk
theorem Z2 {x : Int} (h1 : -9223372036854775808 ≤ x) (h2 : x ≤ 9223372036854775807) : IntKind.i64.wrap x = x:=by
 rw [IntKind.wrap_i64];omega
theorem Tf (A A' : Option Addr) (n m ca cb : Nat) (fu fd : Nat → Nat) (neg : Bool) (w : World) (hA : Qp w A n 1 (Zg fu)) (hA' : Qp w A' m 1 (Zg fd)) (hnA : A = none → n = 0 ∧ ca = 0) (hnA' : A' = none → m = 0 ∧ cb = 0)
  (hn : n ≤ 1000) (hm : m ≤ 1000) (hu1 : ∀ i,i < n → 1 ≤ fu i) (hu2 : ∀ i,i < n → fu i < 18446744073709551616) (hd1 : ∀ i,i < m → 1 ≤ fd i) (hd2 : ∀ i,i < m → fd i < 18446744073709551616) :
  Calls Tryz.prog 163 #[.agg #[.slice A n ca,.slice A' m cb],.bool neg] w fun e w' => e = .returned (.tuple #[.agg #[.int .i64 (Jk neg (upTo fu n) (upTo fd m)).1.n,.int .i64 (Jk neg (upTo fu n) (upTo fd m)).1.d],.int .i64 (Jk neg (upTo fu n) (upTo fd m)).2]) ∧ Qb w w':=by
 have NR:=fun v h1 h2 => Qht A A' n m ca cb fu fd v h1 h2 hnA hnA' hn hm hu1 hu2 hd1 hd2
 obtain ⟨R,hR0⟩:=Qg (Jk neg (upTo fu n) (upTo fd m));rw [← hR0];have HR:=Lib.hid hR0;clear hR0
 go_enter Tryz.func163,Tryz.ntmps163
 go_upto_region 1 with (fail)
 obtain ⟨v,hv⟩:=Qg ((w.alloc (.cells #[.slice A n ca,.slice A' m cb] 252)).alloc (.cells #[.int .i64 0,.int .i64 0] 65));rw [← hv];have E : Qb w v:=by rw [hv];exact ((Qb.refl _).alloc _).alloc _
 have B1 : Qa v w.heap.size 252 #[.slice A n ca,.slice A' m cb]:=by rw [hv];exact (Qa.new _ _ _).alloc _
 have B2 : Qa v (w.heap.size + 1) 65 #[.int .i64 0,.int .i64 0]:=by rw [hv];exact Qa.at _ _ _ _ (by simp)
 clear hv;have RA:=hA.ext E;have RA':=hA'.ext E;clear hA hA';obtain ⟨b2,hb2⟩:=Qg (w.heap.size + 1);rw [← hb2] at B2 ⊢;obtain ⟨b1,hb1⟩:=Qg (w.heap.size);rw [← hb1] at B1 ⊢;have h21 : b2 ≠ b1:=by omega
 have hb1':=Nat.le_of_eq hb1.symm;have hb2' : w.heap.size ≤ b2:=by omega
 clear hb1 hb2;obtain ⟨k0,k1⟩:=B1.c2;have lk:=B1.lt;go_upto_region 2 with (go_at_call 186;(with_reducible refine Calls.mono (NR _ RA RA') ?_);rintro e w2 ⟨U,D,G1,d1,G2,d2,hRI,rfl,h2,ga,gb,ga6,gb6⟩;have B12:=B1.ext h2;obtain ⟨k0,k1⟩:=B12.c2;have lk:=B12.lt;have f0:=B12.frozen 0;have f1:=B12.frozen 1)
 have hbv:=B1.lt;have EX:=((E.trans h2).setCell (p:=⟨b1,0,none⟩) hb1' (.slice G1 (Zf U n).length d1)).setCell (p:=⟨b1,1,none⟩) hb1' (.slice G2 (Zf D m).length d2);have H1:=Qm B12 (.slice G1 (Zf U n).length d1) (.slice G2 (Zf D m).length d2);have H2:=Qi (Qi (B2.ext h2) h21 0 (.slice G1 (Zf U n).length d1)) h21 1 (.slice G2 (Zf D m).length d2);have ga2:=Hk ga (b:=b1) (fun a h => by have:=ga6 a h;omega) 0 1 (.slice G1 (Zf U n).length d1) (.slice G2 (Zf D m).length d2);have gb2:=Hk gb (b:=b1) (fun a h => by have:=gb6 a h;omega) 0 1 (.slice G1 (Zf U n).length d1) (.slice G2 (Zf D m).length d2);generalize (w2.setCell ⟨b1,0,none⟩ (.slice G1 (Zf U n).length d1)).setCell ⟨b1,1,none⟩ (.slice G2 (Zf D m).length d2) = wf at *
 clear f0 f1 k0 k1 lk ga gb ga6 gb6 B12 B1 B2 h2 E RA RA' NR hb1' hbv;have hdone:=hRI.done neg hd1;rw [← HR.out] at hdone;have hl1:=Ga U n;have hl2:=Ga D m;have NP:=fun v h => Qaw G1 (Zf U n).length d1 (fun i => (Zf U n).getD i 0) 1099511627776 (by decide) (by decide) (fun i hi => by obtain ⟨j,hj,e⟩:=H0 hi;rw [e];exact (hRI.up j hj).1) (fun i hi => by obtain ⟨j,hj,e⟩:=H0 hi;rw [e];exact Nat.lt_of_le_of_lt (hRI.up j hj).2 (hu2 j hj)) v h (by omega)
 have NQ:=fun v h => Qaw G2 (Zf D m).length d2 (fun i => (Zf D m).getD i 0) 1048576 (by decide) (by decide) (fun i hi => by obtain ⟨j,hj,e⟩:=H0 hi;rw [e];exact (hRI.dn j hj).1) (fun i hi => by obtain ⟨j,hj,e⟩:=H0 hi;rw [e];exact Nat.lt_of_le_of_lt (hRI.dn j hj).2 (hd2 j hj)) v h (by omega)
 rw [Qhl,Ty] at NP NQ;clear hl1 hl2 hRI hu1 hu2 hd1 hd2 hnA hnA' hn hm;generalize (Zf U n).length = n1 at *;generalize (Zf D m).length = n2 at *;generalize upTo U n = p at *;generalize upTo D m = q at *;obtain ⟨k0,k1⟩:=H1.c2;have lk:=H1.lt;obtain ⟨R0,R1⟩:=R;replace hdone:=Lib.hid hdone;by_cases hp : p ≤ 1099511627776
 ·by_cases hq : q ≤ 1048576
  ·simp only [if_pos hp,decide_eq_true hp] at NP;simp only [if_pos hq,decide_eq_true hq] at NQ;have hd:=hdone.out;rw [if_pos ⟨hp,hq⟩] at hd;obtain ⟨rfl,rfl⟩:=Prod.mk.inj hd;have w1 : IntKind.i64.wrap (p : Int) = (p : Int):=Z2 (by omega) (by omega);have w2 : IntKind.i64.wrap (q : Int) = (q : Int):=Z2 (by omega) (by omega);have w3 : IntKind.i64.wrap (-(p : Int)) = -(p : Int):=Z2 (by omega) (by omega);clear hp hq hd hdone HR;cases neg
   ·skip
    go_upto_region 3 with (go_at_call 187;(with_reducible refine Calls.mono (NP _ ga2) ?_);rintro e wa ⟨rfl,ha⟩;clear k0 k1 lk;replace H1:=H1.ext ha;obtain ⟨k0,k1⟩:=H1.c2;have lk:=H1.lt)
    replace EX:=EX.trans ha;replace H2:=H2.ext ha;replace gb2:=gb2.ext ha;clear ha ga2 NP;go_upto_region 4 with (go_at_call 187;(with_reducible refine Calls.mono (NQ _ gb2) ?_);rintro e wb ⟨rfl,hb⟩)
    replace EX:=EX.trans hb;replace H2:=H2.ext hb;clear hb gb2 NQ k0 k1 lk;have f0:=H2.frozen 0;have f1:=H2.frozen 1;obtain ⟨z0,z1⟩:=H2.c2;have lz:=H2.lt;have H3:=Qm H2 (.int .i64 (p : Int)) (.int .i64 (q : Int));have EF:=(EX.setCell (p:=⟨b2,0,none⟩) hb2' (.int .i64 (p : Int))).setCell (p:=⟨b2,1,none⟩) hb2' (.int .i64 (q : Int));obtain ⟨x0,x1⟩:=H3.c2;go_wp2;refine bodyPost_ret (v:=.tuple #[.agg #[.int .i64 (p : Int),.int .i64 (q : Int)],.int .i64 0]) (by simp [results,Tryz.results163,go_sem,x0,x1]) rfl ⟨rfl,EF⟩
   ·skip
    go_upto_region 3 with (go_at_call 187;(with_reducible refine Calls.mono (NP _ ga2) ?_);rintro e wa ⟨rfl,ha⟩;clear k0 k1 lk;replace H1:=H1.ext ha;obtain ⟨k0,k1⟩:=H1.c2;have lk:=H1.lt)
    replace EX:=EX.trans ha;replace H2:=H2.ext ha;replace gb2:=gb2.ext ha;clear ha ga2 NP;go_upto_region 4 with (go_at_call 187;(with_reducible refine Calls.mono (NQ _ gb2) ?_);rintro e wb ⟨rfl,hb⟩)
    replace EX:=EX.trans hb;replace H2:=H2.ext hb;clear hb gb2 NQ k0 k1 lk;have f0:=H2.frozen 0;have f1:=H2.frozen 1;obtain ⟨z0,z1⟩:=H2.c2;have lz:=H2.lt;have H3:=Qm H2 (.int .i64 (-(p : Int))) (.int .i64 (q : Int));have EF:=(EX.setCell (p:=⟨b2,0,none⟩) hb2' (.int .i64 (-(p : Int)))).setCell (p:=⟨b2,1,none⟩) hb2' (.int .i64 (q : Int));obtain ⟨x0,x1⟩:=H3.c2;go_wp2;refine bodyPost_ret (v:=.tuple #[.agg #[.int .i64 (-(p : Int)),.int .i64 (q : Int)],.int .i64 0]) (by simp [results,Tryz.results163,go_sem,x0,x1]) rfl ⟨rfl,EF⟩
  ·simp only [if_pos hp,decide_eq_true hp] at NP;simp only [if_neg hq,decide_eq_false hq] at NQ;have hd:=hdone.out;rw [if_neg (fun h => hq h.2)] at hd;obtain ⟨rfl,rfl⟩:=Prod.mk.inj hd;clear hd hdone HR;go_upto_region 3 with (go_at_call 187;(with_reducible refine Calls.mono (NP _ ga2) ?_);rintro e wa ⟨rfl,ha⟩;clear k0 k1 lk;replace H1:=H1.ext ha;obtain ⟨k0,k1⟩:=H1.c2;have lk:=H1.lt)
   replace EX:=EX.trans ha;replace H2:=H2.ext ha;replace gb2:=gb2.ext ha;clear ha ga2 NP;go_upto_region 4 with (go_at_call 187;(with_reducible refine Calls.mono (NQ _ gb2) ?_);rintro e wb ⟨rfl,hb⟩)
   replace EX:=EX.trans hb;replace H2:=H2.ext hb;clear hb gb2 NQ k0 k1 lk;have f0:=H2.frozen 0;have f1:=H2.frozen 1;obtain ⟨z0,z1⟩:=H2.c2;have lz:=H2.lt;have H3:=Qm H2 (.int .i64 0) (.int .i64 0);have EF:=(EX.setCell (p:=⟨b2,0,none⟩) hb2' (.int .i64 0)).setCell (p:=⟨b2,1,none⟩) hb2' (.int .i64 0);obtain ⟨x0,x1⟩:=H3.c2;go_wp2;refine bodyPost_ret (v:=.tuple #[.agg #[.int .i64 0,.int .i64 0],.int .i64 6]) (by simp [results,Tryz.results163,go_sem,x0,x1]) rfl ⟨rfl,EF⟩
 ·simp only [if_neg hp,decide_eq_false hp] at NP;have hd:=hdone.out;rw [if_neg (fun h => hp h.1)] at hd;obtain ⟨rfl,rfl⟩:=Prod.mk.inj hd;clear hd hdone HR;generalize decide (q ≤ 1048576) = bq at *;generalize (if q ≤ 1048576 then q else 0) = q' at *;cases bq
  ·skip
   go_upto_region 3 with (go_at_call 187;(with_reducible refine Calls.mono (NP _ ga2) ?_);rintro e wa ⟨rfl,ha⟩;clear k0 k1 lk;replace H1:=H1.ext ha;obtain ⟨k0,k1⟩:=H1.c2;have lk:=H1.lt)
   replace EX:=EX.trans ha;replace H2:=H2.ext ha;replace gb2:=gb2.ext ha;clear ha ga2 NP;go_upto_region 4 with (go_at_call 187;(with_reducible refine Calls.mono (NQ _ gb2) ?_);rintro e wb ⟨rfl,hb⟩)
   replace EX:=EX.trans hb;replace H2:=H2.ext hb;clear hb gb2 NQ k0 k1 lk;have f0:=H2.frozen 0;have f1:=H2.frozen 1;obtain ⟨z0,z1⟩:=H2.c2;have lz:=H2.lt;have H3:=Qm H2 (.int .i64 0) (.int .i64 0);have EF:=(EX.setCell (p:=⟨b2,0,none⟩) hb2' (.int .i64 0)).setCell (p:=⟨b2,1,none⟩) hb2' (.int .i64 0);obtain ⟨x0,x1⟩:=H3.c2;go_wp2;refine bodyPost_ret (v:=.tuple #[.agg #[.int .i64 0,.int .i64 0],.int .i64 6]) (by simp [results,Tryz.results163,go_sem,x0,x1]) rfl ⟨rfl,EF⟩
  ·skip
   go_upto_region 3 with (go_at_call 187;(with_reducible refine Calls.mono (NP _ ga2) ?_);rintro e wa ⟨rfl,ha⟩;clear k0 k1 lk;replace H1:=H1.ext ha;obtain ⟨k0,k1⟩:=H1.c2;have lk:=H1.lt)
   replace EX:=EX.trans ha;replace H2:=H2.ext ha;replace gb2:=gb2.ext ha;clear ha ga2 NP;go_upto_region 4 with (go_at_call 187;(with_reducible refine Calls.mono (NQ _ gb2) ?_);rintro e wb ⟨rfl,hb⟩)
   replace EX:=EX.trans hb;replace H2:=H2.ext hb;clear hb gb2 NQ k0 k1 lk;have f0:=H2.frozen 0;have f1:=H2.frozen 1;obtain ⟨z0,z1⟩:=H2.c2;have lz:=H2.lt;have H3:=Qm H2 (.int .i64 0) (.int .i64 0);have EF:=(EX.setCell (p:=⟨b2,0,none⟩) hb2' (.int .i64 0)).setCell (p:=⟨b2,1,none⟩) hb2' (.int .i64 0);obtain ⟨x0,x1⟩:=H3.c2;go_wp2;refine bodyPost_ret (v:=.tuple #[.agg #[.int .i64 0,.int .i64 0],.int .i64 6]) (by simp [results,Tryz.results163,go_sem,x0,x1]) rfl ⟨rfl,EF⟩
end
section
open Go Go.RowKit
section
variable {P : Program} {ops : Array Oper} {md : Region.Mode} {C : World → Prop} {R : Act → World → Prop} {zs : List Nat}
def Jb (P : Program) (md : Region.Mode) (ops : Array Oper) (C : World → Prop) (zs : List Nat) (R : Act → World → Prop) : Nat → Array Bool → Act → World → Prop
 | 0,L,a,w => Region.ready md ops L = [] ∧ R a w
 | f + 1,L,a,w => (Region.ready md ops L = [] → R a w) ∧ ∀ i ∈ Region.ready md ops L,wpOp P ops (Ji fun _ _ => False) i (fun a' w' => (i ∉ zs → C w') ∧ Jb P md ops C zs R f (L.setIfInBounds i true) a' w') a w
theorem Qa2 {R : Act → World → Prop} : ∀ (f : Nat) (L : Array Bool) (a : Act) (w : World),Jb P md ops C zs R f L a w → wpAny P md ops (Ji R) f L a w
 | 0,_,_,_,h => h
 | f + 1,_,_,_,h => ⟨h.1,fun i hi => wpOp_mono (fun a' w' h' => Qa2 f _ a' w' h'.2) (Qa4 (h.2 i hi))⟩
/-- What is done has what it waits for done. -/
def U6 (md : Region.Mode) (ops : Array Oper) (L : Array Bool) : Prop:=∀ (j : Nat) (oj : Oper),ops[j]? = some oj → L.getD j false = true → ∀ e ∈ oj.after,Region.binds md e = true → L.getD e.on false = true
theorem U6.set {L : Array Bool} (h : U6 md ops L) {i : Nat} (hi : i ∈ Region.ready md ops L) : U6 md ops (L.setIfInBounds i true):=fun j oj hj hl e he hb => by
 have up : ∀ k,L.getD k false = true → (L.setIfInBounds i true).getD k false = true:=fun k hk => by
  by_cases e1 : i = k
  ·subst e1;rcases Nat.lt_or_ge i L.size with h1 | h1
   ·simp [h1]
   ·simp [Array.getElem?_eq_none h1] at hk
  ·rw [getD_set_ne false e1];exact hk
 refine up _ ?_;obtain ⟨_,oi,hoi,hall⟩:=mem_ready.1 hi;by_cases e1 : i = j
 ·subst e1;have e2 : oj = oi:=Option.some.inj (hj.symm.trans hoi);subst e2;exact hall e he hb
 ·rw [getD_set_ne false e1] at hl;exact h j oj hj hl e he hb
def Ki (md : Region.Mode) (ops : Array Oper) : Nat → Nat → Nat → Bool
 | 0,_,_ => false
 | f + 1,j,i => match ops[j]? with | some oj => oj.after.any fun e => Region.binds md e && (e.on == i || Ki md ops f e.on i) | none => false
theorem Qau {L : Array Bool} (hc : U6 md ops L) {i : Nat} : ∀ (f j : Nat),Ki md ops f j i = true → L.getD j false = true → L.getD i false = true
 | 0,_,h,_ => by cases h
 | f + 1,j,h,hj => by
  unfold Ki at h
  split at h
  ·rename_i oj hoj
   obtain ⟨e,he,hb⟩:=Array.any_eq_true'.1 h;simp only [Bool.and_eq_true,Bool.or_eq_true,beq_iff_eq] at hb;have h1:=hc j oj hoj hj e he hb.1;rcases hb.2 with e1 | e1
   ·rw [← e1];exact h1
   ·exact Qau hc f e.on e1 h1
  ·cases h
theorem Qi5 {L : Array Bool} (hc : U6 md ops L) {i j f : Nat} (h : Ki md ops f j i = true) (hi : L.getD i true = false) (hj : j ∈ Region.ready md ops L) : False:=by
 obtain ⟨_,oj,hoj,hall⟩:=mem_ready.1 hj
 cases f with
 | zero => cases h
 | succ f =>
  unfold Ki at h;rw [hoj] at h;obtain ⟨e,he,hb⟩:=Array.any_eq_true'.1 h;simp only [Bool.and_eq_true,Bool.or_eq_true,beq_iff_eq] at hb;have h1:=hall e he hb.1
  have h2 : L.getD i false = true:=by
   rcases hb.2 with e1 | e1
   ·rw [← e1];exact h1
   ·exact Qau hc f e.on e1 h1
  rw [getD_both hi] at h2;cases h2
theorem Qa0 {R : Act → World → Prop} {i : Nat} {oi : Oper} {v : Value} {f0 : Nat} (hi : ops[i]? = some oi) (hwz : ∀ j,j ∈ zs → Ki md ops f0 j i = true)
  (hsel : ∀ (j : Nat) (o : Oper) cs b,ops[j]? = some o → o.op ≠ .select cs b) :
  ∀ (f : Nat) (L : Array Bool) (a : Act) (w : World),U6 md ops L →
   (∀ j oj,ops[j]? = some oj → j ≠ i → L.getD j true = false → (∀ e ∈ oj.after,Region.binds md e = true → e.on ≠ i) → oi.apart ops oj = true) →
   i ∈ Region.ready md ops L → C w → Xv P ops C oi v a →
   Jb P md ops C zs R f (L.setIfInBounds i true) (a.put oi.dst v) w → Jb P md ops C zs R (f + 1) L a w:=by
 intro f
 induction f with
 | zero =>
  intro L a w hcl _ hr hw hy H;refine ⟨fun h => (by rw [h] at hr;cases hr),fun j hj => ?_⟩;by_cases hji : j = i
  ·subst hji;exact hy.wpOp hi hw ⟨fun _ => hw,H⟩
  ·have:=ready_mono hj hji;rw [H.1] at this
   cases this
 | succ f ih =>
  intro L a w hcl hfree hr hw hy H;refine ⟨fun h => (by rw [h] at hr;cases hr),fun j hj => ?_⟩;by_cases hji : j = i
  ·subst hji;exact hy.wpOp hi hw ⟨fun _ => hw,H⟩
  ·have h1:=H.2 j (ready_mono hj hji);obtain ⟨hjun,oj,hoj,hall⟩:=mem_ready.1 hj
   have hnot : ∀ e ∈ oj.after,Region.binds md e = true → e.on ≠ i:=fun e he hb heq => by
    have h1:=hall e he hb;rw [heq,getD_both (mem_ready.1 hr).1] at h1;cases h1
   have hjz : j ∉ zs:=fun hz => Qi5 hcl (hwz j hz) (mem_ready.1 hr).1 hj
   have h2:=Sr (Q:=Ji fun _ _ => False) hoj (hfree j oj hoj hji hjun hnot) (fun cs b => hsel i oi cs b hi) (fun cs b => hsel j oj cs b hoj) hy h1
   have hfree' : ∀ k ok,ops[k]? = some ok → k ≠ i → (L.setIfInBounds j true).getD k true = false → (∀ e ∈ ok.after,Region.binds md e = true → e.on ≠ i) → oi.apart ops ok = true:=fun k ok hk hki hun hno => by
    refine hfree k ok hk hki ?_ hno;by_cases hjk : j = k
    ·subst hjk;exact hjun
    ·rw [getD_set_ne true hjk] at hun;exact hun
   refine wpOp_mono (fun a' w' h3 => ⟨h3.2.1,ih (L.setIfInBounds j true) a' w' (hcl.set hj) hfree' (ready_mono hr (Ne.symm hji)) (h3.2.1 hjz) h3.1 ?_⟩) h2;rw [Array.setIfInBounds_comm _ _ hji];exact h3.2.2
/-- An operation that looks at no memory, and after which nothing is asked. -/
theorem Qja {R : Act → World → Prop} {i : Nat} {oi : Oper} {v : Value} (hi : ops[i]? = some oi) (hiz : i ∈ zs)
  (hsel : ∀ (j : Nat) (o : Oper) cs b,ops[j]? = some o → o.op ≠ .select cs b) :
  ∀ (f : Nat) (L : Array Bool) (a : Act) (w : World),
   (∀ j oj,ops[j]? = some oj → j ≠ i → L.getD j true = false → (∀ e ∈ oj.after,Region.binds md e = true → e.on ≠ i) → oi.apart ops oj = true) →
   i ∈ Region.ready md ops L → Xv P ops (fun _ => True) oi v a →
   Jb P md ops C zs R f (L.setIfInBounds i true) (a.put oi.dst v) w → Jb P md ops C zs R (f + 1) L a w:=by
 intro f
 induction f with
 | zero =>
  intro L a w _ hr hy H;refine ⟨fun h => (by rw [h] at hr;cases hr),fun j hj => ?_⟩;by_cases hji : j = i
  ·subst hji;exact hy.wpOp hi trivial ⟨fun h => absurd hiz h,H⟩
  ·have:=ready_mono hj hji;rw [H.1] at this
   cases this
 | succ f ih =>
  intro L a w hfree hr hy H;refine ⟨fun h => (by rw [h] at hr;cases hr),fun j hj => ?_⟩;by_cases hji : j = i
  ·subst hji;exact hy.wpOp hi trivial ⟨fun h => absurd hiz h,H⟩
  ·have h1:=H.2 j (ready_mono hj hji);obtain ⟨hjun,oj,hoj,hall⟩:=mem_ready.1 hj
   have hnot : ∀ e ∈ oj.after,Region.binds md e = true → e.on ≠ i:=fun e he hb heq => by
    have h1:=hall e he hb;rw [heq,getD_both (mem_ready.1 hr).1] at h1;cases h1
   have h2:=Sr (Q:=Ji fun _ _ => False) hoj (hfree j oj hoj hji hjun hnot) (fun cs b => hsel i oi cs b hi) (fun cs b => hsel j oj cs b hoj) hy h1
   have hfree' : ∀ k ok,ops[k]? = some ok → k ≠ i → (L.setIfInBounds j true).getD k true = false → (∀ e ∈ ok.after,Region.binds md e = true → e.on ≠ i) → oi.apart ops ok = true:=fun k ok hk hki hun hno => by
    refine hfree k ok hk hki ?_ hno;by_cases hjk : j = k
    ·subst hjk;exact hjun
    ·rw [getD_set_ne true hjk] at hun;exact hun
   refine wpOp_mono (fun a' w' h3 => ⟨h3.2.1,ih (L.setIfInBounds j true) a' w' hfree' (ready_mono hr (Ne.symm hji)) h3.1 ?_⟩) h2;rw [Array.setIfInBounds_comm _ _ hji];exact h3.2.2
def Fe (md : Region.Mode) (ops : Array Oper) (L : Array Bool) : Bool:=(List.range ops.size).all fun j => !(L.getD j false) || (match ops[j]? with | some o => o.after.all fun e => !Region.binds md e || L.getD e.on false | none => true)
theorem P3 {L : Array Bool} (h : Fe md ops L = true) : U6 md ops L:=fun j oj hj hl e he hb => by
 have h1:=List.all_eq_true.1 h j (List.mem_range.2 (Array.getElem?_eq_some_iff.1 hj).1);rw [hl,hj] at h1;simp only [Bool.not_true,Bool.false_or] at h1;have h2:=Array.all_eq_true_iff_forall_mem.1 h1 e he;rw [hb,Bool.not_true,Bool.false_or] at h2;exact h2
def K7 (md : Region.Mode) (ops : Array Oper) (zs : List Nat) : List Nat → Array Bool → Bool
 | [],_ => true
 | k :: ks,L => (Region.ready md ops L).contains k && Region.free md ops L k && (zs.all fun z => Ki md ops ops.size z k) && K7 md ops zs ks (L.setIfInBounds k true)
theorem S7 {W : World} (hW : C W) {A : Act} {g : Nat} (hs : Region.noSelect ops = true) : ∀ (ks : List Nat) (l : List Oper) (L : Array Bool) (a : Act),l.map some = ks.map (fun k => ops[k]?) → Yx l = true → Wf a l = true → U6 md ops L →
  K7 md ops zs ks L = true → (∀ u,C u → wpQuiet P ops (fun w' => w' = u) (fun a' => a' = A) l a) → Jb P md ops C zs R g (Kg ks L) A W → Jb P md ops C zs R (l.length + g) L a W
 | [],[],L,a,_,_,_,_,_,h,H => by
  have e : a = A:=h W hW;subst e;rw [List.length_nil,Nat.zero_add]
  exact H
 | k :: ks,o :: l,L,a,hl,hd,hz,hcl,hB,h,H => by
  simp only [List.map_cons,List.cons.injEq] at hl;have h0 : ops[k]? = some o:=hl.1.symm;simp only [K7,Bool.and_eq_true] at hB;obtain ⟨⟨⟨hr,hf⟩,hwz⟩,hB'⟩:=hB;have hzo:=hz;simp only [Wf,List.all_cons,Bool.and_eq_true] at hzo;obtain ⟨v,hy,hn⟩:=I8 hW hd (fun d he => by have:=hzo.1;rw [he] at this;simpa using this) h;have hd' : Yx l = true:=by simp only [Yx,Bool.and_eq_true] at hd;exact hd.2
  have hsz : (a.put o.dst v).tmps.size = a.tmps.size:=by cases o.dst <;> simp [Act.put]
  rw [show (o :: l).length + g = (l.length + g) + 1 by simp only [List.length_cons];omega]
  exact Qa0 h0 (fun j hj => List.all_eq_true.1 hwz j hj) (Region.noSelect_spec hs) _ L a W hcl (Region.free_spec h0 hf) (by simpa using hr) hW hy
   (S7 hW hs ks l _ _ hl.2 hd' (by unfold Wf;rw [hsz];exact hzo.2) (hcl.set (by simpa using hr)) hB' hn H)
 | [],_ :: _,_,_,hl,_,_,_,_,_,_ => by simp at hl
 | _ :: _,[],_,_,hl,_,_,_,_,_,_ => by simp at hl
theorem Qs {g f : Nat} {L : Array Bool} {a : Act} {w : World} (ks : List Nat) (l : List Oper) (hl : Lh ops ks l) (hB : (Region.noSelect ops && Yx l && Fe md ops L && K7 md ops zs ks L && decide (f = l.length + g)) = true) (hz : Wf a l = true) (hw : C w)
  (h : ∃ A,(∀ u,C u → wpQuiet P ops (fun w' => w' = u) (fun a' => a' = A) l a) ∧ Jb P md ops C zs R g (Kg ks L) A w) : Jb P md ops C zs R f L a w:=by
 obtain ⟨A,h1,h2⟩:=h;simp only [Bool.and_eq_true,decide_eq_true_eq] at hB;obtain ⟨⟨⟨⟨hs,hd⟩,hc⟩,hk⟩,rfl⟩:=hB;exact S7 hw hs ks l L a (Oy hl) hd hz (P3 hc) hk h1 h2
def O0 (md : Region.Mode) (ops : Array Oper) (zs : List Nat) : List Nat → Array Bool → Bool
 | [],_ => true
 | k :: ks,L => (Region.ready md ops L).contains k && Region.free md ops L k && zs.contains k && O0 md ops zs ks (L.setIfInBounds k true)
theorem S0 {W : World} {A : Act} {g : Nat} (hs : Region.noSelect ops = true) : ∀ (ks : List Nat) (l : List Oper) (L : Array Bool) (a : Act),l.map some = ks.map (fun k => ops[k]?) → Yx l = true → Wf a l = true →
  O0 md ops zs ks L = true → (∀ u,True → wpQuiet P ops (fun w' => w' = u) (fun a' => a' = A) l a) → Jb P md ops C zs R g (Kg ks L) A W → Jb P md ops C zs R (l.length + g) L a W
 | [],[],L,a,_,_,_,_,h,H => by
  have e : a = A:=h W trivial;subst e;rw [List.length_nil,Nat.zero_add]
  exact H
 | k :: ks,o :: l,L,a,hl,hd,hz,hB,h,H => by
  simp only [List.map_cons,List.cons.injEq] at hl;have h0 : ops[k]? = some o:=hl.1.symm;simp only [O0,Bool.and_eq_true] at hB;obtain ⟨⟨⟨hr,hf⟩,hkz⟩,hB'⟩:=hB;have hzo:=hz;simp only [Wf,List.all_cons,Bool.and_eq_true] at hzo;obtain ⟨v,hy,hn⟩:=I8 (C:=fun _ => True) (W:=W) trivial hd (fun d he => by have:=hzo.1;rw [he] at this;simpa using this) h;have hd' : Yx l = true:=by simp only [Yx,Bool.and_eq_true] at hd;exact hd.2
  have hsz : (a.put o.dst v).tmps.size = a.tmps.size:=by cases o.dst <;> simp [Act.put]
  rw [show (o :: l).length + g = (l.length + g) + 1 by simp only [List.length_cons];omega]
  exact Qja h0 (by simpa using hkz) (Region.noSelect_spec hs) _ L a W (Region.free_spec h0 hf) (by simpa using hr) hy
   (S0 hs ks l _ _ hl.2 hd' (by unfold Wf;rw [hsz];exact hzo.2) hB' hn H)
 | [],_ :: _,_,_,hl,_,_,_,_,_ => by simp at hl
 | _ :: _,[],_,_,hl,_,_,_,_,_ => by simp at hl
theorem Jy {g f : Nat} {L : Array Bool} {a : Act} {w : World} (ks : List Nat) (l : List Oper) (hl : Lh ops ks l) (hB : (Region.noSelect ops && Yx l && O0 md ops zs ks L && decide (f = l.length + g)) = true) (hz : Wf a l = true)
  (h : ∃ A,(∀ u,True → wpQuiet P ops (fun w' => w' = u) (fun a' => a' = A) l a) ∧ Jb P md ops C zs R g (Kg ks L) A w) : Jb P md ops C zs R f L a w:=by
 obtain ⟨A,h1,h2⟩:=h;simp only [Bool.and_eq_true,decide_eq_true_eq] at hB;obtain ⟨⟨⟨hs,hd⟩,hk⟩,rfl⟩:=hB;exact S0 hs ks l L a (Oy hl) hd hz hk h1 h2
theorem Ql {f : Nat} {L : Array Bool} {a : Act} {w : World} {o : Oper} (k : Nat) (ho : ops[k]? = some o) (hB : decide (Region.ready md ops L = [k]) = true)
  (h : wpList P ops (Ji fun a' w' => C w' ∧ Jb P md ops C zs R f (L.setIfInBounds k true) a' w') [o] a w) : Jb P md ops C zs R (f + 1) L a w:=by
 have hB:=of_decide_eq_true hB;refine ⟨fun h => (by rw [hB] at h;cases h),fun j hj => ?_⟩;rw [hB,List.mem_singleton] at hj;subst hj;refine wpOp_mono (fun a' w' h' => ⟨fun _ => h'.1,h'.2⟩) (X1 (Wi ho h))
theorem Zh {f : Nat} {L : Array Bool} {a : Act} {w : World} {o1 o2 : Oper} (k1 k2 : Nat) (h1 : ops[k1]? = some o1) (h2 : ops[k2]? = some o2) (hB : decide (Region.ready md ops L = [k1,k2]) = true)
  (ha : wpList P ops (Ji fun a' w' => C w' ∧ Jb P md ops C zs R f (L.setIfInBounds k1 true) a' w') [o1] a w)
  (hb : wpList P ops (Ji fun a' w' => C w' ∧ Jb P md ops C zs R f (L.setIfInBounds k2 true) a' w') [o2] a w) : Jb P md ops C zs R (f + 1) L a w:=by
 have hB:=of_decide_eq_true hB;refine ⟨fun h => (by rw [hB] at h;cases h),fun j hj => ?_⟩;rw [hB] at hj;rcases List.mem_cons.1 hj with rfl | hj
 ·exact wpOp_mono (fun a' w' h' => ⟨fun _ => h'.1,h'.2⟩) (X1 (Wi h1 ha))
 ·rw [List.mem_singleton] at hj;subst hj;exact wpOp_mono (fun a' w' h' => ⟨fun _ => h'.1,h'.2⟩) (X1 (Wi h2 hb))
/-- Three that may come up next. -/
theorem X3 {f : Nat} {L : Array Bool} {a : Act} {w : World} {o1 o2 o3 : Oper} (k1 k2 k3 : Nat) (h1 : ops[k1]? = some o1) (h2 : ops[k2]? = some o2) (h3 : ops[k3]? = some o3) (hB : decide (Region.ready md ops L = [k1,k2,k3]) = true)
  (ha : wpList P ops (Ji fun a' w' => C w' ∧ Jb P md ops C zs R f (L.setIfInBounds k1 true) a' w') [o1] a w)
  (hb : wpList P ops (Ji fun a' w' => C w' ∧ Jb P md ops C zs R f (L.setIfInBounds k2 true) a' w') [o2] a w)
  (hc : wpList P ops (Ji fun a' w' => C w' ∧ Jb P md ops C zs R f (L.setIfInBounds k3 true) a' w') [o3] a w) : Jb P md ops C zs R (f + 1) L a w:=by
 have hB:=of_decide_eq_true hB;refine ⟨fun h => (by rw [hB] at h;cases h),fun j hj => ?_⟩;rw [hB] at hj;rcases List.mem_cons.1 hj with rfl | hj
 ·exact wpOp_mono (fun a' w' h' => ⟨fun _ => h'.1,h'.2⟩) (X1 (Wi h1 ha))
 ·rcases List.mem_cons.1 hj with rfl | hj
  ·exact wpOp_mono (fun a' w' h' => ⟨fun _ => h'.1,h'.2⟩) (X1 (Wi h2 hb))
  ·rw [List.mem_singleton] at hj;subst hj;exact wpOp_mono (fun a' w' h' => ⟨fun _ => h'.1,h'.2⟩) (X1 (Wi h3 hc))
/-- Behind one of zs nothing is asked of the world. -/
theorem Qr {f : Nat} {L : Array Bool} {a : Act} {w : World} {o : Oper} (k : Nat) (ho : ops[k]? = some o) (hB : (zs.contains k && decide (Region.ready md ops L = [k])) = true)
  (h : wpList P ops (Ji fun a' w' => Jb P md ops C zs R f (L.setIfInBounds k true) a' w') [o] a w) : Jb P md ops C zs R (f + 1) L a w:=by
 simp only [Bool.and_eq_true,decide_eq_true_eq] at hB;refine ⟨fun h => (by rw [hB.2] at h;cases h),fun j hj => ?_⟩;rw [hB.2,List.mem_singleton] at hj;subst hj;exact wpOp_mono (fun a' w' h' => ⟨fun h => absurd (by simpa using hB.1) h,h'⟩) (X1 (Wi ho h))
theorem Qv {L : Array Bool} {a : Act} {w : World} (hB : decide (Region.ready md ops L = []) = true) (h : R a w) : Jb P md ops C zs R 0 L a w:=⟨of_decide_eq_true hB,h⟩
end
theorem Zb {P : Program} {id : Nat} {Q : Exit → Act → World → Prop} {a : Act} {w : World} {l : List Oper} (n : Nat) (zs : List Nat) (C : World → Prop) (hm : P.follows .mixedOrders = true) (hn : n = l.length)
  (h : ∀ w',Qb w w' → Jb P .any l.toArray C zs (fun a w => Q .normal a w) n (Array.replicate n false) a w') : (Code.region id l.toArray true).wp P Q a w:=by
 have H:=h { w with drawn:=w.drawn + 1 } ⟨rfl,rfl,rfl,Nat.le_refl _,fun _ _ => rfl⟩;refine Code.wp_mono (Q:=Ji fun a w => Q .normal a w) (fun e a' w' h' => by cases e <;> first | exact h' | exact False.elim h') (wp_region_any hm (Qa2 (C:=C) (zs:=zs) _ _ _ _ ?_));subst hn
 simpa using H
theorem Qq {S : Act → World → Prop} {a : Act} {w : World} (h : S a w) : Ji (fun a' w' => S a' w') .normal a w:=h
end
section
open Go Go.RowKit Go.Shelf
attribute [local go_sem] Z5
/-- The global 'zero' holds 0/1. -/
def Z6 (w : World) : Prop:=w.cell? ⟨0,0,none⟩ = some (.int .i64 0) ∧ w.cell? ⟨0,1,none⟩ = some (.int .i64 1) ∧ 0 < w.heap.size
theorem Z6.ext {w w' : World} (h : Z6 w) (e : Qb w w') : Z6 w':=⟨(e.cell (p:=⟨0,0,none⟩) h.2.2).trans h.1,(e.cell (p:=⟨0,1,none⟩) h.2.2).trans h.2.1,Nat.lt_of_lt_of_le h.2.2 e.size⟩
def Y8 (f : Nat → Rt) (i : Nat) : List Value:=[.int .i64 (f i).n,.int .i64 (f i).d]
theorem Qal (g : Nat → Nat) (k : Nat) : Zw (Zg g) k ++ [.int .u64 (g k : Int)] = Zw (Zg g) (k + 1):=by rw [V6];rfl
theorem Qej {W : World} {b : Nat} {t : TypeId} {v0 v1 : Value} (h : Qa W b t #[v0,v1]) (u : Value) : Qa (W.setCell ⟨b,0,none⟩ u) b t #[u,v1]:=by unfold Qa at h ⊢;simp [World.setCell,Array.getElem?_modify,h]
theorem Qek {W : World} {b : Nat} {t : TypeId} {v0 v1 : Value} (h : Qa W b t #[v0,v1]) (u : Value) : Qa (W.setCell ⟨b,1,none⟩ u) b t #[v0,u]:=by unfold Qa at h ⊢;simp [World.setCell,Array.getElem?_modify,h]
def Vu (p q : Value) : Prop:=∀ x y,p.ownBlock = some x → q.ownBlock = some y → x ≠ y
theorem Qbj {p q : Value} (h : Vu p q) : q.ownBlock = none ∨ q.ownBlock ≠ p.ownBlock:=by
 cases e : q.ownBlock with
 | none => exact .inl rfl
 | some y => exact .inr (fun h' => h y y h'.symm e rfl)
theorem Qbk {p q : Value} (h : Vu p q) : p.ownBlock = none ∨ p.ownBlock ≠ q.ownBlock:=by
 cases e : p.ownBlock with
 | none => exact .inl rfl
 | some y => exact .inr (fun h' => h y y e h'.symm rfl)
theorem Qbh {p q p' : Value} {w : World} {base size n : Nat} {e : TypeId} {xs : List Value} (h : Vu p q) (hloc : p'.ownBlock = p.ownBlock ∨ p'.ownBlock = some w.heap.size) (hq : w.ownsRow base e size q n xs) : Vu p' q:=fun x y hx hy => by
 rcases hloc with e | e
 ·exact h x y (e.symm.trans hx) hy
 ·rw [e] at hx;cases hx;have:=(hq.lt y hy).2;omega
theorem Qbi {p q p' : Value} {w : World} {base size n : Nat} {e : TypeId} {xs : List Value} (h : Vu q p) (hloc : p'.ownBlock = p.ownBlock ∨ p'.ownBlock = some w.heap.size) (hq : w.ownsRow base e size q n xs) : Vu q p':=fun x y hx hy => by
 rcases hloc with e | e
 ·exact h x y hx (e.symm.trans hy)
 ·rw [e] at hy;cases hy;have:=(hq.lt x hx).2;omega
set_option maxHeartbeats 8000000 in
theorem Qf0 (A : Option Addr) (n ca : Nat) (f : Nat → Rt) (w : World) (hA : Qp w A n 2 (Y8 f)) (hn : n ≤ 1000) (hok : ∀ i,i < n → (f i).ok = true) (hZ : Z6 w) :
  Calls Tryz.prog 122 #[.slice A n ca] w fun e w' => e = .returned (.tuple #[.agg #[.int .i64 (Wx f n).1.n,.int .i64 (Wx f n).1.d],.int .i64 (Wx f n).2]) ∧ Qb w w':=by
 obtain ⟨i0,hi,hz0,hz1,hz2⟩:=info_parts Rk;obtain ⟨R,hR0⟩:=Qg (Wx f n);rw [← hR0];have HR:=Lib.hid hR0;clear hR0
 go_enter Tryz.func122,Tryz.ntmps122
 go_upto_region 1 with (fail)
 obtain ⟨v0,hv⟩:=Qg (w.alloc (.cells #[.int .i64 0,.int .i64 0] 65));rw [← hv];have E : Qb w v0:=by rw [hv];exact (Qb.refl _).alloc _
 have B1 : Qa v0 w.heap.size 65 #[.int .i64 0,.int .i64 0]:=by rw [hv];exact Qa.new _ _ _
 clear hv;have RA:=hA.ext E;have Z0:=hZ.ext E;clear hA hZ;obtain ⟨b1,hb1⟩:=Qg (w.heap.size);rw [← hb1] at B1 ⊢;have hb1':=Nat.le_of_eq hb1.symm;clear hb1;go_upto_region 4 with (fail)
 obtain ⟨v,hv⟩:=Qg (v0.alloc (.cells #[.slice none 0 0,.slice none 0 0] 252));rw [← hv];have E0 : Qb v0 v:=by rw [hv];exact (Qb.refl _).alloc _
 have B2 : Qa v v0.heap.size 252 #[.slice none 0 0,.slice none 0 0]:=by rw [hv];exact Qa.new _ _ _
 clear hv;obtain ⟨b2,hb2⟩:=Qg (v0.heap.size);rw [← hb2] at B2 ⊢;have hb2':=Nat.le_of_eq hb2.symm;have l12 : b1 < b2:=by have:=B1.lt;omega
 clear hb2
 go_loopw [5,10] (fun ng iv wr => ∃ k : Nat,k ≤ n ∧ iv = .int .i64 k ∧ ng = .bool (L9 f k) ∧ Hid (∀ i,i < k → (f i).n ≠ 0) ∧ ∃ vu vd,Qb v0 wr ∧ Qa wr b2 252 #[vu,vd] ∧ wr.ownsRow (b2 + 1) 245 1 vu k (Zw (Zg fun i => (f i).n.natAbs) k) ∧ wr.ownsRow (b2 + 1) 245 1 vd k (Zw (Zg fun i => (f i).d.natAbs) k) ∧ Vu vu vd) (fun _ iv _ => n - (intOf iv).toNat)
 case atStart => exact ⟨0,Nat.zero_le _,rfl,rfl,(fun i h => absurd h (by omega)),_,_,E0,B2,World.ownsRow_nil _ _ _ _,World.ownsRow_nil _ _ _ _,fun x y h _ => by cases h⟩
 case round =>
  obtain ⟨k,hk,rfl,rfl,hnz,vu,vd,hE,HB,hU,hD,hap⟩:=hrel;obtain ⟨wo,rfl⟩:=Qg wr;clear E0 B2;by_cases hlt : k < n
  ·have hokk:=hok k hlt;obtain ⟨d1,d2,n1,n2,_⟩:=J2 hokk;have Nn:=fun w => Uj (f k).n (by omega) (by omega) w
   have Nd:=fun w => Uj (f k).d (by omega) (by omega) w
   obtain ⟨b,off,rfl,hb,hc⟩:=(RA.ext hE) (by omega);have c0 : wo.cell? ⟨b,off + k * 2,none⟩ = some (.int .i64 (f k).n):=by simpa [Y8] using hc k 0 _ hlt rfl
   have c1 : wo.cell? ⟨b,off + k * 2 + 1,none⟩ = some (.int .i64 (f k).d):=by simpa [Y8] using hc k 1 _ hlt rfl
   clear hc;go_upto_region 6 with (fail)
   obtain ⟨v3,hv⟩:=Qg (wo.alloc (.cells #[.int .i64 (f k).n,.int .i64 (f k).d] 65));rw [← hv];have E3 : Qb wo v3:=by rw [hv];exact (Qb.refl _).alloc _
   have H3 : Qa v3 wo.heap.size 65 #[.int .i64 (f k).n,.int .i64 (f k).d]:=by rw [hv];exact Qa.new _ _ _
   clear hv c0 c1;obtain ⟨b3,hb3⟩:=Qg (wo.heap.size);rw [← hb3] at H3 ⊢;have hb32 : b3 ≠ b2:=by have:=HB.lt;omega
   clear hb3;replace hE:=hE.trans E3;replace HB:=HB.ext E3;replace hU:=Jp hU E3;replace hD:=Jp hD E3;clear E3;obtain ⟨q0,q1⟩:=H3.c2;have lq:=H3.lt;by_cases h0 : (f k).n = 0
   ·have hz : Hid (R = (⟨0,1⟩,0)):=by
     unfold Hid;rw [HR.out];unfold Wx;rw [(Qap (f:=fun i => (f i).n.natAbs) n).2 ⟨k,hlt,by simp only [h0];rfl⟩];exact Te (La n fun i hi => by have:=(J2 (hok i hi)).1;omega)
    have B1v:=B1.ext hE;obtain ⟨z0,z1,lz⟩:=Z0.ext hE;have f0:=B1v.frozen 0;have f1:=B1v.frozen 1;obtain ⟨x0,x1⟩:=B1v.c2;have lx:=B1v.lt;have EF:=((E.trans hE).setCell (p:=⟨b1,0,none⟩) hb1' (.int .i64 0)).setCell (p:=⟨b1,1,none⟩) hb1' (.int .i64 1);have H4:=Qm B1v (.int .i64 0) (.int .i64 1);obtain ⟨y0,y1⟩:=H4.c2;rw [h0] at q0;have hzo:=hz.out;clear h0 hz HR hU hD HB hap hnz Nn Nd;subst hzo;go_wp2;refine bodyPost_ret (v:=.tuple #[.agg #[.int .i64 0,.int .i64 1],.int .i64 0]) (by simp [results,Tryz.results122,go_sem,y0,y1]) rfl ⟨rfl,EF⟩
   ·have h0b : ((f k).n == 0) = false:=beq_eq_false_iff_ne.2 h0;go_upto_region 8 with (fail)
    clear q0 q1 lq;refine Zb 9 [8] (fun x => Qb v0 x ∧ Qa x b2 252 #[vu,vd] ∧ Qa x b3 65 #[.int .i64 (f k).n,.int .i64 (f k).d]) Qo rfl ?_;intro vz hvz;replace hE:=hE.trans hvz;replace HB:=HB.ext hvz;replace H3:=H3.ext hvz;replace hU:=Jp hU hvz;replace hD:=Jp hD hvz;clear hvz;refine Qs (g:=5) [0,1,2,3] [_,_,_,_] ⟨rfl,rfl,rfl,rfl,trivial⟩ (by kernel_rfl) (by kernel_rfl) ⟨hE,HB,H3⟩ ?_;simp only [Qc,Qd,Qe];apply Exists.intro;refine ⟨fun u hu => ?_,?_⟩
    ·obtain ⟨k0,k1⟩:=hu.2.1.c2;obtain ⟨q0,q1⟩:=hu.2.2.c2;have lk:=hu.2.1.lt;have lq:=hu.2.2.lt;repeat (first | go_big_quiet_skip | (go_big_quiet_want;go_big_quiet_op;go_big_quiet_on))
     refine wpQuiet_nil ?_;rfl
    refine Ql 4 rfl (by kernel_rfl) ?_;simp only [Qc,Qd,Qe];go_wp2_with (go_at_call 162;(with_reducible refine Calls.mono (Nn _) ?_);rintro e va ⟨rfl,h4⟩);replace hE:=hE.trans h4;replace HB:=HB.ext h4;replace H3:=H3.ext h4;replace hU:=Jp hU h4;replace hD:=Jp hD h4;clear h4;refine Qh ⟨hE,HB,H3⟩ ?_;refine Ql 5 rfl (by kernel_rfl) ?_;simp only [Qc,Qd,Qe];go_wp2;refine Qh ⟨hE.alloc _,HB.alloc _,H3.alloc _⟩ ?_;refine Ql 6 rfl (by kernel_rfl) ?_;simp only [Qc,Qd,Qe];go_wp2_with (at_builtin;refine wpList_append_own_at _ rfl _ _ 250 rfl (b2 + 1) 245 i0 (.int .u64 0) 1 8 Tryz.underlying250 hi hz0 hz1 hz2 rfl (by decide) _ _ _ rfl (hU.alloc _) ⟨va.heap.size,0,none⟩ 1 1 [.int .u64 ((f k).n.natAbs : Int)] rfl rfl (V0 _ _ _) (by simp [Value.oneCell']) (by unfold maxLen;omega) (by omega) (by have:=HB.lt;simp;omega) ?_;intro vu' vb hown hgrow hnl hloc;clear hnl)
    have hEb : Qb v0 vb:=(hE.alloc _).grown hgrow (fun q hq => by have:=(hU.lt q hq).1;omega);have HBb:=Qa.kept (HB.alloc _) hgrow (HB.not_row (by decide) hU);have H3b:=Qa.kept (H3.alloc _) hgrow (H3.not_row (by decide) hU);have hOb:=World.ownsRow.kept (hD.alloc _) hgrow (Qbj hap);rw [Qal (fun i => (f i).n.natAbs) k] at hown;have hap2:=Qbh hap hloc (hD.alloc _);clear hgrow hloc hap hU hD hE HB H3 ;obtain ⟨fa,ma,rfl⟩:=Ya hown;refine Qh ⟨hEb,HBb,H3b⟩ ?_;refine Qs (g:=1) [7] [_] ⟨rfl,trivial⟩ (by kernel_rfl) (by kernel_rfl) ⟨hEb,HBb,H3b⟩ ?_;simp only [Qc,Qd,Qe];apply Exists.intro;refine ⟨fun u hu => ?_,?_⟩
    ·have lk:=hu.2.1.lt;repeat (first | go_big_quiet_skip | (go_big_quiet_want;go_big_quiet_op;go_big_quiet_on))
     refine wpQuiet_nil ?_;rfl
    refine Qr 8 rfl (by kernel_rfl) ?_;simp only [Qc,Qd,Qe];have f0:=HBb.frozen 0;obtain ⟨z0,z1⟩:=HBb.c2;have lz:=HBb.lt;have HB:=Qej HBb (.slice fa (k + 1) ma);have H3:=Qi H3b hb32 0 (.slice fa (k + 1) ma);have hU:=ownsRow_setCell_below hown (a:=⟨b2,0,none⟩) (Nat.lt_succ_self b2) (.slice fa (k + 1) ma);have hD:=ownsRow_setCell_below hOb (a:=⟨b2,0,none⟩) (Nat.lt_succ_self b2) (.slice fa (k + 1) ma);have hE:=hEb.setCell (p:=⟨b2,0,none⟩) hb2' (.slice fa (k + 1) ma);have hap:=hap2;go_wp2;refine Qq ?_;refine Qv (by kernel_rfl) ?_;generalize World.setCell vb _ _ = vc at *;generalize va.heap.size = szv0 at *;clear f0 z0 z1 lz HBb H3b hown hOb hEb hap2 va
    go_upto_region 9 with (fail)
    refine Zb 9 [8] (fun x => Qb v0 x ∧ Qa x b2 252 #[.slice fa (k + 1) ma,vd] ∧ Qa x b3 65 #[.int .i64 (f k).n,.int .i64 (f k).d]) Qo rfl ?_;intro vz hvz;replace hE:=hE.trans hvz;replace HB:=HB.ext hvz;replace H3:=H3.ext hvz;replace hU:=Jp hU hvz;replace hD:=Jp hD hvz;clear hvz;refine Qs (g:=5) [0,1,2,3] [_,_,_,_] ⟨rfl,rfl,rfl,rfl,trivial⟩ (by kernel_rfl) (by kernel_rfl) ⟨hE,HB,H3⟩ ?_;simp only [Qc,Qd,Qe];apply Exists.intro;refine ⟨fun u hu => ?_,?_⟩
    ·obtain ⟨k0,k1⟩:=hu.2.1.c2;obtain ⟨q0,q1⟩:=hu.2.2.c2;have lk:=hu.2.1.lt;have lq:=hu.2.2.lt;repeat (first | go_big_quiet_skip | (go_big_quiet_want;go_big_quiet_op;go_big_quiet_on))
     refine wpQuiet_nil ?_;rfl
    refine Ql 4 rfl (by kernel_rfl) ?_;simp only [Qc,Qd,Qe];go_wp2_with (go_at_call 162;(with_reducible refine Calls.mono (Nd _) ?_);rintro e va ⟨rfl,h4⟩);replace hE:=hE.trans h4;replace HB:=HB.ext h4;replace H3:=H3.ext h4;replace hU:=Jp hU h4;replace hD:=Jp hD h4;clear h4;refine Qh ⟨hE,HB,H3⟩ ?_;refine Ql 5 rfl (by kernel_rfl) ?_;simp only [Qc,Qd,Qe];go_wp2;refine Qh ⟨hE.alloc _,HB.alloc _,H3.alloc _⟩ ?_;refine Ql 6 rfl (by kernel_rfl) ?_;simp only [Qc,Qd,Qe];go_wp2_with (at_builtin;refine wpList_append_own_at _ rfl _ _ 250 rfl (b2 + 1) 245 i0 (.int .u64 0) 1 8 Tryz.underlying250 hi hz0 hz1 hz2 rfl (by decide) _ _ _ rfl (hD.alloc _) ⟨va.heap.size,0,none⟩ 1 1 [.int .u64 ((f k).d.natAbs : Int)] rfl rfl (V0 _ _ _) (by simp [Value.oneCell']) (by unfold maxLen;omega) (by omega) (by have:=HB.lt;simp;omega) ?_;intro vd' vb hown hgrow hnl hloc;clear hnl)
    have hEb : Qb v0 vb:=(hE.alloc _).grown hgrow (fun q hq => by have:=(hD.lt q hq).1;omega);have HBb:=Qa.kept (HB.alloc _) hgrow (HB.not_row (by decide) hD);have H3b:=Qa.kept (H3.alloc _) hgrow (H3.not_row (by decide) hD);have hOb:=World.ownsRow.kept (hU.alloc _) hgrow (Qbk hap);rw [Qal (fun i => (f i).d.natAbs) k] at hown;have hap2:=Qbi hap hloc (hU.alloc _);clear hgrow hloc hap hU hD hE HB H3 ;obtain ⟨fb,mb,rfl⟩:=Ya hown;refine Qh ⟨hEb,HBb,H3b⟩ ?_;refine Qs (g:=1) [7] [_] ⟨rfl,trivial⟩ (by kernel_rfl) (by kernel_rfl) ⟨hEb,HBb,H3b⟩ ?_;simp only [Qc,Qd,Qe];apply Exists.intro;refine ⟨fun u hu => ?_,?_⟩
    ·have lk:=hu.2.1.lt;repeat (first | go_big_quiet_skip | (go_big_quiet_want;go_big_quiet_op;go_big_quiet_on))
     refine wpQuiet_nil ?_;rfl
    refine Qr 8 rfl (by kernel_rfl) ?_;simp only [Qc,Qd,Qe];have f0:=HBb.frozen 1;obtain ⟨z0,z1⟩:=HBb.c2;have lz:=HBb.lt;have HB:=Qek HBb (.slice fb (k + 1) mb);have H3:=Qi H3b hb32 1 (.slice fb (k + 1) mb);have hD:=ownsRow_setCell_below hown (a:=⟨b2,1,none⟩) (Nat.lt_succ_self b2) (.slice fb (k + 1) mb);have hU:=ownsRow_setCell_below hOb (a:=⟨b2,1,none⟩) (Nat.lt_succ_self b2) (.slice fb (k + 1) mb);have hE:=hEb.setCell (p:=⟨b2,1,none⟩) hb2' (.slice fb (k + 1) mb);have hap:=hap2;go_wp2;refine Qq ?_;refine Qv (by kernel_rfl) ?_;generalize World.setCell vb _ _ = vc at *;generalize va.heap.size = szv1 at *;clear f0 z0 z1 lz HBb H3b hown hOb hEb hap2 va
    obtain ⟨q0,q1⟩:=H3.c2;have lq:=H3.lt
    have hnz' : Hid (∀ i,i < k + 1 → (f i).n ≠ 0):=fun i hi => by
     by_cases e : i = k
     ·subst e;exact h0
     ·exact hnz.out i (by omega)
    clear hnz h0 h0b HR RA Z0 hok;go_wp2;exact ⟨⟨k + 1,by omega,by go_num,rfl,hnz',_,_,hE,HB,hU,hD,hap⟩,by simp [intOf];omega⟩
  ·obtain rfl : k = n := by omega
   obtain ⟨F1,c1,rfl⟩:=Ya hU;obtain ⟨F2,c2,rfl⟩:=Ya hD;obtain ⟨F3,c3,hf1,ra,hc1,hc1',hn1,_⟩:=Ve (f:=Zg fun i => (f i).n.natAbs) (sz:=1) (fun _ => rfl) hU;obtain ⟨F4,c4,hf2,rb,hc2,hc2',hn2,_⟩:=Ve (f:=Zg fun i => (f i).d.natAbs) (sz:=1) (fun _ => rfl) hD;obtain ⟨rfl,rfl⟩ : F1 = F3 ∧ c1 = c3:=by simpa using hf1
   obtain ⟨rfl,rfl⟩ : F2 = F4 ∧ c2 = c4:=by simpa using hf2
   have NR:=fun w h1 h2 => Tf F1 F2 k k c1 c2 (fun i => (f i).n.natAbs) (fun i => (f i).d.natAbs) (L9 f k) w h1 h2 hn1 hn2 hn hn (fun i hi => by have:=hnz.out i hi;omega) (fun i hi => by have:=J2 (hok i hi);omega) (fun i hi => by have:=J2 (hok i hi);omega) (fun i hi => by have:=J2 (hok i hi);omega)
   rw [show Jk (L9 f k) (upTo (fun i => (f i).n.natAbs) k) (upTo (fun i => (f i).d.natAbs) k) = R from HR.out.symm] at NR;obtain ⟨k0,k1⟩:=HB.c2;have lk:=HB.lt;clear hf1 hf2 hc1 hc2 hc1' hc2' hn1 hn2 hnz hok HR hU hD hap RA Z0;obtain ⟨⟨Rn,Rd⟩,Re⟩:=R;go_wp2_with (go_at_call 163;(with_reducible refine Calls.mono (NR _ ra rb) ?_);rintro e w2 ⟨rfl,h2⟩;have B3:=B1.ext (hE.trans h2);have f0:=B3.frozen 0;have f1:=B3.frozen 1;obtain ⟨x0,x1⟩:=B3.c2;have lx:=B3.lt);have H4:=Qm B3 (.int .i64 Rn) (.int .i64 Rd);have EF:=(((E.trans hE).trans h2).setCell (p:=⟨b1,0,none⟩) hb1' (.int .i64 Rn)).setCell (p:=⟨b1,1,none⟩) hb1' (.int .i64 Rd);obtain ⟨y0,y1⟩:=H4.c2
   go_wp2;refine bodyPost_ret (v:=.tuple #[.agg #[.int .i64 Rn,.int .i64 Rd],.int .i64 Re]) (by simp [results,Tryz.results122,go_sem,y0,y1]) rfl ⟨rfl,EF⟩
def Rt.In (r : Rt) : Prop:=-9223372036854775808 ≤ r.n ∧ r.n ≤ 9223372036854775807 ∧ -9223372036854775808 ≤ r.d ∧ r.d ≤ 9223372036854775807
theorem Eh {r : Rt} (h : r.ok = true) : r.In:=by have:=J2 h;unfold Rt.In;omega
theorem Ke {w : World} {b n sz : Nat} {t : TypeId} {f : Nat → List Value} (hf : ∀ i,(f i).length = sz) (h : Qa w b t (Zw f n).toArray) : Qp w (some ⟨b,0,none⟩) n sz f:=fun _ => by
 refine ⟨b,0,rfl,h.lt,fun i j v hi hv => ?_⟩;have hj : j < sz:=by have:=(List.getElem?_eq_some_iff.1 hv).1;rwa [hf] at this
 rw [show (0 : Nat) + i * sz + j = i * sz + j by omega,h.cell,List.getElem?_toArray,V5 hf hi hj,hv]
theorem Oj (A : Option Addr) (n ca : Nat) (f : Nat → Rt) (w : World) (hA : Qp w A n 2 (Y8 f)) (hn : n ≤ 9223372036854775807) (hin : ∀ i,i < n → (f i).In) :
  Calls Tryz.prog 70 #[.slice A n ca] w fun e w' => e = .returned (.bool ((List.range n).all fun i => (f i).nn)) ∧ Qb w w':=by
 obtain ⟨R,hR0⟩:=Qg ((List.range n).all fun i => (f i).nn);rw [← hR0];have HR:=Lib.hid hR0;clear hR0
 go_enter Tryz.func70,Tryz.ntmps70
 go_upto_region 2 with (fail)
 go_loopw [7] (fun i wr => ∃ k : Nat,k ≤ n ∧ i = .int .i64 k ∧ Hid (∀ j,j < k → (f j).nn = true) ∧ Qb w wr) (fun i _ => n - (intOf i).toNat)
 case atStart => exact ⟨0,Nat.zero_le _,rfl,(fun j h => absurd h (by omega)),Qb.refl _⟩
 case round =>
  obtain ⟨k,hk,rfl,hall,hE⟩:=hrel;obtain ⟨wo,rfl⟩:=Qg wr;by_cases hlt : k < n
  ·obtain ⟨b, off, rfl, hb, hc⟩ := (hA.ext hE) (by omega);have c0 : wo.cell? ⟨b, off + k * 2, none⟩ = some (.int .i64 (f k).n) := by simpa [Y8] using hc k 0 _ hlt rfl
   have c1 : wo.cell? ⟨b,off + k * 2 + 1,none⟩ = some (.int .i64 (f k).d):=by simpa [Y8] using hc k 1 _ hlt rfl
   obtain ⟨h1,h2,h3,h4⟩:=hin k hlt;have NR:=fun w => Ud (f k).n (f k).d h1 h2 h3 h4 w
   have hno : Hid ((f k).nn = false → R = false):=fun h => by
    rw [HR.out];exact List.all_eq_false.2 ⟨k,by simpa using hlt,by simp [h]⟩
   have hyes : Hid ((f k).nn = true → ∀ j,j < k + 1 → (f j).nn = true):=fun h j hj => by
    by_cases e : j = k
    ·subst e;exact h
    ·exact hall.out j (by omega)
   have hnn : Hid ((f k).nn = (Rt.ok ⟨(f k).n,(f k).d⟩ && decide (0 ≤ (f k).n))):=rfl;clear hc hin hA h1 h2 h3 h4 hall HR;go_upto_region 4 with (fail)
   obtain ⟨v3,hv⟩:=Qg (wo.alloc (.cells #[.int .i64 (f k).n,.int .i64 (f k).d] 65));rw [← hv];have E3 : Qb wo v3:=by rw [hv];exact (Qb.refl _).alloc _
   have H3 : Qa v3 wo.heap.size 65 #[.int .i64 (f k).n,.int .i64 (f k).d]:=by rw [hv];exact Qa.new _ _ _
   clear hv c0 c1;replace hE:=hE.trans E3;generalize wo.heap.size = b3 at *;clear E3;obtain ⟨q0,q1⟩:=H3.c2;have lq:=H3.lt;generalize Rt.ok ⟨(f k).n,(f k).d⟩ = ok at *;cases ok
   ·go_wp2_with (go_at_call 121;(with_reducible refine Calls.mono (NR _) ?_);rintro e w2 ⟨rfl,h⟩);go_ret;exact ⟨by rw [hno.out (by rw [hnn.out];rfl)];rfl,hE.trans h⟩
   ·by_cases h0 : (f k).n < 0
    ·have g1 : decide ((f k).n < 0) = true:=decide_eq_true h0;have g2 : decide (0 ≤ (f k).n) = false:=decide_eq_false (by omega);have hx:=hno.out (by rw [hnn.out,g2];rfl);clear h0 g2;go_wp2_with (go_at_call 121;(with_reducible refine Calls.mono (NR _) ?_);rintro e w2 ⟨rfl,h⟩;clear q0 q1 lq;obtain ⟨q0,q1⟩:=(H3.ext h).c2;have lq:=(H3.ext h).lt);go_ret;exact ⟨by rw [hx];rfl,hE.trans h⟩
    ·have g1 : decide ((f k).n < 0) = false:=decide_eq_false h0;have g2 : decide (0 ≤ (f k).n) = true:=decide_eq_true (by omega);have hx:=Lib.hid (hyes.out (by rw [hnn.out,g2];rfl));clear h0 g2;go_wp2_with (go_at_call 121;(with_reducible refine Calls.mono (NR _) ?_);rintro e w2 ⟨rfl,h⟩;clear q0 q1 lq;obtain ⟨q0,q1⟩:=(H3.ext h).c2;have lq:=(H3.ext h).lt);exact ⟨⟨k + 1,by omega,by go_num,hx,hE.trans h⟩,by simp [intOf];omega⟩
  ·obtain rfl : k = n := by omega
   have hx : R = true:=by
    rw [HR.out];exact List.all_eq_true.2 fun j hj => hall.out j (by simpa using hj)
   clear HR hall hin hA;go_wp2;go_ret;exact ⟨by rw [hx];rfl,hE⟩
theorem Ia (A : Option Addr) (n ca : Nat) (f : Nat → Rt) (w : World) (hA : Qp w A n 2 (Y8 f)) (hn0 : n ≤ 9223372036854775807) (hin : ∀ i,i < n → (f i).In) (hZ : Z6 w) :
  Calls Tryz.prog 71 #[.slice A n ca] w fun e w' => e = .returned (.tuple #[.agg #[.int .i64 (Ym f n).1.n,.int .i64 (Ym f n).1.d],.int .i64 (Ym f n).2]) ∧ Qb w w':=by
 obtain ⟨R,hR0⟩:=Qg (Ym f n);rw [← hR0];have HR:=Lib.hid hR0;clear hR0
 go_enter Tryz.func71,Tryz.ntmps71
 go_upto_region 1 with (fail)
 obtain ⟨v,hv⟩:=Qg (w.alloc (.cells #[.int .i64 0,.int .i64 0] 65));rw [← hv];have E : Qb w v:=by rw [hv];exact (Qb.refl _).alloc _
 have B1 : Qa v w.heap.size 65 #[.int .i64 0,.int .i64 0]:=by rw [hv];exact (Qa.new _ _ _)
 clear hv;obtain ⟨b1,hb1⟩:=Qg (w.heap.size);rw [← hb1] at B1 ⊢;have hbr : w.heap.size ≤ b1:=by omega
 clear hb1;have RA:=hA.ext E;have Z0:=hZ.ext E;clear hA hZ;by_cases h64 : 64 < n
 ·have g1 : decide ((64 : Int) < (n : Int)) = true:=decide_eq_true (by omega);have hr:=HR.out;rw [show Ym f n = (Zm,3) by unfold Ym;rw [if_pos h64]] at hr;subst hr;clear HR;clear h64;have f0:=B1.frozen 0;have f1:=B1.frozen 1;obtain ⟨x0,x1⟩:=B1.c2;have lx:=B1.lt;have H4:=Qm B1 (.int .i64 0) (.int .i64 0);have EF:=(E.setCell (p:=⟨b1,0,none⟩) hbr (.int .i64 0)).setCell (p:=⟨b1,1,none⟩) hbr (.int .i64 0);obtain ⟨y0,y1⟩:=H4.c2;go_wp2;refine bodyPost_ret (v:=.tuple #[.agg #[.int .i64 0,.int .i64 0],.int .i64 3]) (by simp [results,Tryz.results71,go_sem,y0,y1]) rfl ⟨rfl,EF⟩
 ·have g1 : decide ((64 : Int) < (n : Int)) = false := decide_eq_false (by omega);have hn : n ≤ 1000 := by omega
  go_upto_region 4 with (fail)
  go_loopw [12] (fun i wr => ∃ k : Nat,k ≤ n ∧ i = .int .i64 k ∧ Hid (∀ j,j < k → (f j).ok = true) ∧ Qb v wr) (fun i _ => n - (intOf i).toNat)
  case atStart => exact ⟨0,Nat.zero_le _,rfl,(fun j h => absurd h (by omega)),Qb.refl _⟩
  case round =>
   obtain ⟨k,hk,rfl,hall,hE⟩:=hrel;obtain ⟨wo,rfl⟩:=Qg wr;replace B1:=B1.ext hE;by_cases hlt : k < n
   ·obtain ⟨b, off, rfl, hb, hc⟩ := (RA.ext hE) (by omega);have c0 : wo.cell? ⟨b, off + k * 2, none⟩ = some (.int .i64 (f k).n) := by simpa [Y8] using hc k 0 _ hlt rfl
    have c1 : wo.cell? ⟨b,off + k * 2 + 1,none⟩ = some (.int .i64 (f k).d):=by simpa [Y8] using hc k 1 _ hlt rfl
    obtain ⟨h1,h2,h3,h4⟩:=hin k hlt;have NR:=fun w => Ud (f k).n (f k).d h1 h2 h3 h4 w
    have hno : Hid ((f k).ok = false → R = (Zm,2)):=fun h => by
     rw [HR.out];unfold Ym;rw [if_neg h64,if_neg (by rw [Bool.not_eq_true];exact List.all_eq_false.2 ⟨k,by simpa using hlt,by simp [h]⟩)]
    have hyes : Hid ((f k).ok = true → ∀ j,j < k + 1 → (f j).ok = true):=fun h j hj => by
     by_cases e : j = k
     ·subst e;exact h
     ·exact hall.out j (by omega)
    have hnn : Hid ((f k).ok = Rt.ok ⟨(f k).n,(f k).d⟩):=rfl;clear hc hin RA h1 h2 h3 h4 hall HR h64;go_upto_region 6 with (fail)
    obtain ⟨v3,hv⟩:=Qg (wo.alloc (.cells #[.int .i64 (f k).n,.int .i64 (f k).d] 65));rw [← hv];have E3 : Qb wo v3:=by rw [hv];exact (Qb.refl _).alloc _
    have H3 : Qa v3 wo.heap.size 65 #[.int .i64 (f k).n,.int .i64 (f k).d]:=by rw [hv];exact Qa.new _ _ _
    clear hv c0 c1;replace hE:=hE.trans E3;replace B1:=B1.ext E3;generalize wo.heap.size = b3 at *;clear E3;obtain ⟨q0,q1⟩:=H3.c2;have lq:=H3.lt;generalize Rt.ok ⟨(f k).n,(f k).d⟩ = ok at *;cases ok
    ·have hr:=hno.out hnn.out;subst hr;clear hno hyes hnn;go_upto_region 7 with (go_at_call 121;(with_reducible refine Calls.mono (NR _) ?_);rintro e w2 ⟨rfl,h⟩)
     replace E:=(E.trans hE).trans h;replace B1:=B1.ext h;have f0:=B1.frozen 0;have f1:=B1.frozen 1;obtain ⟨x0,x1⟩:=B1.c2;have lx:=B1.lt;have H4:=Qm B1 (.int .i64 0) (.int .i64 0);have EF:=(E.setCell (p:=⟨b1,0,none⟩) hbr (.int .i64 0)).setCell (p:=⟨b1,1,none⟩) hbr (.int .i64 0);obtain ⟨y0,y1⟩:=H4.c2;go_wp2;refine bodyPost_ret (v:=.tuple #[.agg #[.int .i64 0,.int .i64 0],.int .i64 2]) (by simp [results,Tryz.results71,go_sem,y0,y1]) rfl ⟨rfl,EF⟩
    ·have hx:=Lib.hid (hyes.out hnn.out);clear hno hyes hnn;go_wp2_with (go_at_call 121;(with_reducible refine Calls.mono (NR _) ?_);rintro e w2 ⟨rfl,h⟩);exact ⟨⟨k + 1,by omega,by go_num,hx,hE.trans h⟩,by simp [intOf];omega⟩
   ·obtain rfl : k = n := by omega
    have NM:=fun w h z => Qf0 A k ca f w h hn (fun i hi => hall.out i hi) z
    rw [show Wx f k = R from by rw [HR.out];unfold Ym;rw [if_neg h64,if_pos (List.all_eq_true.2 fun j hj => hall.out j (by simpa using hj))]] at NM;clear HR hall hin h64;have RB:=RA.ext hE;have Z1:=Z0.ext hE;clear RA Z0;replace E:=E.trans hE;clear hE;obtain ⟨⟨Rn,Rd⟩,Re⟩:=R;go_wp2_with (first | (go_at_call 122;(with_reducible refine Calls.mono (NM _ RB Z1) ?_);rintro e wt ⟨rfl,ht⟩;replace E:=E.trans ht;replace B1:=B1.ext ht;have f0:=B1.frozen 0;have f1:=B1.frozen 1;obtain ⟨x0,x1⟩:=B1.c2;have lx:=B1.lt));have H4:=Qm B1 (.int .i64 Rn) (.int .i64 Rd);have EF:=(E.setCell (p:=⟨b1,0,none⟩) hbr (.int .i64 Rn)).setCell (p:=⟨b1,1,none⟩) hbr (.int .i64 Rd)
    obtain ⟨y0,y1⟩:=H4.c2;go_wp2;refine bodyPost_ret (v:=.tuple #[.agg #[.int .i64 Rn,.int .i64 Rd],.int .i64 Re]) (by simp [results,Tryz.results71,go_sem,y0,y1]) rfl ⟨rfl,EF⟩
def K5 (p r : Rt) : Nat → Rt
 | 0 => p
 | _ => r
theorem Rz {r : Rt} : ((List.range 1).all fun _ => r.nn) = r.nn:=by simp [List.range_succ]
theorem nn_two {p r : Rt} : ((List.range 2).all fun i => (K5 p r i).nn) = (p.nn && r.nn):=by simp [List.range_succ,K5]
theorem Qhk (r : Rt) : r.pos = (r.nn && decide (0 < r.n)):=by
 unfold Rt.pos Rt.nn;by_cases h : 0 < r.n
 ·rw [decide_eq_true h,decide_eq_true (show 0 ≤ r.n by omega)];simp
 ·rw [decide_eq_false h];simp
theorem U4 {w : World} {b : Nat} {t : TypeId} {r : Rt} (h : Qa w b t #[.int .i64 r.n,.int .i64 r.d]) : Qp w (some ⟨b,0,none⟩) 1 2 (Y8 fun _ => r):=Ke (f:=Y8 fun _ => r) (n:=1) (fun _ => rfl) h
theorem Ip {w : World} {b : Nat} {t : TypeId} {p r : Rt} (h : Qa w b t #[.int .i64 p.n,.int .i64 p.d,.int .i64 r.n,.int .i64 r.d]) : Qp w (some ⟨b,0,none⟩) 2 2 (Y8 (K5 p r)):=Ke (f:=Y8 (K5 p r)) (n:=2) (fun _ => rfl) h
theorem rows4 {w : World} {b : Nat} {t : TypeId} {p r : Rt} {k : Int} (h : Qa w b t #[.int .i64 p.n,.int .i64 p.d,.int .i64 r.n,.int .i64 r.d,.int .i64 k,.int .i64 1,.int .i64 1,.int .i64 360]) : Qp w (some ⟨b,0,none⟩) 4 2 (Y8 (Vd p r k)):=Ke (f:=Y8 (Vd p r k)) (n:=4) (fun _ => rfl) h
theorem Dn {p r : Rt} {k : Int} (hp : p.ok = true) (hr : r.ok = true) (h1 : 0 ≤ k) (h2 : k ≤ 1099511627776) : ∀ i,i < 4 → (Vd p r k i).ok = true:=fun i hi => by
 have h3 : i = 0 ∨ i = 1 ∨ i = 2 ∨ i = 3:=by omega
 rcases h3 with rfl | rfl | rfl | rfl
 ·exact hp
 ·exact hr
 ·exact Qav (by omega) h2
 ·exact (by decide : (Rt.mk 1 360).ok = true)
theorem Qhp {f : Nat → Rt} {n : Nat} (hn : ¬ 64 < n) (h : ∀ i,i < n → (f i).ok = true) : Ym f n = Wx f n:=by
 unfold Ym;rw [if_neg hn,if_pos (List.all_eq_true.2 fun i hi => h i (by simpa using hi))]
theorem Qev (p r : Rt) (k : Int) : Hid (((p.nn && r.nn) = false → Ju p r k = (Zm,2)) ∧ ((p.nn && r.nn) = true → ((k < 0 ∨ 1099511627776 < k) → Ju p r k = (Zm,8)) ∧ (¬ k < 0 → ¬ 1099511627776 < k → Ju p r k = Wx (Vd p r k) 4))):=by
 refine Lib.hid ⟨fun h => ?_,fun h => ⟨fun h2 => ?_,fun h2 h3 => ?_⟩⟩
 ·unfold Ju;rw [h];rfl
 ·unfold Ju;rw [h,if_pos rfl,if_pos h2]
 ·unfold Ju;rw [h,if_pos rfl,if_neg (by omega)]
theorem Xt (n : Int) (w : World) : Calls Tryz.prog 72 #[.int .i64 n] w fun e w' => e = .returned (.agg #[.int .i64 n,.int .i64 1]) ∧ Qb w w':=by
 go_enter Tryz.func72,Tryz.ntmps72
 go_wp2;refine bodyPost_ret (v:=.agg #[.int .i64 n,.int .i64 1]) (by simp [results,Tryz.results72,go_sem]) rfl ⟨rfl,Qj⟩
theorem Oz (r : Rt) (hr : r.In) (w : World) :
  Calls Tryz.prog 67 #[.agg #[.int .i64 r.n,.int .i64 r.d]] w fun e w' => e = .returned (.bool r.pos) ∧ Qb w w':=by
 have NN:=fun w b h => Oj (some ⟨b,0,none⟩) 1 1 (fun _ => r) w h (by decide) (fun i hi => hr)
 rw [Rz] at NN;have HR : Hid (r.pos = (r.nn && decide (0 < r.n))):=Qhk r;generalize r.pos = R at *;generalize r.nn = nn at *
 go_enter Tryz.func67,Tryz.ntmps67
 go_upto_region 1 with (fail)
 obtain ⟨v,hv⟩:=Qg (w.alloc (.cells #[.int .i64 r.n,.int .i64 r.d] 65));rw [← hv];have E : Qb w v:=by rw [hv];exact (Qb.refl _).alloc _
 have B1 : Qa v w.heap.size 65 #[.int .i64 r.n,.int .i64 r.d]:=by rw [hv];exact (Qa.new _ _ _)
 clear hv;obtain ⟨b1,hb1⟩:=Qg (w.heap.size);rw [← hb1] at B1 ⊢;have hbr : w.heap.size ≤ b1:=by omega
 clear hb1;obtain ⟨k0,k1⟩:=B1.c2;have lk:=B1.lt;cases nn
 ·go_wp2_with (go_at_call 70;(with_reducible refine Calls.mono (NN _ _ (U4 (Qa.new _ _ _))) ?_);rintro e w2 ⟨rfl,h⟩);go_ret;exact ⟨by rw [HR.out];rfl,(E.alloc _).trans h⟩
 ·by_cases h0 : 0 < r.n
  ·have g1 : decide (0 < r.n) = true:=decide_eq_true h0;clear h0;go_wp2_with (go_at_call 70;(with_reducible refine Calls.mono (NN _ _ (U4 (Qa.new _ _ _))) ?_);rintro e w2 ⟨rfl,h⟩;replace B1:=(B1.alloc _).ext h;clear k0 k1 lk;obtain ⟨k0,k1⟩:=B1.c2;have lk:=B1.lt);go_ret;exact ⟨by rw [HR.out,g1];rfl,(E.alloc _).trans h⟩
  ·have g1 : decide (0 < r.n) = false:=decide_eq_false h0;clear h0;go_wp2_with (go_at_call 70;(with_reducible refine Calls.mono (NN _ _ (U4 (Qa.new _ _ _))) ?_);rintro e w2 ⟨rfl,h⟩;replace B1:=(B1.alloc _).ext h;clear k0 k1 lk;obtain ⟨k0,k1⟩:=B1.c2;have lk:=B1.lt);go_ret;exact ⟨by rw [HR.out,g1];rfl,(E.alloc _).trans h⟩
theorem Mq (r : Rt) (hr : r.In) (w : World) :
  Calls Tryz.prog 90 #[.agg #[.int .i64 r.n,.int .i64 r.d]] w fun e w' => e = .returned (.bool r.shr) ∧ Qb w w':=by
 have NN:=fun w b h => Oj (some ⟨b,0,none⟩) 1 1 (fun _ => r) w h (by decide) (fun i hi => hr)
 rw [Rz] at NN;have HR : Hid (r.shr = (r.nn && decide (r.n ≤ r.d))):=rfl;generalize r.shr = R at *;generalize r.nn = nn at *
 go_enter Tryz.func90,Tryz.ntmps90
 go_upto_region 1 with (fail)
 obtain ⟨v,hv⟩:=Qg (w.alloc (.cells #[.int .i64 r.n,.int .i64 r.d] 65));rw [← hv];have E : Qb w v:=by rw [hv];exact (Qb.refl _).alloc _
 have B1 : Qa v w.heap.size 65 #[.int .i64 r.n,.int .i64 r.d]:=by rw [hv];exact (Qa.new _ _ _)
 clear hv;obtain ⟨b1,hb1⟩:=Qg (w.heap.size);rw [← hb1] at B1 ⊢;have hbr : w.heap.size ≤ b1:=by omega
 clear hb1;obtain ⟨k0,k1⟩:=B1.c2;have lk:=B1.lt;cases nn
 ·go_wp2_with (go_at_call 70;(with_reducible refine Calls.mono (NN _ _ (U4 (Qa.new _ _ _))) ?_);rintro e w2 ⟨rfl,h⟩);go_ret;exact ⟨by rw [HR.out];rfl,(E.alloc _).trans h⟩
 ·by_cases h0 : r.n ≤ r.d
  ·have g1 : decide (r.n ≤ r.d) = true:=decide_eq_true h0;clear h0;go_wp2_with (go_at_call 70;(with_reducible refine Calls.mono (NN _ _ (U4 (Qa.new _ _ _))) ?_);rintro e w2 ⟨rfl,h⟩;replace B1:=(B1.alloc _).ext h;clear k0 k1 lk;obtain ⟨k0,k1⟩:=B1.c2;have lk:=B1.lt);go_ret;exact ⟨by rw [HR.out,g1];rfl,(E.alloc _).trans h⟩
  ·have g1 : decide (r.n ≤ r.d) = false:=decide_eq_false h0;clear h0;go_wp2_with (go_at_call 70;(with_reducible refine Calls.mono (NN _ _ (U4 (Qa.new _ _ _))) ?_);rintro e w2 ⟨rfl,h⟩;replace B1:=(B1.alloc _).ext h;clear k0 k1 lk;obtain ⟨k0,k1⟩:=B1.c2;have lk:=B1.lt);go_ret;exact ⟨by rw [HR.out,g1];rfl,(E.alloc _).trans h⟩
theorem Qdd (r : Rt) (hr : r.In) (w : World) :
  Calls Tryz.prog 26 #[.agg #[.int .i64 r.n,.int .i64 r.d]] w fun e w' => e = .returned (.tuple #[.int .i64 (X7 r).1,.int .i64 (X7 r).2]) ∧ Qb w w':=by
 have NP:=fun w => Oz r hr w
 cases hp : r.pos
 ·have HR : X7 r = (0, 2) := by unfold X7; rw [hp]; rfl
  rw [HR];simp only [hp] at NP;clear hp HR
  go_enter Tryz.func26,Tryz.ntmps26
  go_upto_region 1 with (fail)
  obtain ⟨v,hv⟩:=Qg (w.alloc (.cells #[.int .i64 r.n,.int .i64 r.d] 65));rw [← hv];have E : Qb w v:=by rw [hv];exact (Qb.refl _).alloc _
  have B1 : Qa v w.heap.size 65 #[.int .i64 r.n,.int .i64 r.d]:=by rw [hv];exact (Qa.new _ _ _)
  clear hv;obtain ⟨b1,hb1⟩:=Qg (w.heap.size);rw [← hb1] at B1 ⊢;have hbr : w.heap.size ≤ b1:=by omega
  clear hb1;obtain ⟨k0,k1⟩:=B1.c2;have lk:=B1.lt;go_wp2_with (go_at_call 67;(with_reducible refine Calls.mono (NP _) ?_);rintro e w2 ⟨rfl,h⟩);go_ret2;exact ⟨rfl,E.trans h⟩
 ·have HR : X7 r = ((360 * r.d + r.n - 1) / r.n, 0) := by unfold X7; rw [hp]; rfl
  have HB:=Lib.hid (dbl_bd hp);rw [HR] at HB ⊢;simp only [hp] at NP;obtain ⟨ho,hn⟩ : r.ok = true ∧ 0 < r.n:=by simpa [Rt.pos] using hp
  obtain ⟨d1,d2,n1,n2,_⟩:=J2 ho;have w1 : IntKind.i64.wrap (360 * r.d) = 360 * r.d:=Z2 (by omega) (by omega);have w2 : IntKind.i64.wrap (360 * r.d + r.n) = 360 * r.d + r.n:=Z2 (by omega) (by omega);have w3 : IntKind.i64.wrap (360 * r.d + r.n - 1) = 360 * r.d + r.n - 1:=Z2 (by omega) (by omega)
  have w4 : IntKind.i64.wrap ((360 * r.d + r.n - 1).tdiv r.n) = (360 * r.d + r.n - 1) / r.n:=by
   rw [Int.tdiv_eq_ediv_of_nonneg (by omega)];have:=HB.out;exact Z2 (by omega) (by omega)
  have w5 : (r.n == 0) = false:=beq_eq_false_iff_ne.2 (by omega);have w6 : r.n ≠ 0:=by omega
  clear hp HR HB ho hn d1 d2 n1 n2
  go_enter Tryz.func26,Tryz.ntmps26
  go_upto_region 1 with (fail)
  obtain ⟨v,hv⟩:=Qg (w.alloc (.cells #[.int .i64 r.n,.int .i64 r.d] 65));rw [← hv];have E : Qb w v:=by rw [hv];exact (Qb.refl _).alloc _
  have B1 : Qa v w.heap.size 65 #[.int .i64 r.n,.int .i64 r.d]:=by rw [hv];exact (Qa.new _ _ _)
  clear hv;obtain ⟨b1,hb1⟩:=Qg (w.heap.size);rw [← hb1] at B1 ⊢;have hbr : w.heap.size ≤ b1:=by omega
  clear hb1;obtain ⟨k0,k1⟩:=B1.c2;have lk:=B1.lt;go_wp2_with (go_at_call 67;(with_reducible refine Calls.mono (NP _) ?_);rintro e w2 ⟨rfl,h⟩;replace B1:=B1.ext h;clear k0 k1 lk;obtain ⟨k0,k1⟩:=B1.c2;have lk:=B1.lt);go_ret2;exact ⟨rfl,E.trans h⟩
theorem Bq (p r : Rt) (k : Int) (hp : p.In) (hr : r.In) (hk1 : -9223372036854775808 ≤ k) (hk2 : k ≤ 9223372036854775807) (w : World) (hZ : Z6 w) :
  Calls Tryz.prog 28 #[.agg #[.int .i64 p.n,.int .i64 p.d],.agg #[.int .i64 r.n,.int .i64 r.d],.int .i64 k] w fun e w' => e = .returned (.tuple #[.agg #[.int .i64 (Ju p r k).1.n,.int .i64 (Ju p r k).1.d],.int .i64 (Ju p r k).2]) ∧ Qb w w':=by
 have NN:=fun w b h => Oj (some ⟨b,0,none⟩) 2 2 (K5 p r) w h (by decide) (fun i hi => by unfold K5;split;exact hp;exact hr)
 rw [nn_two] at NN;have HI:=Qev p r k;obtain ⟨R,hR0⟩:=Qg (Ju p r k);rw [← hR0];have HR:=Lib.hid hR0;clear hR0;rw [show Ju p r k = R from HR.out.symm] at HI;clear HR
 go_enter Tryz.func28,Tryz.ntmps28
 go_upto_region 1 with (fail)
 obtain ⟨v,hv⟩:=Qg (((w.alloc (.cells #[.int .i64 p.n,.int .i64 p.d] 65)).alloc (.cells #[.int .i64 r.n,.int .i64 r.d] 65)).alloc (.cells #[.int .i64 0,.int .i64 0] 65));rw [← hv];have E : Qb w v:=by rw [hv];exact (((Qb.refl _).alloc _).alloc _).alloc _
 have B1 : Qa v w.heap.size 65 #[.int .i64 p.n,.int .i64 p.d]:=by rw [hv];exact ((Qa.new _ _ _).alloc _).alloc _
 have B2 : Qa v (w.heap.size + 1) 65 #[.int .i64 r.n,.int .i64 r.d]:=by rw [hv];exact (Qa.at _ _ _ _ (by simp)).alloc _
 have B3 : Qa v (w.heap.size + 1 + 1) 65 #[.int .i64 0,.int .i64 0]:=by rw [hv];exact Qa.at _ _ _ _ (by simp)
 clear hv;obtain ⟨b3,hb3⟩:=Qg (w.heap.size + 1 + 1);rw [← hb3] at B3 ⊢;obtain ⟨b2,hb2⟩:=Qg (w.heap.size + 1);rw [← hb2] at B2 ⊢;obtain ⟨b1,hb1⟩:=Qg (w.heap.size);rw [← hb1] at B1 ⊢;have hbr : w.heap.size ≤ b3:=by omega
 have hbr1 : w.heap.size ≤ b1:=by omega
 have hbr2 : w.heap.size ≤ b2:=by omega
 have hn21 : b2 ≠ b1:=by omega
 have hn31 : b3 ≠ b1:=by omega
 have hn32 : b3 ≠ b2:=by omega
 clear hb1 hb2 hb3;have Z0:=hZ.ext E;clear hZ;obtain ⟨k0,k1⟩:=B1.c2;have lk:=B1.lt;obtain ⟨p0,p1⟩:=B2.c2;have lp:=B2.lt;cases hnn : (p.nn && r.nn)
 ·rw [hnn] at NN HI;have hr:=HI.out.1 rfl;subst hr;clear HI hnn;go_upto_region 2 with (go_at_call 70;(with_reducible refine Calls.mono (NN _ _ (Ip (Qa.new _ _ _))) ?_);rintro e w2 ⟨rfl,h⟩)
  replace E:=(E.alloc _).trans h;replace B3:=(B3.alloc _).ext h;have f0:=B3.frozen 0;have f1:=B3.frozen 1;obtain ⟨x0,x1⟩:=B3.c2;have lx:=B3.lt;have H4:=Qm B3 (.int .i64 0) (.int .i64 0);have EF:=(E.setCell (p:=⟨b3,0,none⟩) hbr (.int .i64 0)).setCell (p:=⟨b3,1,none⟩) hbr (.int .i64 0);obtain ⟨y0,y1⟩:=H4.c2;go_wp2;refine bodyPost_ret (v:=.tuple #[.agg #[.int .i64 0,.int .i64 0],.int .i64 2]) (by simp [results,Tryz.results28,go_sem,y0,y1]) rfl ⟨rfl,EF⟩
 ·rw [hnn] at NN HI;have hI:=Lib.hid (HI.out.2 rfl);clear HI;go_upto_region 3 with (go_at_call 70;(with_reducible refine Calls.mono (NN _ _ (Ip (Qa.new _ _ _))) ?_);rintro e w2 ⟨rfl,h⟩)
  replace E:=(E.alloc _).trans h;replace Z0:=(Z0.ext ((Qb.refl _).alloc _)).ext h;replace B1:=(B1.alloc _).ext h;replace B2:=(B2.alloc _).ext h;replace B3:=(B3.alloc _).ext h;clear h k0 k1 lk p0 p1 lp;by_cases c1 : k < 0
  ·have g1 : decide (k < 0) = true:=decide_eq_true c1;have hr:=hI.out.1 (.inl c1);subst hr;clear hI hnn c1;have f0:=B3.frozen 0;have f1:=B3.frozen 1;obtain ⟨x0,x1⟩:=B3.c2;have lx:=B3.lt;have H4:=Qm B3 (.int .i64 0) (.int .i64 0);have EF:=(E.setCell (p:=⟨b3,0,none⟩) hbr (.int .i64 0)).setCell (p:=⟨b3,1,none⟩) hbr (.int .i64 0);obtain ⟨y0,y1⟩:=H4.c2;go_wp2;refine bodyPost_ret (v:=.tuple #[.agg #[.int .i64 0,.int .i64 0],.int .i64 8]) (by simp [results,Tryz.results28,go_sem,y0,y1]) rfl ⟨rfl,EF⟩
  ·have g1 : decide (k < 0) = false:=decide_eq_false c1;by_cases c2 : 1099511627776 < k
   ·have g2 : decide (1099511627776 < k) = true:=decide_eq_true c2;have hr:=hI.out.1 (.inr c2);subst hr;clear hI hnn c1 c2;have f0:=B3.frozen 0;have f1:=B3.frozen 1;obtain ⟨x0,x1⟩:=B3.c2;have lx:=B3.lt;have H4:=Qm B3 (.int .i64 0) (.int .i64 0);have EF:=(E.setCell (p:=⟨b3,0,none⟩) hbr (.int .i64 0)).setCell (p:=⟨b3,1,none⟩) hbr (.int .i64 0);obtain ⟨y0,y1⟩:=H4.c2;go_wp2;refine bodyPost_ret (v:=.tuple #[.agg #[.int .i64 0,.int .i64 0],.int .i64 8]) (by simp [results,Tryz.results28,go_sem,y0,y1]) rfl ⟨rfl,EF⟩
   ·have g2 : decide (1099511627776 < k) = false:=decide_eq_false c2;obtain ⟨np,nr⟩:=Bool.and_eq_true_iff.1 hnn;have hok : ∀ i,i < 4 → (Vd p r k i).ok = true:=Dn (Vl np).1 (Vl nr).1 (by omega) (by omega);have NP:=fun w b h z => Ia (some ⟨b,0,none⟩) 4 4 (Vd p r k) w h (by decide) (fun i hi => Eh (hok i hi)) z
    rw [Qhp (by decide) hok,show Wx (Vd p r k) 4 = R from (hI.out.2 (by omega) (by omega)).symm] at NP;clear hI hnn np nr hok c1 c2;obtain ⟨⟨Rn,Rd⟩,Re⟩:=R;go_upto_region 5 with (fail)
    refine Zb 11 [9,10] (fun x => Qb w2 x) Qo rfl ?_;intro vz hvz;have HC:=hvz;refine Qs (g:=7) [0,1,2,4] [_,_,_,_] ⟨rfl,rfl,rfl,rfl,trivial⟩ (by kernel_rfl) (by kernel_rfl) HC ?_;simp only [Qc,Qd,Qe];apply Exists.intro;refine ⟨fun u hu => ?_,?_⟩
    ·obtain ⟨k0,k1⟩:=(B1.ext hu).c2;obtain ⟨p0,p1⟩:=(B2.ext hu).c2;have lk:=(B1.ext hu).lt;have lp:=(B2.ext hu).lt;repeat (first | go_big_quiet_skip | (go_big_quiet_want;go_big_quiet_op;go_big_quiet_on))
     refine wpQuiet_nil ?_;rfl
    refine Ql 3 rfl (by kernel_rfl) ?_;simp only [Qc,Qd,Qe];go_wp2_with (go_at_call 72;(with_reducible refine Calls.mono (Xt _ _) ?_);rintro e va ⟨rfl,h4⟩);replace HC:=HC.trans h4;clear h4 hvz;refine Qh HC ?_;refine Ql 5 rfl (by kernel_rfl) ?_;simp only [Qc,Qd,Qe];go_wp2;have B5:=rows4 (p:=p) (r:=r) (k:=k) (Qa.new va 65 #[.int .i64 p.n,.int .i64 p.d,.int .i64 r.n,.int .i64 r.d,.int .i64 k,.int .i64 1,.int .i64 1,.int .i64 360]);replace HC : Qb w2 (va.alloc _):=HC.alloc (.cells #[.int .i64 p.n,.int .i64 p.d,.int .i64 r.n,.int .i64 r.d,.int .i64 k,.int .i64 1,.int .i64 1,.int .i64 360] 65);generalize va.heap.size = b5 at *;generalize World.alloc va _ = vd at *
    clear va;refine Qh HC ?_;refine Ql 6 rfl (by kernel_rfl) ?_;simp only [Qc,Qd,Qe];go_wp2_with (go_at_call 71;(with_reducible refine Calls.mono (NP _ _ B5 (Z0.ext HC)) ?_);rintro e vb ⟨rfl,h4⟩);replace HC:=HC.trans h4;clear h4 B5 NP;refine Qh HC ?_;refine Qs (g:=2) [7,8] [_,_] ⟨rfl,rfl,trivial⟩ (by kernel_rfl) (by kernel_rfl) HC ?_;simp only [Qc,Qd,Qe];apply Exists.intro;refine ⟨fun u hu => ?_,?_⟩
    ·skip
     repeat (first | go_big_quiet_skip | (go_big_quiet_want;go_big_quiet_op;go_big_quiet_on))
     refine wpQuiet_nil ?_;rfl
    replace B3:=B3.ext HC;replace E:=E.trans HC;refine Qr 9 rfl (by kernel_rfl) ?_;simp only [Qc,Qd,Qe];have f0:=B3.frozen 0;have f1:=B3.frozen 1;obtain ⟨x0,x1⟩:=B3.c2;have lx:=B3.lt;have H4:=Qm B3 (.int .i64 Rn) (.int .i64 Rd);have EF:=(E.setCell (p:=⟨b3,0,none⟩) hbr (.int .i64 Rn)).setCell (p:=⟨b3,1,none⟩) hbr (.int .i64 Rd);obtain ⟨y0,y1⟩:=H4.c2;go_wp2;refine Qq ?_;refine Qr 10 rfl (by kernel_rfl) ?_;simp only [Qc,Qd,Qe];go_wp2;refine Qq ?_;refine Qv (by kernel_rfl) ?_;go_wp2;refine bodyPost_ret (v:=.tuple #[.agg #[.int .i64 Rn,.int .i64 Rd],.int .i64 Re]) (by simp [results,Tryz.results28,go_sem,y0,y1]) rfl ⟨rfl,EF⟩
end
end Go.Proofs.YtoflcheopfppoaaGreatDoor

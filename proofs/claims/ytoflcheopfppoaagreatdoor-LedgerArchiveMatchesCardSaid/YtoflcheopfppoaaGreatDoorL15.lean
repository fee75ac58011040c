/- Walks of the program's functions and plain facts, packed; proved: the lemmas below; no conditions but those that each states. -/
import Derived.Test.YtoflcheopfppoaaGreatDoorL14
import Derived.Test.YtoflcheopfppoaaGreatDoorL13
set_option maxRecDepth 100000
set_option maxHeartbeats 4000000
namespace Go.Proofs.YtoflcheopfppoaaGreatDoor
section
open Go Go.RowKit Go.Shelf
attribute [local go_sem] Z5
theorem Mx {W : World} {t : TypeId} {A : Option Addr} {n b : Nat} {g : Nat → Value} (h : Qw W t A n b g) : Qp W A n 1 (fun i => [g i]):=fun hn => by
 obtain ⟨cs,h1,h2,h3⟩:=h.h hn;refine ⟨b,0,h.a hn,h1.lt,fun i j v hi hv => ?_⟩
 have hj : j = 0:=by
  have:=(List.getElem?_eq_some_iff.1 hv).1;simp at this;omega
 subst hj;have hv' : g i = v:=by simpa using hv
 rw [← hv'];have:=h.cell hi
 simpa using this
def MT (t : TypeId) : Prop:=t = 3 ∨ t = 4 ∨ t = 213
/-- Blocks of other types than a matcher's stay as they are. -/
def FT (W W' : World) : Prop:=∀ b t (cs : Array Value),Qa W b t cs → ¬ MT t → Qa W' b t cs
theorem FT.refl (W : World) : FT W W:=fun _ _ _ h _ => h
theorem FT.trans {W W1 W2 : World} (h : FT W W1) (k : FT W1 W2) : FT W W2:=fun b t cs hb ht => k b t cs (h b t cs hb ht) ht
theorem FT.ext {W W1 W2 : World} (h : FT W W1) (x : Qb W1 W2) : FT W W2:=fun b t cs hb ht => (h b t cs hb ht).ext x
theorem FT.setH {W W1 : World} {b : Nat} {t : TypeId} {cs : Array Value} (h : FT W W1) (hb : Qa W1 b t cs) (ht : MT t) (j : Nat) (u : Value) : FT W (W1.setCell ⟨b,j,none⟩ u):=fun b' t' cs' hb' ht' => X8 (h b' t' cs' hb' ht') (Yq (h b' t' cs' hb' ht') hb (fun e => ht' (e ▸ ht))) j u
theorem FT.setA {W W1 : World} {t : TypeId} {A : Option Addr} {n b : Nat} {g : Nat → Value} (h : FT W W1) (hA : Qw W1 t A n b g) (hn : 0 < n) (ht : MT t) (j : Nat) (u : Value) : FT W (W1.setCell ⟨b,j,none⟩ u):=by
 obtain ⟨cs,h1,_⟩:=hA.h hn;exact h.setH h1 ht j u
theorem Xq : MT 3:=Or.inl rfl
theorem Kc : MT 4:=Or.inr (Or.inl rfl)
theorem mt_m : MT 213:=Or.inr (Or.inr rfl)
theorem FT.fr {W W1 W2 : World} {no ni bo bi bn : Nat} {O I N : Option Addr} {g g' g'' : Nat → Value} (h : FT W W1) (f : Fr (SN no ni bo bi bn) W1 W2) (ho : Qw W1 3 O no bo g) (hi : Qw W1 3 I ni bi g') (hn : Qw W1 4 N ni bn g'') : FT W W2:=fun b t cs hb ht => f.held (h b t cs hb ht) (fun hs => by
 rcases hs with ⟨h0,e⟩ | ⟨h0,e | e⟩
 ·obtain ⟨ds,h1,_⟩:=ho.h h0;exact Yq (h b t cs hb ht) h1 (fun e => ht (e ▸ Xq)) e
 ·obtain ⟨ds,h1,_⟩:=hi.h h0;exact Yq (h b t cs hb ht) h1 (fun e => ht (e ▸ Xq)) e
 ·obtain ⟨ds,h1,_⟩:=hn.h h0;exact Yq (h b t cs hb ht) h1 (fun e => ht (e ▸ Kc)) e)
theorem Qw.fr {W W' : World} {S : Nat → Prop} {t : TypeId} {A : Option Addr} {n b : Nat} {g : Nat → Value} (h : Qw W t A n b g) (f : Fr S W W') (hs : 0 < n → ¬ S b) : Qw W' t A n b g:=⟨h.a,fun hn => by
 obtain ⟨cs,h1,h2⟩:=h.h hn;exact ⟨cs,f.held h1 (hs hn),h2⟩⟩
section
variable {P : Program} {ops : Array Oper} {md : Region.Mode} {C : World → Prop} {R : Act → World → Prop} {zs : List Nat}
/-- A guarded operation that is wanted and leaves the world. -/
theorem Ul {g : Nat} {L : Array Bool} {a : Act} {w : World} {o : Oper} (k : Nat) (ho : ops[k]? = some o) (hd : (match o.dst with | some d => decide (d < a.tmps.size) | none => false) = true) (hg : Region.wanted o (yielded ops a.tmps) = true) (hB : (Region.noSelect ops && Fe md ops L && K7 md ops zs [k] L) = true) (hw : C w)
  (h : ∃ A,(∀ u,C u → wpQuiet P ops (fun w' => w' = u) (fun a' => a' = A) [o] a) ∧ Jb P md ops C zs R g (L.setIfInBounds k true) A w) : Jb P md ops C zs R (g + 1) L a w:=by
 obtain ⟨A,h1,h2⟩:=h;simp only [Bool.and_eq_true,K7] at hB;obtain ⟨⟨hs,hc⟩,⟨⟨⟨hr,hf⟩,hwz⟩,_⟩⟩:=hB
 cases hod : o.dst with
 | none => rw [hod] at hd;cases hd
 | some d =>
  rw [hod] at hd;have hz : d < a.tmps.size:=by simpa using hd
  have each : ∀ u,C u → ∃ v,o.quietAt P a (fun w' => w' = u) u v ∧ A.tmps[d]? = some v ∧ a.put (some d) v = A:=fun u hu => by
   have h3:=h1 u hu;unfold wpQuiet at h3;rw [if_pos hg] at h3;obtain ⟨v,h4,h5⟩:=h3;have h5 : a.put o.dst v = A:=h5;rw [hod] at h5;refine ⟨v,h4 _ rfl,?_,h5⟩;rw [← h5];simp [Act.put,hz]
  obtain ⟨v,_,hv,hA⟩:=each w hw
  have hy : Xv P ops C o v a:=⟨hg,fun w' e => by
   obtain ⟨v',g1,g2,_⟩:=each w' e;rw [hv] at g2;rw [Option.some.inj g2];exact g1⟩
  exact Qa0 ho (fun j hj => List.all_eq_true.1 hwz j hj) (Region.noSelect_spec hs) _ L a w (P3 hc) (Region.free_spec ho hf) (by simpa using hr) hw hy (by rw [hod,hA];exact h2)
end
theorem Qaa {m : Mt} {i k no ni : Nat} (hi : i < no) (hm1 : ∀ x,x < ni → 0 ≤ m.1 x → (m.1 x).toNat < no) : ∀ x,x < ni → 0 ≤ (J4 m i k).1 x → ((J4 m i k).1 x).toNat < no:=fun x hx h0 => by
 have h0 : 0 ≤ Qk (Z7 m i) k i x:=h0
 show (Qk (Z7 m i) k i x).toNat < no
 by_cases e : x = k
 ·subst e;rw [Z4];simpa using hi
 ·rw [Zl _ _ e] at h0 ⊢;unfold Z7 at h0 ⊢;by_cases c : 0 ≤ m.2 i
  ·rw [if_pos c] at h0 ⊢;by_cases e2 : x = (m.2 i).toNat
   ·subst e2;rw [Z4] at h0;omega
   ·rw [Zl _ _ e2] at h0 ⊢;exact hm1 x hx h0
  ·rw [if_neg c] at h0 ⊢;exact hm1 x hx h0
theorem Qit {fx : Bl} {k : Nat} (h : fx k = false) : Qk (Qk fx k true) k false = fx:=by
 funext x
 unfold Qk;by_cases e : x = k
 ·subst e;simp [h]
 ·simp [e]
theorem Pz (A : Option Addr) (n cap b0 : Nat) (f : Nat → Int) (w : World) (h : Qw w 3 A n b0 (fun k => .int .i64 (f k))) (hn : n ≤ 1000000) :
  Calls Tryz.prog 166 #[.slice A n cap] w fun e w' => ∃ A' cap' b,e = .returned (.slice A' n cap') ∧ Qb w w' ∧ (0 < n → w.heap.size ≤ b) ∧ Qw w' 3 A' n b (fun k => .int .i64 (f k)):=by
 have q23 : ∀ (w : World) (a : Option Addr) (n c n' c' : Nat),(binOp .eql 125 (.slice a n c) (.slice none n' c')).run Tryz.prog w = .ok (.bool a.isNone) w:=fun w a n c n' c' => Lib.run_eql_slice_nil w _ _ a n c n' c' Tryz.underlying125
 cases A with
 | none =>
  have h0 : n = 0:=by
   refine Nat.eq_zero_of_not_pos fun hp => ?_
   have:=h.a hp;cases this
  subst h0;clear h
  go_enter Tryz.func166,Tryz.ntmps166
  go_wp2;go_ret
  exact ⟨none,0,0,rfl,Qb.refl _,fun h => absurd h (by omega),fun h => absurd h (by omega),fun h => absurd h (by omega)⟩
 | some a =>
  obtain ⟨i0,hi,hz0,hz1,hz2⟩:=info_parts Ly;obtain ⟨xs,hxs⟩ : ∃ xs : List Value,xs = (List.range n).map (fun k => .int .i64 (f k)):=⟨_,rfl⟩;have hlen : xs.length = n * 1:=by rw [hxs];simp
  have HN : ∀ (j : Nat) (u : Value),xs[j]? = some u → (w.alloc (.cells #[] 3)).cell? (a.add j) = some u:=fun j u hj => by
   have hjn : j < n:=by
    have:=(List.getElem?_eq_some_iff.1 hj).1;omega
   have ha:=h.a (by omega);injection ha with ha
   have hc:=h.cell hjn;rw [hxs] at hj;have e : u = .int .i64 (f j):=by simp [hjn] at hj;exact hj.symm
   rw [ha,e,Addr.add_lit,Nat.zero_add];exact (((Qb.refl w).alloc _).cell (p:=⟨b0,j,none⟩) (h.lt (by omega))).trans hc
  have hone : ∀ u ∈ xs,u.oneCell' = true:=fun u hu => by
   rw [hxs] at hu;obtain ⟨x,_,rfl⟩:=List.mem_map.1 hu;rfl
  have hget : ∀ k,k < n → xs[k]? = some (.int .i64 (f k)):=fun k hk => by rw [hxs];simp [hk]
  clear hxs h
  go_enter Tryz.func166,Tryz.ntmps166
  go_wp2_with (at_builtin;refine wpList_append_own _ rfl _ _ 125 rfl w.heap.size 3 i0 (.int .i64 0) 1 8 Tryz.underlying125 hi hz0 hz1 hz2 rfl (by decide) _ _ _ rfl (World.ownsRow_made w #[] 0 (Nat.le_refl _) (Nat.zero_le _) rfl) a n cap xs rfl hlen HN hone (by unfold maxLen;omega) (by omega) (by simp) ?_;intro v' w1 hown hgrow hnil2);go_ret;have hown2 : w1.ownsRow w.heap.size 3 1 v' n xs:=by simpa using hown
  obtain ⟨A',cap',b,rfl,hb,_,hA⟩:=Mw (g:=fun k => .int .i64 (f k)) hown2 hget;exact ⟨A',cap',b,rfl,((Qb.refl w).alloc _).grown hgrow (fun q hq => by have h : some w.heap.size = some q:=hq;cases h;exact Nat.le_refl _),fun _ => hb,hA⟩
set_option maxHeartbeats 40000000 in
theorem Qif {adj : Nat → List Nat} (W0 : World) (bm bs : Nat) (Vo Vi : Option Addr) (co ci : Nat) (vy : Value) (O I X : Option Addr) (no ni cO cI cX bo bi bf : Nat) (m : Mt) (fx : Bl) (i k : Nat) (hadj : ∀ o,∀ k ∈ adj o,k < ni) (hY : Lf W0 vy no adj) (hi : i < no) (hk : k < ni) (hno : no ≤ 1000000) (hni : ni ≤ 1000000) (hls : W0.heap.size ≤ bs) (hf : fx k = false) (hm1 : ∀ x,x < ni → 0 ≤ m.1 x → (m.1 x).toNat < no) (hm2 : ∀ o,o < no → 0 ≤ m.2 o → (m.2 o).toNat < ni) (W : World) (hM : MS W0 W bm bs (.slice Vo no co) (.slice Vi ni ci) vy O I X no ni cO cI cX bo bi bf m fx) :
  Calls Tryz.prog 128 #[.pointer (some ⟨bs,0,none⟩),.int .i64 i,.int .i64 k] W fun e W' => e = .returned (.bool (Y9 adj ni no fx m i k).isSome) ∧ FT W W' ∧ ∃ O' I' cO' cI' bo' bi',MS W0 W' bm bs (.slice Vo no co) (.slice Vi ni ci) vy O' I' X no ni cO' cI' cX bo' bi' bf ((Y9 adj ni no fx m i k).getD m) (if (Y9 adj ni no fx m i k).isSome then Qk fx k true else fx):=by
 obtain ⟨Y,cY,vs,rfl,_,_⟩:=id hY;obtain ⟨R,hR⟩:=Qg (Y9 adj ni no fx m i k);rw [← hR];replace hR:=Lib.hid hR;have hno0 : 0 < no:=by omega
 have hni0 : 0 < ni:=by omega
 have hmkb:=fun w => Oc ni hni w
 have hXe:=hM.f.a hni0;have hIe:=hM.i.a hni0;have hOe:=hM.o.a hno0;subst hXe;subst hIe;subst hOe
 go_enter Tryz.func128,Tryz.ntmps128
 obtain ⟨s0,s1,s2,s3,s4,s5,s6⟩:=Q4 hM.km.s;have sl:=hM.km.s.lt;go_upto_region 1 with (fail)
 clear s0 s1 s2 s3 s4 s5 s6 sl;refine Zb 12 [10,11] (fun x => MS W0 x bm bs (.slice Vo no co) (.slice Vi ni ci) (.slice Y no cY) (some ⟨bo,0,none⟩) (some ⟨bi,0,none⟩) (some ⟨bf,0,none⟩) no ni cO cI cX bo bi bf m fx) Qo rfl ?_;intro vz hvz;have HC:=hM.ext hvz;have hE:=hvz;refine Qs (g:=4) [0,1,2,3,5,6,7,8] [_,_,_,_,_,_,_,_] ⟨rfl,rfl,rfl,rfl,rfl,rfl,rfl,rfl,trivial⟩ (by kernel_rfl) (by kernel_rfl) HC ?_;simp only [Qc,Qd,Qe];apply Exists.intro;refine ⟨fun u hu => ?_,?_⟩
 ·obtain ⟨s0,s1,s2,s3,s4,s5,s6⟩:=Q4 hu.km.s;have sl:=hu.km.s.lt;repeat (first | go_big_quiet_skip | (go_big_quiet_want;go_big_quiet_op;go_big_quiet_on))
  refine wpQuiet_nil ?_;rfl
 refine Ql 4 rfl (by kernel_rfl) ?_;simp only [Qc,Qd,Qe];have hz:=HC.e.size;have hb1:=HC.o.lt hno0;have hb2:=HC.i.lt hni0;go_wp2_with (go_at_call 166;(with_reducible refine Calls.mono (Pz _ no _ bo m.2 _ HC.o hno) ?_);rintro e wc ⟨O2,cO2,bo2,rfl,hj,hl,AO2⟩);have a1 : W0.heap.size ≤ bo2 ∧ bo2 ≠ bo ∧ bo2 ≠ bi:=by have:=hl hno0;exact ⟨by omega,by omega,by omega⟩
 replace HC:=HC.ext hj;replace hE:=hE.trans hj;clear hz hb1 hb2 hl hj;refine Qh HC ?_;refine Ql 9 rfl (by kernel_rfl) ?_;simp only [Qc,Qd,Qe];have hz:=HC.e.size;have hb1:=HC.o.lt hno0;have hb2:=HC.i.lt hni0;go_wp2_with (go_at_call 166;(with_reducible refine Calls.mono (Pz _ ni _ bi m.1 _ HC.i hni) ?_);rintro e wc ⟨I2,cI2,bi2,rfl,hj,hl,AI2⟩)
 have a2 : W0.heap.size ≤ bi2 ∧ bi2 ≠ bo ∧ bi2 ≠ bi ∧ bo2 ≠ bi2:=by
  have:=hl hni0;have:=AO2.lt hno0;exact ⟨by omega,by omega,by omega,by omega⟩
 replace AO2:=AO2.ext hj;replace HC:=HC.ext hj;replace hE:=hE.trans hj;clear hz hb1 hb2 hl hj;refine Qh HC ?_;refine Qr 10 rfl (by kernel_rfl) ?_;simp only [Qc,Qd,Qe];go_wp2;refine Qq ?_;refine Qr 11 rfl (by kernel_rfl) ?_;simp only [Qc,Qd,Qe];go_wp2;refine Qq ?_;refine Qv (by kernel_rfl) ?_;have hF : FT W wc:=fun b t cs hb _ => hb.ext hE
 clear hM hE;obtain ⟨z1,hz1⟩:=Qg (m.2 i);obtain ⟨z2,hz2⟩:=Qg (m.1 k);have o0:=HC.o.cell hi;rw [← hz1] at o0;have ol:=HC.o.lt hno0;have i0:=HC.i.cell hk;rw [← hz2] at i0;have il:=HC.i.lt hni0;replace hz1:=Lib.hid hz1;replace hz2:=Lib.hid hz2;obtain ⟨s0,s1,s2,s3,s4,s5,s6⟩:=Q4 HC.km.s;have sl:=HC.km.s.lt;go_upto_region 2 with (fail)
 refine Zd wc Qo (by kernel_rfl) Qj ?_;intro hne hrx hry;try simp only []
 try simp only [List.append_eq,List.cons_append,List.nil_append]
 skip
 repeat (first
  | go_big_quiet_skip
  | (go_big_quiet_want;go_big_quiet_op;go_big_quiet_on))
 clear hne hry hrx;refine wpQuiet_nil ?_;intro w2 h2;obtain ⟨hcw2,hfw2,hzw2⟩:=Qb.rules h2;try simp only [World.size_alloc] at hzw2
 obtain ⟨hcbw2,hfbw2,hzbw2⟩:=Qb.rules (show Qb wc w2 from Qj);clear hcw2 hfw2;clear s0 s1 s2 s3 s4 s5 s6 sl o0 ol i0 il;replace HC:=HC.ext h2;replace hF:=hF.ext h2;replace AO2:=AO2.ext h2;replace AI2:=AI2.ext h2;clear h2;obtain ⟨s0,s1,s2,s3,s4,s5,s6⟩:=Q4 HC.km.s;have sl:=HC.km.s.lt;rcases Int.lt_or_le z2 0 with n2 | n2
 ·rcases Int.lt_or_le z1 0 with n1 | n1
  ·replace hz1:=hz1.out;replace hz2:=hz2.out;have g2 : decide (0 ≤ z2) = false:=decide_eq_false (by omega);have g4 : decide (z2 < 0) = true:=decide_eq_true n2;have g1 : decide (0 ≤ z1) = false:=decide_eq_false (by omega);have g3 : decide (z1 < 0) = true:=decide_eq_true n1
   have hs : (Qk (m.1) k (i : Int),Qk (m.2) i (k : Int)) = J4 m i k:=by
    unfold J4 Z7;rw [if_neg (show ¬ 0 ≤ m.2 i by omega),if_neg (show ¬ 0 ≤ m.1 k by omega)]
   have hRs : R = some (J4 m i k):=by rw [hR.out];unfold Y9;rw [if_pos (by omega)]
   subst hRs;clear hR;replace hs:=Lib.hid hs;replace hz1:=Lib.hid hz1;replace hz2:=Lib.hid hz2;go_upto_region 7 with (fail)
   clear s0 s1 s2 s3 s4 s5 s6 sl;refine Zb 16 [15] (fun x => KM bm bs (.slice Vo no co) (.slice Vi ni ci) (.slice Y no cY) (some ⟨bo,0,none⟩) (some ⟨bi,0,none⟩) (some ⟨bf,0,none⟩) no ni cO cI cX x) Qo rfl ?_;intro vz hvz;replace HC:=HC.ext hvz;replace hF:=hF.ext hvz;replace AO2:=AO2.ext hvz;replace AI2:=AI2.ext hvz;have HK:=HC.km;refine Qs (g:=3) [0,1,2,3,4,5,6,7,8,9,10,11,12] [_,_,_,_,_,_,_,_,_,_,_,_,_] ⟨rfl,rfl,rfl,rfl,rfl,rfl,rfl,rfl,rfl,rfl,rfl,rfl,rfl,trivial⟩ (by kernel_rfl) (by kernel_rfl) HK ?_;simp only [Qc,Qd,Qe];apply Exists.intro;refine ⟨fun u hu => ?_,?_⟩
   ·obtain ⟨s0,s1,s2,s3,s4,s5,s6⟩:=Q4 hu.s;have sl:=hu.s.lt;repeat (first | go_big_quiet_skip | (go_big_quiet_want;go_big_quiet_op;go_big_quiet_on))
    refine wpQuiet_nil ?_;rfl
   refine Ql 13 rfl (by kernel_rfl) ?_;simp only [Qc,Qd,Qe];have fz:=HC.o.frozen hno0 i;have fc:=HC.o.cell hi;have fl:=HC.o.lt hno0;go_wp2;replace hF:=hF.setA HC.o hno0 Xq i (.int .i64 (k : Int));replace AO2:=AO2.oth (fun hn => a1.2.1) i (.int .i64 (k : Int));replace AI2:=AI2.oth (fun hn => a2.2.1) i (.int .i64 (k : Int));replace HC:=HC.setO hi (k : Int);clear fz fc fl;generalize World.setCell _ _ _ = wq at *;replace HK:=HC.km;refine Qh HK ?_;refine Qs (g:=1) [14] [_] ⟨rfl,trivial⟩ (by kernel_rfl) (by kernel_rfl) HK ?_;simp only [Qc,Qd,Qe];apply Exists.intro;refine ⟨fun u hu => ?_,?_⟩
   ·obtain ⟨s0,s1,s2,s3,s4,s5,s6⟩:=Q4 hu.s;have sl:=hu.s.lt;repeat (first | go_big_quiet_skip | (go_big_quiet_want;go_big_quiet_op;go_big_quiet_on))
    refine wpQuiet_nil ?_;rfl
   refine Qr 15 rfl (by kernel_rfl) ?_;simp only [Qc,Qd,Qe];have fz:=HC.i.frozen hni0 k;have fc:=HC.i.cell hk;have fl:=HC.i.lt hni0;go_wp2;replace hF:=hF.setA HC.i hni0 Xq k (.int .i64 (i : Int));replace AO2:=AO2.oth (fun hn => a1.2.2) k (.int .i64 (i : Int));replace AI2:=AI2.oth (fun hn => a2.2.2.1) k (.int .i64 (i : Int));replace HC:=HC.setI hk (i : Int);clear fz fc fl;generalize World.setCell _ _ _ = wq at *;replace HK:=HC.km;refine Qq ?_;refine Qv (by kernel_rfl) ?_;rw [hs.out] at HC;clear HK;obtain ⟨s0,s1,s2,s3,s4,s5,s6⟩:=Q4 HC.km.s;have sl:=HC.km.s.lt;go_upto_region 8 with (fail)
   have fz:=HC.f.frozen hni0 k;have fc:=HC.f.cell hk;have fl:=HC.f.lt hni0;go_upto_region 9 with (fail)
   replace hF:=hF.setA HC.f hni0 Kc k (.bool true);replace AO2:=AO2.oth (fun hn => AO2.apart2 HC.f (by decide) hn hni0) k (.bool true);replace AI2:=AI2.oth (fun hn => AI2.apart2 HC.f (by decide) hn hni0) k (.bool true);replace HC:=HC.setF hk (true);clear fz fc fl;generalize World.setCell _ _ _ = wq at *;clear s0 s1 s2 s3 s4 s5 s6 sl;obtain ⟨s0,s1,s2,s3,s4,s5,s6⟩:=Q4 HC.km.s;have sl:=HC.km.s.lt;go_upto_region 11 with (fail)
   go_loopw [11,12] (fun okv jv wr => okv = .bool true ∧ jv = .int .i64 ((i + 1 : Nat) : Int) ∧ wr = wq) (fun _ _ _ => 0)
   case atStart => exact ⟨rfl,by go_num,rfl⟩
   case round =>
    obtain ⟨rfl,rfl,rfl⟩:=hrel;by_cases cj : i + 1 < no
    ·have cj1 : decide (((i + 1 : Nat) : Int) < (no : Int)) = true:=decide_eq_true (by omega);go_wp2;go_ret;exact ⟨rfl,hF,_,_,_,_,_,_,HC⟩
    ·have cj1 : decide (((i + 1 : Nat) : Int) < (no : Int)) = false:=decide_eq_false (by omega);go_wp2;go_ret;exact ⟨rfl,hF,_,_,_,_,_,_,HC⟩
  ·replace hz1 := hz1.out;replace hz2 := hz2.out;have g2 : decide (0 ≤ z2) = false := decide_eq_false (by omega);have g4 : decide (z2 < 0) = true := decide_eq_true n2;obtain ⟨p1, rfl⟩ := Int.eq_ofNat_of_zero_le n1;have hp1 : p1 < ni := by have := hm2 i hi (by omega); rw [← hz1] at this; simpa using this
   have g1 : decide ((0 : Int) ≤ (p1 : Int)) = true:=decide_eq_true n1;have g3 : decide ((p1 : Int) < 0) = false:=decide_eq_false (by omega)
   have hs : (Qk (Qk m.1 p1 (-1)) k (i : Int),Qk (m.2) i (k : Int)) = J4 m i k:=by
    unfold J4 Z7;rw [if_pos (show 0 ≤ m.2 i by omega),if_neg (show ¬ 0 ≤ m.1 k by omega),← hz1];rfl
   have hRs : R = some (J4 m i k):=by rw [hR.out];unfold Y9;rw [if_pos (by omega)]
   subst hRs;clear hR;replace hs:=Lib.hid hs;replace hz1:=Lib.hid hz1;replace hz2:=Lib.hid hz2;go_upto_region 6 with (fail)
   have fz:=HC.i.frozen hni0 p1;have fc:=HC.i.cell hp1;have fl:=HC.i.lt hni0;go_upto_region 7 with (fail)
   replace hF:=hF.setA HC.i hni0 Xq p1 (.int .i64 (-1));replace AO2:=AO2.oth (fun hn => a1.2.2) p1 (.int .i64 (-1));replace AI2:=AI2.oth (fun hn => a2.2.2.1) p1 (.int .i64 (-1));replace HC:=HC.setI hp1 (-1);clear fz fc fl;generalize World.setCell _ _ _ = wq at *;clear s0 s1 s2 s3 s4 s5 s6 sl;refine Zb 16 [15] (fun x => KM bm bs (.slice Vo no co) (.slice Vi ni ci) (.slice Y no cY) (some ⟨bo,0,none⟩) (some ⟨bi,0,none⟩) (some ⟨bf,0,none⟩) no ni cO cI cX x) Qo rfl ?_;intro vz hvz;replace HC:=HC.ext hvz;replace hF:=hF.ext hvz;replace AO2:=AO2.ext hvz;replace AI2:=AI2.ext hvz;have HK:=HC.km;refine Qs (g:=3) [0,1,2,3,4,5,6,7,8,9,10,11,12] [_,_,_,_,_,_,_,_,_,_,_,_,_] ⟨rfl,rfl,rfl,rfl,rfl,rfl,rfl,rfl,rfl,rfl,rfl,rfl,rfl,trivial⟩ (by kernel_rfl) (by kernel_rfl) HK ?_
   simp only [Qc,Qd,Qe];apply Exists.intro;refine ⟨fun u hu => ?_,?_⟩
   ·obtain ⟨s0,s1,s2,s3,s4,s5,s6⟩:=Q4 hu.s;have sl:=hu.s.lt;repeat (first | go_big_quiet_skip | (go_big_quiet_want;go_big_quiet_op;go_big_quiet_on))
    refine wpQuiet_nil ?_;rfl
   refine Ql 13 rfl (by kernel_rfl) ?_;simp only [Qc,Qd,Qe];have fz:=HC.o.frozen hno0 i;have fc:=HC.o.cell hi;have fl:=HC.o.lt hno0;go_wp2;replace hF:=hF.setA HC.o hno0 Xq i (.int .i64 (k : Int));replace AO2:=AO2.oth (fun hn => a1.2.1) i (.int .i64 (k : Int));replace AI2:=AI2.oth (fun hn => a2.2.1) i (.int .i64 (k : Int));replace HC:=HC.setO hi (k : Int);clear fz fc fl;generalize World.setCell _ _ _ = wq at *;replace HK:=HC.km;refine Qh HK ?_;refine Qs (g:=1) [14] [_] ⟨rfl,trivial⟩ (by kernel_rfl) (by kernel_rfl) HK ?_;simp only [Qc,Qd,Qe];apply Exists.intro;refine ⟨fun u hu => ?_,?_⟩
   ·obtain ⟨s0,s1,s2,s3,s4,s5,s6⟩:=Q4 hu.s;have sl:=hu.s.lt;repeat (first | go_big_quiet_skip | (go_big_quiet_want;go_big_quiet_op;go_big_quiet_on))
    refine wpQuiet_nil ?_;rfl
   refine Qr 15 rfl (by kernel_rfl) ?_;simp only [Qc,Qd,Qe];have fz:=HC.i.frozen hni0 k;have fc:=HC.i.cell hk;have fl:=HC.i.lt hni0;go_wp2;replace hF:=hF.setA HC.i hni0 Xq k (.int .i64 (i : Int));replace AO2:=AO2.oth (fun hn => a1.2.2) k (.int .i64 (i : Int));replace AI2:=AI2.oth (fun hn => a2.2.2.1) k (.int .i64 (i : Int));replace HC:=HC.setI hk (i : Int);clear fz fc fl;generalize World.setCell _ _ _ = wq at *;replace HK:=HC.km;refine Qq ?_;refine Qv (by kernel_rfl) ?_;rw [hs.out] at HC;clear HK;obtain ⟨s0,s1,s2,s3,s4,s5,s6⟩:=Q4 HC.km.s;have sl:=HC.km.s.lt;go_upto_region 8 with (fail)
   have fz:=HC.f.frozen hni0 k;have fc:=HC.f.cell hk;have fl:=HC.f.lt hni0;go_upto_region 9 with (fail)
   replace hF:=hF.setA HC.f hni0 Kc k (.bool true);replace AO2:=AO2.oth (fun hn => AO2.apart2 HC.f (by decide) hn hni0) k (.bool true);replace AI2:=AI2.oth (fun hn => AI2.apart2 HC.f (by decide) hn hni0) k (.bool true);replace HC:=HC.setF hk (true);clear fz fc fl;generalize World.setCell _ _ _ = wq at *;clear s0 s1 s2 s3 s4 s5 s6 sl;obtain ⟨s0,s1,s2,s3,s4,s5,s6⟩:=Q4 HC.km.s;have sl:=HC.km.s.lt;go_upto_region 11 with (fail)
   go_loopw [11,12] (fun okv jv wr => okv = .bool true ∧ jv = .int .i64 ((i + 1 : Nat) : Int) ∧ wr = wq) (fun _ _ _ => 0)
   case atStart => exact ⟨rfl,by go_num,rfl⟩
   case round =>
    obtain ⟨rfl,rfl,rfl⟩:=hrel;by_cases cj : i + 1 < no
    ·have cj1 : decide (((i + 1 : Nat) : Int) < (no : Int)) = true:=decide_eq_true (by omega);go_wp2;go_ret;exact ⟨rfl,hF,_,_,_,_,_,_,HC⟩
    ·have cj1 : decide (((i + 1 : Nat) : Int) < (no : Int)) = false:=decide_eq_false (by omega);go_wp2;go_ret;exact ⟨rfl,hF,_,_,_,_,_,_,HC⟩
 ·rcases Int.lt_or_le z1 0 with n1 | n1
  ·replace hz1 := hz1.out;replace hz2 := hz2.out;obtain ⟨p2, rfl⟩ := Int.eq_ofNat_of_zero_le n2;have hp2 : p2 < no := by have := hm1 k hk (by omega); rw [← hz2] at this; simpa using this
   have g2 : decide ((0 : Int) ≤ (p2 : Int)) = true:=decide_eq_true n2;have g1 : decide (0 ≤ z1) = false:=decide_eq_false (by omega);have g3 : decide (z1 < 0) = true:=decide_eq_true n1;have g4 : decide ((p2 : Int) < 0) = false:=decide_eq_false (by omega)
   have hs : (Qk (m.1) k (i : Int),Qk (Qk m.2 p2 (-1)) i (k : Int)) = J4 m i k:=by
    unfold J4 Z7;rw [if_neg (show ¬ 0 ≤ m.2 i by omega),if_pos (show 0 ≤ m.1 k by omega),← hz2];rfl
   have hRs : R = some (J4 m i k):=by rw [hR.out];unfold Y9;rw [if_pos (by omega)]
   subst hRs;clear hR;replace hs:=Lib.hid hs;replace hz1:=Lib.hid hz1;replace hz2:=Lib.hid hz2;go_upto_region 4 with (fail)
   have fz:=HC.o.frozen hno0 p2;have fc:=HC.o.cell hp2;have fl:=HC.o.lt hno0;go_upto_region 5 with (fail)
   replace hF:=hF.setA HC.o hno0 Xq p2 (.int .i64 (-1));replace AO2:=AO2.oth (fun hn => a1.2.1) p2 (.int .i64 (-1));replace AI2:=AI2.oth (fun hn => a2.2.1) p2 (.int .i64 (-1));replace HC:=HC.setO hp2 (-1);clear fz fc fl;generalize World.setCell _ _ _ = wq at *;clear s0 s1 s2 s3 s4 s5 s6 sl;obtain ⟨s0,s1,s2,s3,s4,s5,s6⟩:=Q4 HC.km.s;have sl:=HC.km.s.lt;go_upto_region 7 with (fail)
   clear s0 s1 s2 s3 s4 s5 s6 sl;refine Zb 16 [15] (fun x => KM bm bs (.slice Vo no co) (.slice Vi ni ci) (.slice Y no cY) (some ⟨bo,0,none⟩) (some ⟨bi,0,none⟩) (some ⟨bf,0,none⟩) no ni cO cI cX x) Qo rfl ?_;intro vz hvz;replace HC:=HC.ext hvz;replace hF:=hF.ext hvz;replace AO2:=AO2.ext hvz;replace AI2:=AI2.ext hvz;have HK:=HC.km;refine Qs (g:=3) [0,1,2,3,4,5,6,7,8,9,10,11,12] [_,_,_,_,_,_,_,_,_,_,_,_,_] ⟨rfl,rfl,rfl,rfl,rfl,rfl,rfl,rfl,rfl,rfl,rfl,rfl,rfl,trivial⟩ (by kernel_rfl) (by kernel_rfl) HK ?_;simp only [Qc,Qd,Qe];apply Exists.intro;refine ⟨fun u hu => ?_,?_⟩
   ·obtain ⟨s0,s1,s2,s3,s4,s5,s6⟩:=Q4 hu.s;have sl:=hu.s.lt;repeat (first | go_big_quiet_skip | (go_big_quiet_want;go_big_quiet_op;go_big_quiet_on))
    refine wpQuiet_nil ?_;rfl
   refine Ql 13 rfl (by kernel_rfl) ?_;simp only [Qc,Qd,Qe];have fz:=HC.o.frozen hno0 i;have fc:=HC.o.cell hi;have fl:=HC.o.lt hno0;go_wp2;replace hF:=hF.setA HC.o hno0 Xq i (.int .i64 (k : Int));replace AO2:=AO2.oth (fun hn => a1.2.1) i (.int .i64 (k : Int));replace AI2:=AI2.oth (fun hn => a2.2.1) i (.int .i64 (k : Int));replace HC:=HC.setO hi (k : Int);clear fz fc fl;generalize World.setCell _ _ _ = wq at *;replace HK:=HC.km;refine Qh HK ?_;refine Qs (g:=1) [14] [_] ⟨rfl,trivial⟩ (by kernel_rfl) (by kernel_rfl) HK ?_;simp only [Qc,Qd,Qe];apply Exists.intro;refine ⟨fun u hu => ?_,?_⟩
   ·obtain ⟨s0,s1,s2,s3,s4,s5,s6⟩:=Q4 hu.s;have sl:=hu.s.lt;repeat (first | go_big_quiet_skip | (go_big_quiet_want;go_big_quiet_op;go_big_quiet_on))
    refine wpQuiet_nil ?_;rfl
   refine Qr 15 rfl (by kernel_rfl) ?_;simp only [Qc,Qd,Qe];have fz:=HC.i.frozen hni0 k;have fc:=HC.i.cell hk;have fl:=HC.i.lt hni0;go_wp2;replace hF:=hF.setA HC.i hni0 Xq k (.int .i64 (i : Int));replace AO2:=AO2.oth (fun hn => a1.2.2) k (.int .i64 (i : Int));replace AI2:=AI2.oth (fun hn => a2.2.2.1) k (.int .i64 (i : Int));replace HC:=HC.setI hk (i : Int);clear fz fc fl;generalize World.setCell _ _ _ = wq at *;replace HK:=HC.km;refine Qq ?_;refine Qv (by kernel_rfl) ?_;rw [hs.out] at HC;clear HK;obtain ⟨s0,s1,s2,s3,s4,s5,s6⟩:=Q4 HC.km.s;have sl:=HC.km.s.lt;go_upto_region 8 with (fail)
   have fz:=HC.f.frozen hni0 k;have fc:=HC.f.cell hk;have fl:=HC.f.lt hni0;go_upto_region 9 with (fail)
   replace hF:=hF.setA HC.f hni0 Kc k (.bool true);replace AO2:=AO2.oth (fun hn => AO2.apart2 HC.f (by decide) hn hni0) k (.bool true);replace AI2:=AI2.oth (fun hn => AI2.apart2 HC.f (by decide) hn hni0) k (.bool true);replace HC:=HC.setF hk (true);clear fz fc fl;generalize World.setCell _ _ _ = wq at *;clear s0 s1 s2 s3 s4 s5 s6 sl;obtain ⟨s0,s1,s2,s3,s4,s5,s6⟩:=Q4 HC.km.s;have sl:=HC.km.s.lt;go_upto_region 11 with (fail)
   go_loopw [11,12] (fun okv jv wr => okv = .bool true ∧ jv = .int .i64 ((i + 1 : Nat) : Int) ∧ wr = wq) (fun _ _ _ => 0)
   case atStart => exact ⟨rfl,by go_num,rfl⟩
   case round =>
    obtain ⟨rfl,rfl,rfl⟩:=hrel;by_cases cj : i + 1 < no
    ·have cj1 : decide (((i + 1 : Nat) : Int) < (no : Int)) = true:=decide_eq_true (by omega);go_wp2;go_ret;exact ⟨rfl,hF,_,_,_,_,_,_,HC⟩
    ·have cj1 : decide (((i + 1 : Nat) : Int) < (no : Int)) = false:=decide_eq_false (by omega);go_wp2;go_ret;exact ⟨rfl,hF,_,_,_,_,_,_,HC⟩
  ·replace hz1 := hz1.out;replace hz2 := hz2.out;obtain ⟨p2, rfl⟩ := Int.eq_ofNat_of_zero_le n2;have hp2 : p2 < no := by have := hm1 k hk (by omega); rw [← hz2] at this; simpa using this
   have g2 : decide ((0 : Int) ≤ (p2 : Int)) = true:=decide_eq_true n2;obtain ⟨p1,rfl⟩:=Int.eq_ofNat_of_zero_le n1;have hp1 : p1 < ni:=by have:=hm2 i hi (by omega);rw [← hz1] at this;simpa using this
   have g1 : decide ((0 : Int) ≤ (p1 : Int)) = true:=decide_eq_true n1;have g3 : decide ((p1 : Int) < 0) = false:=decide_eq_false (by omega);have g4 : decide ((p2 : Int) < 0) = false:=decide_eq_false (by omega)
   have hs : (Qk (Qk m.1 p1 (-1)) k (i : Int),Qk (Qk m.2 p2 (-1)) i (k : Int)) = J4 m i k:=by
    unfold J4 Z7;rw [if_pos (show 0 ≤ m.2 i by omega),if_pos (show 0 ≤ m.1 k by omega),← hz1,← hz2];rfl
   replace hR : Hid (W7 adj ni (Qk fx k true) (no - (i + 1)) (i + 1) (J4 m i k) = R):=by
    have h:=hR.out;unfold Y9 at h;rw [if_neg (by omega)] at h;exact h.symm
   replace hs:=Lib.hid hs;replace hz1:=Lib.hid hz1;replace hz2:=Lib.hid hz2;go_upto_region 4 with (fail)
   have fz:=HC.o.frozen hno0 p2;have fc:=HC.o.cell hp2;have fl:=HC.o.lt hno0;go_upto_region 5 with (fail)
   replace hF:=hF.setA HC.o hno0 Xq p2 (.int .i64 (-1));replace AO2:=AO2.oth (fun hn => a1.2.1) p2 (.int .i64 (-1));replace AI2:=AI2.oth (fun hn => a2.2.1) p2 (.int .i64 (-1));replace HC:=HC.setO hp2 (-1);clear fz fc fl;generalize World.setCell _ _ _ = wq at *;clear s0 s1 s2 s3 s4 s5 s6 sl;obtain ⟨s0,s1,s2,s3,s4,s5,s6⟩:=Q4 HC.km.s;have sl:=HC.km.s.lt;go_upto_region 6 with (fail)
   have fz:=HC.i.frozen hni0 p1;have fc:=HC.i.cell hp1;have fl:=HC.i.lt hni0;go_upto_region 7 with (fail)
   replace hF:=hF.setA HC.i hni0 Xq p1 (.int .i64 (-1));replace AO2:=AO2.oth (fun hn => a1.2.2) p1 (.int .i64 (-1));replace AI2:=AI2.oth (fun hn => a2.2.2.1) p1 (.int .i64 (-1));replace HC:=HC.setI hp1 (-1);clear fz fc fl;generalize World.setCell _ _ _ = wq at *;clear s0 s1 s2 s3 s4 s5 s6 sl;refine Zb 16 [15] (fun x => KM bm bs (.slice Vo no co) (.slice Vi ni ci) (.slice Y no cY) (some ⟨bo,0,none⟩) (some ⟨bi,0,none⟩) (some ⟨bf,0,none⟩) no ni cO cI cX x) Qo rfl ?_;intro vz hvz;replace HC:=HC.ext hvz;replace hF:=hF.ext hvz;replace AO2:=AO2.ext hvz;replace AI2:=AI2.ext hvz;have HK:=HC.km;refine Qs (g:=3) [0,1,2,3,4,5,6,7,8,9,10,11,12] [_,_,_,_,_,_,_,_,_,_,_,_,_] ⟨rfl,rfl,rfl,rfl,rfl,rfl,rfl,rfl,rfl,rfl,rfl,rfl,rfl,trivial⟩ (by kernel_rfl) (by kernel_rfl) HK ?_
   simp only [Qc,Qd,Qe];apply Exists.intro;refine ⟨fun u hu => ?_,?_⟩
   ·obtain ⟨s0,s1,s2,s3,s4,s5,s6⟩:=Q4 hu.s;have sl:=hu.s.lt;repeat (first | go_big_quiet_skip | (go_big_quiet_want;go_big_quiet_op;go_big_quiet_on))
    refine wpQuiet_nil ?_;rfl
   refine Ql 13 rfl (by kernel_rfl) ?_;simp only [Qc,Qd,Qe];have fz:=HC.o.frozen hno0 i;have fc:=HC.o.cell hi;have fl:=HC.o.lt hno0;go_wp2;replace hF:=hF.setA HC.o hno0 Xq i (.int .i64 (k : Int));replace AO2:=AO2.oth (fun hn => a1.2.1) i (.int .i64 (k : Int));replace AI2:=AI2.oth (fun hn => a2.2.1) i (.int .i64 (k : Int));replace HC:=HC.setO hi (k : Int);clear fz fc fl;generalize World.setCell _ _ _ = wq at *;replace HK:=HC.km;refine Qh HK ?_;refine Qs (g:=1) [14] [_] ⟨rfl,trivial⟩ (by kernel_rfl) (by kernel_rfl) HK ?_;simp only [Qc,Qd,Qe];apply Exists.intro;refine ⟨fun u hu => ?_,?_⟩
   ·obtain ⟨s0,s1,s2,s3,s4,s5,s6⟩:=Q4 hu.s;have sl:=hu.s.lt;repeat (first | go_big_quiet_skip | (go_big_quiet_want;go_big_quiet_op;go_big_quiet_on))
    refine wpQuiet_nil ?_;rfl
   refine Qr 15 rfl (by kernel_rfl) ?_;simp only [Qc,Qd,Qe];have fz:=HC.i.frozen hni0 k;have fc:=HC.i.cell hk;have fl:=HC.i.lt hni0;go_wp2;replace hF:=hF.setA HC.i hni0 Xq k (.int .i64 (i : Int));replace AO2:=AO2.oth (fun hn => a1.2.2) k (.int .i64 (i : Int));replace AI2:=AI2.oth (fun hn => a2.2.2.1) k (.int .i64 (i : Int));replace HC:=HC.setI hk (i : Int);clear fz fc fl;generalize World.setCell _ _ _ = wq at *;replace HK:=HC.km;refine Qq ?_;refine Qv (by kernel_rfl) ?_;rw [hs.out] at HC;clear HK;obtain ⟨s0,s1,s2,s3,s4,s5,s6⟩:=Q4 HC.km.s;have sl:=HC.km.s.lt;go_upto_region 8 with (fail)
   have fz:=HC.f.frozen hni0 k;have fc:=HC.f.cell hk;have fl:=HC.f.lt hni0;go_upto_region 9 with (fail)
   replace hF:=hF.setA HC.f hni0 Kc k (.bool true);replace AO2:=AO2.oth (fun hn => AO2.apart2 HC.f (by decide) hn hni0) k (.bool true);replace AI2:=AI2.oth (fun hn => AI2.apart2 HC.f (by decide) hn hni0) k (.bool true);replace HC:=HC.setF hk (true);clear fz fc fl;generalize World.setCell _ _ _ = wq at *;clear s0 s1 s2 s3 s4 s5 s6 sl;obtain ⟨s0,s1,s2,s3,s4,s5,s6⟩:=Q4 HC.km.s;have sl:=HC.km.s.lt;go_upto_region 11 with (fail)
   obtain ⟨mS,hmS⟩:=Qg (J4 m i k);have hms:=Qaa (k:=k) hi hm1;rw [← hmS] at HC hR hms;clear hs hz1 hz2 hmS s0 s1 s2 s3 s4 s5 s6 sl
   go_loopw [11,12] (fun okv jv wr => ∃ (j : Nat) (om : Option Mt),j ≤ no ∧ jv = .int .i64 j ∧ okv = .bool om.isSome ∧ MS W0 wr bm bs (.slice Vo no co) (.slice Vi ni ci) (.slice Y no cY) (some ⟨bo,0,none⟩) (some ⟨bi,0,none⟩) (some ⟨bf,0,none⟩) no ni cO cI cX bo bi bf (om.getD mS) (Qk fx k true) ∧ FT W wr ∧ Qw wr 3 O2 no bo2 (fun x => .int .i64 (m.2 x)) ∧ Qw wr 3 I2 ni bi2 (fun x => .int .i64 (m.1 x)) ∧ Hid (om = none → W7 adj ni (Qk fx k true) (no - j) j mS = R) ∧ Hid (∀ m',om = some m' → R = some m')) (fun _ jv _ => no - (intOf jv).toNat)
   case atStart => exact ⟨i + 1,none,by omega,by go_num,rfl,HC,hF,AO2,AI2,Lib.hid fun _ => hR.out,Lib.hid fun _ h => by cases h⟩
   case round =>
    clear HC hF AO2 AI2 hR;obtain ⟨j,om,hj,rfl,rfl,M,hF,AO2,AI2,h1,h2⟩:=hrel;obtain ⟨wo,rfl⟩:=Qg wr
    cases om with
    | some m' =>
     have hRs:=h2.out m' rfl;subst hRs;clear h1 h2;obtain ⟨s0,s1,s2,s3,s4,s5,s6⟩:=Q4 M.km.s;have sl:=M.km.s.lt;by_cases cj : j < no
     ·have cj1 : decide ((j : Int) < (no : Int)) = true:=decide_eq_true (by omega);go_wp2;go_ret;exact ⟨rfl,hF,_,_,_,_,_,_,M⟩
     ·have cj1 : decide ((j : Int) < (no : Int)) = false:=decide_eq_false (by omega);go_wp2;go_ret
      exact ⟨rfl,hF,_,_,_,_,_,_,M⟩
    | none =>
     replace M : MS W0 wo bm bs (.slice Vo no co) (.slice Vi ni ci) (.slice Y no cY) (some ⟨bo,0,none⟩) (some ⟨bi,0,none⟩) (some ⟨bf,0,none⟩) no ni cO cI cX bo bi bf mS (Qk fx k true):=M;replace h1:=h1.out rfl;clear h2;obtain ⟨s0,s1,s2,s3,s4,s5,s6⟩:=Q4 M.km.s;have sl:=M.km.s.lt;by_cases cj : j < no;rotate_left
     ·have cj1 : decide ((j : Int) < (no : Int)) = false:=decide_eq_false (by omega)
      obtain rfl : R = none:=by
       rw [show no - j = 0 by omega] at h1;exact h1.symm
      clear h1;go_upto_region 15 with (fail)
      have z3:=M.km.s.frozen 3;have z4:=M.km.s.frozen 4;go_upto_region 16 with (fail)
      have HS1:=Kt M.km.s 3 (.slice O2 no cO2);have hbb:=Yq M.km.p M.km.s (by decide);have HP2:=X8 (X8 M.km.p hbb 3 (.slice O2 no cO2)) hbb 4 (.slice I2 ni cI2);have HS2:=Kt HS1 4 (.slice I2 ni cI2);have E2:=(M.e.setCell (p:=⟨bs,3,none⟩) hls (.slice O2 no cO2)).setCell (p:=⟨bs,4,none⟩) hls (.slice I2 ni cI2);have AO3:=(AO2.offM M.km.s (by decide) 3 (.slice O2 no cO2)).offM HS1 (by decide) 4 (.slice I2 ni cI2);have AI3:=(AI2.offM M.km.s (by decide) 3 (.slice O2 no cO2)).offM HS1 (by decide) 4 (.slice I2 ni cI2);have AF3:=(M.f.offM M.km.s (by decide) 3 (.slice O2 no cO2)).offM HS1 (by decide) 4 (.slice I2 ni cI2);replace hF:=(hF.setH M.km.s mt_m 3 (.slice O2 no cO2)).setH HS1 mt_m 4 (.slice I2 ni cI2)
      have M9 : MS W0 _ bm bs (.slice Vo no co) (.slice Vi ni ci) (.slice Y no cY) O2 I2 (some ⟨bf,0,none⟩) no ni cO2 cI2 cX bo2 bi2 bf m (Qk fx k true):=⟨E2,⟨HP2,HS2⟩,AO3,AI3,AF3,fun _ _ => a2.2.2.2,fun _ => a1.1,fun _ => a2.1,M.lf⟩;clear HS1 HS2 HP2 E2 AO3 AI3 AF3 AO2 AI2 z3 z4 hbb s0 s1 s2 s3 s4 s5 s6 sl M;generalize World.setCell (World.setCell _ _ _) _ _ = w9 at *;obtain ⟨s0,s1,s2,s3,s4,s5,s6⟩:=Q4 M9.km.s;have sl:=M9.km.s.lt;have fz:=M9.f.frozen hni0 k;have fc:=M9.f.cell hk;have fl:=M9.f.lt hni0;go_upto_region 17 with (fail)
      replace hF:=hF.setA M9.f hni0 Kc k (.bool false);have M10:=M9.setF hk false;rw [Qit hf] at M10;clear fz fc fl M9 s0 s1 s2 s3 s4 s5 s6 sl;generalize World.setCell _ _ _ = w10 at *;go_wp2;go_ret;exact ⟨rfl,hF,_,_,_,_,_,_,M10⟩
     have cj1 : decide ((j : Int) < (no : Int)) = true:=decide_eq_true (by omega);have o0:=M.o.cell cj;have ol:=M.o.lt hno0;rw [show no - j = (no - (j + 1)) + 1 by omega] at h1;unfold W7 at h1;by_cases c : mS.2 j < 0;rotate_left
     ·have c1 : decide (mS.2 j < 0) = false:=decide_eq_false c;rw [if_neg c] at h1;replace h1:=Lib.hid h1;go_upto_region 13 with (fail)
      refine Zd wo Qo (by kernel_rfl) Qj ?_;intro hne hrx hry;try simp only []
      try simp only [List.append_eq,List.cons_append,List.nil_append]
      skip
      repeat (first
       | go_big_quiet_skip
       | (go_big_quiet_want;go_big_quiet_op;go_big_quiet_on))
      clear hne hry hrx;refine wpQuiet_nil ?_;intro w9 h9;obtain ⟨hcw9,hfw9,hzw9⟩:=Qb.rules h9;try simp only [World.size_alloc] at hzw9
      obtain ⟨hcbw9,hfbw9,hzbw9⟩:=Qb.rules (show Qb wo w9 from Qj);clear hcw9 hfw9;replace M:=M.ext h9;replace hF:=hF.ext h9;replace AO2:=AO2.ext h9;replace AI2:=AI2.ext h9;clear h9 o0 ol s0 s1 s2 s3 s4 s5 s6 sl;go_wp2;exact ⟨⟨j + 1,none,by omega,by go_num,rfl,M,hF,AO2,AI2,Lib.hid fun _ => h1.out,Lib.hid fun _ h => by cases h⟩,by simp [intOf];omega⟩
     have c1 : decide (mS.2 j < 0) = true:=decide_eq_true c;rw [if_pos c] at h1;replace h1:=Lib.hid h1;go_upto_region 13 with (fail)
     refine Zb 23 [20,21,22] (fun x => MS W0 x bm bs (.slice Vo no co) (.slice Vi ni ci) (.slice Y no cY) (some ⟨bo,0,none⟩) (some ⟨bi,0,none⟩) (some ⟨bf,0,none⟩) no ni cO cI cX bo bi bf mS (Qk fx k true) ∧ x.cell? ⟨bo,j,none⟩ = some (.int .i64 (mS.2 j)) ∧ bo < x.heap.size) Qo rfl ?_;intro vz hvz;replace hF:=hF.ext hvz;replace AO2:=AO2.ext hvz;replace AI2:=AI2.ext hvz;have HC:=And.intro (M.ext hvz) (And.intro ((hvz.cell (p:=⟨bo,j,none⟩) ol).trans o0) (Nat.lt_of_lt_of_le ol hvz.size));clear M o0 ol s0 s1 s2 s3 s4 s5 s6 sl;refine Qs (g:=14) [0,1,2,3,4,5,6,7,8] [_,_,_,_,_,_,_,_,_] ⟨rfl,rfl,rfl,rfl,rfl,rfl,rfl,rfl,rfl,trivial⟩ (by kernel_rfl) (by kernel_rfl) HC ?_
     simp only [Qc,Qd,Qe];apply Exists.intro;refine ⟨fun u hu => ?_,?_⟩
     ·obtain ⟨s0,s1,s2,s3,s4,s5,s6⟩:=Q4 hu.1.km.s;have sl:=hu.1.km.s.lt;have o0:=hu.2.1;have ol:=hu.2.2;repeat (first | go_big_quiet_skip | (go_big_quiet_want;go_big_quiet_op;go_big_quiet_on))
      refine wpQuiet_nil ?_;rfl
     refine Ul (g:=13) 9 rfl (by kernel_rfl) (by kernel_rfl) (by kernel_rfl) HC ?_;simp only [Qc,Qd,Qe];apply Exists.intro;refine ⟨fun u hu => ?_,?_⟩
     ·obtain ⟨s0,s1,s2,s3,s4,s5,s6⟩:=Q4 hu.1.km.s;have sl:=hu.1.km.s.lt;have o0:=hu.2.1;have ol:=hu.2.2;repeat (first | go_big_quiet_skip | (go_big_quiet_want;go_big_quiet_op;go_big_quiet_on))
      refine wpQuiet_nil ?_;rfl
     refine Ul (g:=12) 10 rfl (by kernel_rfl) (by kernel_rfl) (by kernel_rfl) HC ?_;simp only [Qc,Qd,Qe];apply Exists.intro;refine ⟨fun u hu => ?_,?_⟩
     ·obtain ⟨s0,s1,s2,s3,s4,s5,s6⟩:=Q4 hu.1.km.s;have sl:=hu.1.km.s.lt;have o0:=hu.2.1;have ol:=hu.2.2;repeat (first | go_big_quiet_skip | (go_big_quiet_want;go_big_quiet_op;go_big_quiet_on))
      refine wpQuiet_nil ?_;rfl
     refine Ul (g:=11) 11 rfl (by kernel_rfl) (by kernel_rfl) (by kernel_rfl) HC ?_;simp only [Qc,Qd,Qe];apply Exists.intro;refine ⟨fun u hu => ?_,?_⟩
     ·obtain ⟨s0,s1,s2,s3,s4,s5,s6⟩:=Q4 hu.1.km.s;have sl:=hu.1.km.s.lt;have o0:=hu.2.1;have ol:=hu.2.2;repeat (first | go_big_quiet_skip | (go_big_quiet_want;go_big_quiet_op;go_big_quiet_on))
      refine wpQuiet_nil ?_;rfl
     refine Ul (g:=10) 12 rfl (by kernel_rfl) (by kernel_rfl) (by kernel_rfl) HC ?_;simp only [Qc,Qd,Qe];apply Exists.intro;refine ⟨fun u hu => ?_,?_⟩
     ·obtain ⟨s0,s1,s2,s3,s4,s5,s6⟩:=Q4 hu.1.km.s;have sl:=hu.1.km.s.lt;have o0:=hu.2.1;have ol:=hu.2.2;repeat (first | go_big_quiet_skip | (go_big_quiet_want;go_big_quiet_op;go_big_quiet_on))
      refine wpQuiet_nil ?_;rfl
     refine Ul (g:=9) 13 rfl (by kernel_rfl) (by kernel_rfl) (by kernel_rfl) HC ?_;simp only [Qc,Qd,Qe];apply Exists.intro;refine ⟨fun u hu => ?_,?_⟩
     ·obtain ⟨s0,s1,s2,s3,s4,s5,s6⟩:=Q4 hu.1.km.s;have sl:=hu.1.km.s.lt;have o0:=hu.2.1;have ol:=hu.2.2;repeat (first | go_big_quiet_skip | (go_big_quiet_want;go_big_quiet_op;go_big_quiet_on))
      refine wpQuiet_nil ?_;rfl
     refine Ul (g:=8) 14 rfl (by kernel_rfl) (by kernel_rfl) (by kernel_rfl) HC ?_;simp only [Qc,Qd,Qe];apply Exists.intro;refine ⟨fun u hu => ?_,?_⟩
     ·obtain ⟨s0,s1,s2,s3,s4,s5,s6⟩:=Q4 hu.1.km.s;have sl:=hu.1.km.s.lt;have o0:=hu.2.1;have ol:=hu.2.2;repeat (first | go_big_quiet_skip | (go_big_quiet_want;go_big_quiet_op;go_big_quiet_on))
      refine wpQuiet_nil ?_;rfl
     refine Ul (g:=7) 15 rfl (by kernel_rfl) (by kernel_rfl) (by kernel_rfl) HC ?_;simp only [Qc,Qd,Qe];apply Exists.intro;refine ⟨fun u hu => ?_,?_⟩
     ·obtain ⟨s0,s1,s2,s3,s4,s5,s6⟩:=Q4 hu.1.km.s;have sl:=hu.1.km.s.lt;have o0:=hu.2.1;have ol:=hu.2.2;repeat (first | go_big_quiet_skip | (go_big_quiet_want;go_big_quiet_op;go_big_quiet_on))
      refine wpQuiet_nil ?_;rfl
     refine Ul (g:=6) 16 rfl (by kernel_rfl) (by kernel_rfl) (by kernel_rfl) HC ?_;simp only [Qc,Qd,Qe];apply Exists.intro;refine ⟨fun u hu => ?_,?_⟩
     ·obtain ⟨s0,s1,s2,s3,s4,s5,s6⟩:=Q4 hu.1.km.s;have sl:=hu.1.km.s.lt;have o0:=hu.2.1;have ol:=hu.2.2;repeat (first | go_big_quiet_skip | (go_big_quiet_want;go_big_quiet_op;go_big_quiet_on))
      refine wpQuiet_nil ?_;rfl
     refine Ul (g:=5) 17 rfl (by kernel_rfl) (by kernel_rfl) (by kernel_rfl) HC ?_;simp only [Qc,Qd,Qe];apply Exists.intro;refine ⟨fun u hu => ?_,?_⟩
     ·obtain ⟨s0,s1,s2,s3,s4,s5,s6⟩:=Q4 hu.1.km.s;have sl:=hu.1.km.s.lt;have o0:=hu.2.1;have ol:=hu.2.2;repeat (first | go_big_quiet_skip | (go_big_quiet_want;go_big_quiet_op;go_big_quiet_on))
      refine wpQuiet_nil ?_;rfl
     refine Ul (g:=4) 18 rfl (by kernel_rfl) (by kernel_rfl) (by kernel_rfl) HC ?_;simp only [Qc,Qd,Qe];apply Exists.intro;refine ⟨fun u hu => ?_,?_⟩
     ·obtain ⟨s0,s1,s2,s3,s4,s5,s6⟩:=Q4 hu.1.km.s;have sl:=hu.1.km.s.lt;have o0:=hu.2.1;have ol:=hu.2.2;repeat (first | go_big_quiet_skip | (go_big_quiet_want;go_big_quiet_op;go_big_quiet_on))
      refine wpQuiet_nil ?_;rfl
     refine Ql 19 rfl (by kernel_rfl) ?_;simp only [Qc,Qd,Qe];go_wp2;obtain ⟨bn,wb,hbq,hwb,HN,_,hx,gp⟩:=Qn HC.1.e 4 (Array.replicate ni (.bool false));have hnf : 0 < ni → bn ≠ bf:=fun h => by have:=HC.1.f.lt h;omega
     have hln : 0 < ni → W0.heap.size ≤ bn:=fun _ => gp
     have q1:=AO2.lt hno0;have q2:=AI2.lt hni0;rw [← hbq] at q1 q2;rw [← hbq,← hwb];have AN : Qw wb 4 (some ⟨bn,0,none⟩) ni bn (fun x => .bool ((fun _ => false : Bl) x)):=⟨fun _ => rfl,fun _ => ⟨_,HN,by simp,fun k hk => by simp [hk]⟩⟩;replace HC:=And.intro (HC.1.ext hx) (And.intro ((hx.cell (p:=⟨bo,j,none⟩) HC.2.2).trans HC.2.1) (Nat.lt_of_lt_of_le HC.2.2 hx.size));replace hF:=hF.ext hx;replace AO2:=AO2.ext hx;replace AI2:=AI2.ext hx;clear hbq hwb hx HN gp;refine Qh HC ?_;refine Qr 20 rfl (by kernel_rfl) ?_;simp only [Qc,Qd,Qe];go_wp2_with (go_at_call 127;(with_reducible refine Calls.mono (Pk W0 bm bs (.slice Vo no co) (.slice Vi ni ci) (.slice Y no cY) (some ⟨bo,0,none⟩) (some ⟨bi,0,none⟩) (some ⟨bf,0,none⟩) no ni cO cI cX bo bi bf mS (Qk fx k true) hadj hY hms ni _ (fun _ => false) j _ _ bn cj (Ko ni _) HC.1 AN hnf hln) ?_);rintro e w6 ⟨rfl,M6,F6,sn3,N6,hb3⟩)
     replace hF:=hF.fr F6 HC.1.o HC.1.i AN;refine Qq ?_;refine Jy (g:=1) [21] [_] ⟨rfl,trivial⟩ (by kernel_rfl) (by kernel_rfl) ?_;simp only [Qc,Qd,Qe];apply Exists.intro;refine ⟨fun u hu => ?_,?_⟩
     ·repeat (first | go_big_quiet_skip | (go_big_quiet_want;go_big_quiet_op;go_big_quiet_on))
      refine wpQuiet_nil ?_;rfl
     refine Qr 22 rfl (by kernel_rfl) ?_;simp only [Qc,Qd,Qe];go_wp2;refine Qq ?_;refine Qv (by kernel_rfl) ?_;replace M6 : MS W0 w6 bm bs (.slice Vo no co) (.slice Vi ni ci) (.slice Y no cY) (some ⟨bo,0,none⟩) (some ⟨bi,0,none⟩) (some ⟨bf,0,none⟩) no ni cO cI cX bo bi bf ((Q3 adj ni mS (Qk fx k true) j).1.getD mS) (Qk fx k true):=M6
     replace AO2:=AO2.fr F6 (fun _ hs => by
      rcases hs with ⟨_,e⟩ | ⟨_,e | e⟩
      ·exact a1.2.1 e
      ·exact a1.2.2 e
      ·omega)
     replace AI2:=AI2.fr F6 (fun _ hs => by
      rcases hs with ⟨_,e⟩ | ⟨_,e | e⟩
      ·exact a2.2.1 e
      ·exact a2.2.2.1 e
      ·omega)
     clear F6 N6 hb3 sn3 AN q1 q2 HC;go_wp2;refine ⟨⟨j + 1,(Q3 adj ni mS (Qk fx k true) j).1,by omega,by go_num,rfl,M6,hF,AO2,AI2,Lib.hid fun e => ?_,Lib.hid fun m' e => ?_⟩,by simp [intOf];omega⟩
     ·have h:=h1.out;rw [e] at h;exact h
     ·have h:=h1.out;rw [e] at h;exact h.symm
structure Rg (no ni : Nat) (m : Mt) : Prop where
 i : ∀ x,x < ni → 0 ≤ m.1 x → (m.1 x).toNat < no
 o : ∀ x,x < no → 0 ≤ m.2 x → (m.2 x).toNat < ni
section
variable {no ni : Nat} {adj : Nat → List Nat}
theorem Rg.set {m : Mt} (h : Rg no ni m) {i k : Nat} (hi : i < no) (hk : k < ni) : Rg no ni (Ys m k i):=by
 refine ⟨fun x hx h0 => ?_,fun x hx h0 => ?_⟩
 ·have h0 : 0 ≤ Qk m.1 k i x:=h0
  show (Qk m.1 k i x).toNat < no
  by_cases e : x = k
  ·subst e;rw [Z4];simpa using hi
  ·rw [Zl _ _ e] at h0 ⊢;exact h.i x hx h0
 ·have h0 : 0 ≤ Qk m.2 i k x:=h0
  show (Qk m.2 i k x).toNat < ni
  by_cases e : x = i
  ·subst e;rw [Z4];simpa using hk
  ·rw [Zl _ _ e] at h0 ⊢;exact h.o x hx h0
theorem Gx {rec : Mt → Bl → Nat → Option Mt × Bl} (hrec : ∀ m b p m',Rg no ni m → p < no → (rec m b p).1 = some m' → Rg no ni m') {i : Nat} (hi : i < no) : ∀ (l : List Nat),(∀ k ∈ l,k < ni) → ∀ m b m',Rg no ni m → (Zy rec i l m b).1 = some m' → Rg no ni m'
 | [],_,_,_,_,_,h => by cases h
 | k :: r,hl,m,b,m',hm,h => by
  have hk:=hl k (List.mem_cons_self ..);have hr:=fun x hx => hl x (List.mem_cons_of_mem _ hx)
  unfold Zy at h
  split at h
  ·exact Gx hrec hi r hr m b m' hm h
  ·split at h
   ·injection h with h;subst h;exact hm.set hi hk
   ·rename_i h1 h2
    cases e : rec m (Qk b k true) (m.1 k).toNat with
    | mk ro b' =>
     rw [e] at h;have hp:=hm.i k hk (by omega)
     cases ro with
     | none => exact Gx hrec hi r hr m b' m' hm h
     | some m1 =>
      injection h with h;subst h
      exact (hrec m _ _ m1 hm hp (by rw [e])).set hi hk
theorem Gz (hadj : ∀ o,∀ k ∈ adj o,k < ni) : ∀ (n : Nat) m b i m',Rg no ni m → i < no → (Q3 adj n m b i).1 = some m' → Rg no ni m'
 | 0,_,_,_,_,_,_,h => by cases h
 | n + 1,m,b,i,m',hm,hi,h => Gx (fun m b p m' h1 h2 h3 => Gz hadj n m b p m' h1 h2 h3) hi (adj i) (hadj i) m b m' hm h
theorem Ra (hadj : ∀ o,∀ k ∈ adj o,k < ni) (fx : Bl) : ∀ (n s : Nat) m,s + n ≤ no → Rg no ni m → Rg no ni (Zo adj ni fx n s m).1
 | 0,_,_,_,hm => hm
 | n + 1,s,m,hs,hm => by
  unfold Zo
  cases e : (Q3 adj ni m fx s).1 with
  | none => exact Ra hadj fx n (s + 1) m (by omega) hm
  | some m' => exact Ra hadj fx n (s + 1) m' (by omega) (Gz hadj ni m fx s m' hm (by omega) e)
theorem Qgj : Rg no ni Z8:=⟨fun _ _ h => by have h : (0 : Int) ≤ -1:=h;omega,fun _ _ h => by have h : (0 : Int) ≤ -1:=h;omega⟩
theorem Qab {m : Mt} (h : Rg no ni m) {i k : Nat} (hi : i < no) (hk : k < ni) : Rg no ni (J4 m i k):=by
 refine ⟨Qaa hi h.i,fun x hx h0 => ?_⟩;have h0 : 0 ≤ Qk (if 0 ≤ m.1 k then Qk m.2 (m.1 k).toNat (-1) else m.2) i k x:=h0
 show (Qk (if 0 ≤ m.1 k then Qk m.2 (m.1 k).toNat (-1) else m.2) i k x).toNat < ni
 by_cases e : x = i
 ·subst e;rw [Z4];simpa using hk
 ·rw [Zl _ _ e] at h0 ⊢;by_cases c : 0 ≤ m.1 k
  ·rw [if_pos c] at h0 ⊢;by_cases e2 : x = (m.1 k).toNat
   ·subst e2;rw [Z4] at h0;omega
   ·rw [Zl _ _ e2] at h0 ⊢;exact h.o x hx h0
  ·rw [if_neg c] at h0 ⊢;exact h.o x hx h0
theorem Qih {m m' : Mt} {fx : Bl} (hadj : ∀ o,∀ k ∈ adj o,k < ni) (h : Rg no ni m) {i k : Nat} (hi : i < no) (hk : k < ni) (e : Y9 adj ni no fx m i k = some m') : Rg no ni m':=by
 unfold Y9 at e
 split at e
 ·injection e with e;subst e;exact Qab h hi hk
 ·obtain ⟨j,h1,_,h3⟩:=Sa e;exact Gz hadj ni _ _ j m' (Qab h hi hk) (by omega) h3
end
def Am (adj : Nat → List Nat) (ni no n i : Nat) (m : Mt) (fx : Bl) : Option (Nat × Mt × Bl) → List (Nat × Nat)
 | some (k,m',fx') => (i,k) :: Js adj ni no n (i + 1) m' fx'
 | none => Js adj ni no n (i + 1) m fx
theorem Pu (adj : Nat → List Nat) (ni no n i : Nat) (m : Mt) (fx : Bl) : Js adj ni no (n + 1) i m fx = Am adj ni no n i m fx (Yv adj ni no i (adj i) m fx):=by
 conv => lhs;unfold Js
 cases Yv adj ni no i (adj i) m fx with
 | none => rfl
 | some p => rfl
theorem Bn : (Tryz.prog.info? 35).map (fun i => (i.zero,i.size,i.bytes)) = some (some (.agg #[.int .i64 0,.int .i64 0,.int .i64 0,.int .i64 0]),4,32):=by kernel_rfl
def X9 (ro ri : Nat → Rf) (p : Nat × Nat) : List Value:=[.int .i64 (ro p.1).1,.int .i64 (ro p.1).2,.int .i64 (ri p.2).1,.int .i64 (ri p.2).2]
theorem G7 (a b c d : Int) : ∀ u ∈ [Value.int .i64 a,.int .i64 b,.int .i64 c,.int .i64 d],u.oneCell' = true:=by simp [Value.oneCell']
theorem Ta {W W' : World} {base n : Nat} {v : Value} {xs : List Value} (h : W.ownsRow base 35 4 v n xs) (f : FT W W') : W'.ownsRow base 35 4 v n xs:=by
 refine ⟨h.1,?_⟩;rcases h.2 with hn | ⟨g,cap,cur,hv,hb,hg,rest⟩
 ·exact .inl hn
 ·exact .inr ⟨g,cap,cur,hv,hb,f g 35 cur hg (by unfold MT;decide),rest⟩
theorem MS.grown {W0 W W' : World} {bm bs : Nat} {vo vi vy : Value} {O I X : Option Addr} {no ni cO cI cX : Nat} {bo bi bf : Nat} {m : Mt} {fx : Bl} {v : Value} {n : Nat} {xs : List Value} (h : MS W0 W bm bs vo vi vy O I X no ni cO cI cX bo bi bf m fx) (ho : W.ownsRow W0.heap.size 35 4 v n xs) (hg : W.grownBy W' v.ownBlock) : MS W0 W' bm bs vo vi vy O I X no ni cO cI cX bo bi bf m fx :=
 ⟨h.e.grown hg (fun q hq => (W4 ho q hq).1),⟨h.km.p.kept hg (h.km.p.not_row (by decide) ho),h.km.s.kept hg (h.km.s.not_row (by decide) ho)⟩,
  h.o.kept hg (fun hn => by obtain ⟨cs,h1,_⟩:=h.o.h hn;exact h1.not_row (by decide) ho),
  h.i.kept hg (fun hn => by obtain ⟨cs,h1,_⟩:=h.i.h hn;exact h1.not_row (by decide) ho),
  h.f.kept hg (fun hn => by obtain ⟨cs,h1,_⟩:=h.f.h hn;exact h1.not_row (by decide) ho),h.oi,h.lo,h.li,h.lf⟩
set_option maxHeartbeats 40000000 in
theorem Qck {adj : Nat → List Nat} (W0 : World) (bm bs : Nat) (Vo Vi : Option Addr) (co ci : Nat) (vy : Value) (O I X : Option Addr) (no ni cO cI cX bo bi bf : Nat) (m : Mt) (ro ri : Nat → Rf) (hadj : ∀ o,∀ k ∈ adj o,k < ni) (hY : Lf W0 vy no adj) (hVo : Qp W0 Vo no 2 (fun i => [.int .i64 ((ro i).1 : Nat),.int .i64 ((ro i).2 : Nat)])) (hVi : Qp W0 Vi ni 2 (fun i => [.int .i64 ((ri i).1 : Nat),.int .i64 ((ri i).2 : Nat)])) (hno : no ≤ 1000000) (hni : ni ≤ 1000000) (hls : W0.heap.size ≤ bs) (hG : Rg no ni m) (W : World) (hM : MS W0 W bm bs (.slice Vo no co) (.slice Vi ni ci) (vy) O I X no ni cO cI cX bo bi bf m (fun _ => false)) :
  Calls Tryz.prog 81 #[.pointer (some ⟨bs,0,none⟩)] W fun e W' => ∃ v,e = .returned v ∧ Qb W0 W' ∧ W'.ownsRow W0.heap.size 35 4 v (Js adj ni no no 0 m (fun _ => false)).length ((Js adj ni no no 0 m (fun _ => false)).flatMap (X9 ro ri)):=by
 obtain ⟨Y,cY,vs,rfl,hYr,hYi⟩:=id hY;obtain ⟨RES,hRES⟩:=Qg (Js adj ni no no 0 m (fun _ => false));rw [← hRES];replace hRES : Hid ([] ++ Js adj ni no (no - 0) 0 m (fun _ => false) = RES):=Lib.hid hRES.symm;obtain ⟨i0,hi0,hz0,hz1,hz2⟩:=info_parts Bn
 go_enter Tryz.func81,Tryz.ntmps81
 obtain ⟨s0,s1,s2,s3,s4,s5,s6⟩:=Q4 hM.km.s;have sl:=hM.km.s.lt;go_upto_region 3 with (fail)
 clear s0 s1 s2 s3 s4 s5 s6 sl
 go_loopw [3,12] (fun lv iv wr => ∃ (i : Nat) (Qt : List (Nat × Nat)) (m : Mt) (fx : Bl) (O I : Option Addr) (cO cI bo bi : Nat),i ≤ no ∧ Qt.length ≤ i ∧ iv = .int .i64 i ∧ MS W0 wr bm bs (.slice Vo no co) (.slice Vi ni ci) (.slice Y no cY) O I X no ni cO cI cX bo bi bf m fx ∧ wr.ownsRow W0.heap.size 35 4 lv Qt.length (Qt.flatMap (X9 ro ri)) ∧ Rg no ni m ∧ Hid (Qt ++ Js adj ni no (no - i) i m fx = RES)) (fun _ iv _ => no - (intOf iv).toNat)
 case atStart => exact ⟨0,[],m,_,_,_,_,_,_,_,Nat.zero_le _,Nat.le_refl _,rfl,hM,⟨rfl,.inl ⟨rfl,rfl⟩⟩,hG,hRES⟩
 case round =>
  clear hM hG hRES;obtain ⟨i,Qt,m,fx,O,I,cO,cI,bo,bi,hi,hpl,rfl,M,hO,hG,hR⟩:=hrel;obtain ⟨wo,rfl⟩:=Qg wr;by_cases hlt : i < no;rotate_left
  ·obtain rfl : i = no := by omega
   have e : Qt = RES:=by
    have h:=hR.out;rw [Nat.sub_self] at h;rw [← h];exact (List.append_nil _).symm
   subst e;clear hR;go_wp2;go_ret;exact ⟨_,rfl,M.e,hO⟩
  have hno0 : 0 < no:=by omega
  obtain ⟨F,mcap,rfl⟩:=Ya hO;obtain ⟨D,cD,hl6,hv,hDr⟩:=hYi i hlt;obtain ⟨b,off,hYe,hb,hcc⟩:=hYr hno0;subst hYe
  have c0 : W0.cell? ⟨b,off + i,none⟩ = some (.slice D (adj i).length cD):=by
   have:=hcc i 0 (vs i) hlt rfl;rw [hv] at this
   simpa using this
  clear hcc hv;obtain ⟨bv,ov,hVe,hbv,hcv⟩:=hVo hno0;subst hVe;have cv0 : W0.cell? ⟨bv,ov + i * 2,none⟩ = some (.int .i64 ((ro i).1 : Nat)):=by simpa using hcv i 0 _ hlt rfl
  have cv1 : W0.cell? ⟨bv,ov + i * 2 + 1,none⟩ = some (.int .i64 ((ro i).2 : Nat)):=by simpa using hcv i 1 _ hlt rfl
  clear hcv;obtain ⟨la,hla⟩:=Qg ((adj i).length);rw [← hla] at c0 hDr hl6;obtain ⟨RK,hRK⟩:=Qg (Yv adj ni no i (adj i) m fx)
  have hR1 : Qt ++ Am adj ni no (no - (i + 1)) i m fx RK = RES:=by
   have h:=hR.out;rw [show no - i = (no - (i + 1)) + 1 by omega,Pu] at h;rw [hRK];exact h
  replace hla:=Lib.hid hla;replace hRK : Hid (Yv adj ni no i ((adj i).drop 0) m fx = RK):=Lib.hid hRK.symm;replace hR:=Lib.hid hR1;clear hR1;have c0o:=(M.e.cell (p:=⟨b,off + i,none⟩) hb).trans c0;have hbo:=Nat.lt_of_lt_of_le hb M.e.size;obtain ⟨s0,s1,s2,s3,s4,s5,s6⟩:=Q4 M.km.s;have sl:=M.km.s.lt;go_upto_region 6 with (fail)
  clear c0o hbo c0 s0 s1 s2 s3 s4 s5 s6 sl
  go_loopw [3,23] (fun lv tv wr => ∃ (t : Nat) (O I : Option Addr) (cO cI bo bi : Nat),lv = .slice F Qt.length mcap ∧ t ≤ la ∧ tv = .int .i64 t ∧ MS W0 wr bm bs (.slice (some ⟨bv,ov,none⟩) no co) (.slice Vi ni ci) (.slice (some ⟨b,off,none⟩) no cY) O I X no ni cO cI cX bo bi bf m fx ∧ wr.ownsRow W0.heap.size 35 4 (.slice F Qt.length mcap) Qt.length (Qt.flatMap (X9 ro ri)) ∧ Hid (Yv adj ni no i ((adj i).drop t) m fx = RK)) (fun _ tv _ => la - (intOf tv).toNat)
  case atStart => exact ⟨0,_,_,_,_,_,_,rfl,Nat.zero_le _,rfl,M,hO,hRK⟩
  case round =>
   clear M hO hRK;obtain ⟨t,O,I,cO,cI,bo,bi,rfl,ht,rfl,M,hO,hRK⟩:=hrel;obtain ⟨w1,rfl⟩:=Qg wr;by_cases hlt2 : t < la;rotate_left
   ·obtain rfl : t = la := by omega
    have e : RK = none:=by
     have h:=hRK.out;rw [hla.out,List.drop_length] at h;exact h.symm
    subst e;clear hRK;go_wp2;exact ⟨⟨i + 1,Qt,m,fx,_,_,_,_,_,_,by omega,by omega,by go_num,M,hO,hG,hR⟩,by simp [intOf];omega⟩
   obtain ⟨bd,od,rfl,hbd,hcd⟩:=(hDr.ext M.e) (by omega);obtain ⟨k,hk⟩:=Qg ((adj i).getD t 0)
   have d0 : w1.cell? ⟨bd,od + t,none⟩ = some (.int .i64 (k : Int)):=by
    have:=hcd t 0 (.int .i64 (((adj i).getD t 0 : Nat) : Int)) hlt2 rfl;rw [← hk] at this
    simpa using this
   clear hcd;have hkn : k < ni:=hadj i k (by rw [hk];exact Xy (by rw [← hla.out];exact hlt2));have hdr:=Dm (l:=adj i) (t:=t) (by rw [← hla.out];exact hlt2);rw [← hk] at hdr;clear hk;have hni0 : 0 < ni:=by omega
   obtain ⟨bu,ou,hUe,hbu,hcu⟩:=hVi hni0;have cu0 : W0.cell? ⟨bu,ou + k * 2,none⟩ = some (.int .i64 ((ri k).1 : Nat)):=by simpa using hcu k 0 _ hkn rfl
   have cu1 : W0.cell? ⟨bu,ou + k * 2 + 1,none⟩ = some (.int .i64 ((ri k).2 : Nat)):=by simpa using hcu k 1 _ hkn rfl
   clear hcu;subst hUe;have hXe:=M.f.a hni0;have hIe:=M.i.a hni0;have hOe:=M.o.a hno0;subst hXe;subst hIe;subst hOe;have x0:=M.f.cell hkn;have xl:=M.f.lt hni0;have o0:=M.o.cell hlt;have ol:=M.o.lt hno0;replace hRK:=hRK.out;rw [hdr] at hRK;unfold Yv at hRK;clear hdr;obtain ⟨s0,s1,s2,s3,s4,s5,s6⟩:=Q4 M.km.s;have sl:=M.km.s.lt;cases hf : fx k
   rotate_left
   ·rw [hf] at x0 hRK;replace hRK:=Lib.hid hRK;go_wp2;exact ⟨⟨t + 1,_,_,_,_,_,_,rfl,by omega,by go_num,M,hO,hRK⟩,by simp [intOf];omega⟩
   rw [hf] at x0 hRK;replace hRK : (if m.2 i = (k : Int) then some (k,m,Qk fx k true) else match Y9 adj ni no fx m i k with | some m' => some (k,m',Qk fx k true) | none => Yv adj ni no i ((adj i).drop (t + 1)) m fx) = RK:=hRK;by_cases ge : m.2 i = (k : Int)
   ·have ge1 : (m.2 i == (k : Int)) = true:=beq_iff_eq.2 ge;rw [if_pos ge] at hRK;replace hRK : RK = some (k,m,Qk fx k true):=hRK.symm;subst hRK;replace hR : Hid (Qt ++ (i,k) :: Js adj ni no (no - (i + 1)) (i + 1) m (Qk fx k true) = RES):=hR;clear ge;have fz:=M.f.frozen hni0 k;go_upto_region 12 with (fail)
    have hF:=(FT.refl w1).setA M.f hni0 Kc k (.bool true);have HC:=M.setF hkn true;replace hO:=Ta hO hF;clear fz x0 xl o0 ol d0 hbd M hF;generalize World.setCell _ _ _ = wq at *;clear s0 s1 s2 s3 s4 s5 s6 sl;refine Zb 19 [18] (fun x => MS W0 x bm bs (.slice (some ⟨bv,ov,none⟩) no co) (.slice (some ⟨bu,ou,none⟩) ni ci) (.slice (some ⟨b,off,none⟩) no cY) (some ⟨bo,0,none⟩) (some ⟨bi,0,none⟩) (some ⟨bf,0,none⟩) no ni cO cI cX bo bi bf m (Qk fx k true)) Qo rfl ?_;intro vz hvz;replace HC:=HC.ext hvz;replace hO:=Jo hO hvz;refine Qs (g:=3) [0,1,2,3,4,5,6,7,8,9,10,11,12,13,14,15] [_,_,_,_,_,_,_,_,_,_,_,_,_,_,_,_] ⟨rfl,rfl,rfl,rfl,rfl,rfl,rfl,rfl,rfl,rfl,rfl,rfl,rfl,rfl,rfl,rfl,trivial⟩ (by kernel_rfl) (by kernel_rfl) HC ?_
    simp only [Qc,Qd,Qe];apply Exists.intro;refine ⟨fun u hu => ?_,?_⟩
    ·obtain ⟨s0,s1,s2,s3,s4,s5,s6⟩:=Q4 hu.km.s;have sl:=hu.km.s.lt;have y0:=(hu.e.cell (p:=⟨bv,ov + i * 2,none⟩) hbv).trans cv0;have y1:=(hu.e.cell (p:=⟨bv,ov + i * 2 + 1,none⟩) hbv).trans cv1;have z0:=(hu.e.cell (p:=⟨bu,ou + k * 2,none⟩) hbu).trans cu0;have z1:=(hu.e.cell (p:=⟨bu,ou + k * 2 + 1,none⟩) hbu).trans cu1;have yl:=Nat.lt_of_lt_of_le hbv hu.e.size;have zl:=Nat.lt_of_lt_of_le hbu hu.e.size;repeat (first | go_big_quiet_skip | (go_big_quiet_want;go_big_quiet_op;go_big_quiet_on))
     refine wpQuiet_nil ?_;rfl
    refine Ql 16 rfl (by kernel_rfl) ?_;simp only [Qc,Qd,Qe];go_wp2;obtain ⟨bq,wb,hbq,hwb,Q6,_,hx,hge⟩:=Qn HC.e 35 #[.int .i64 (ro i).1,.int .i64 (ro i).2,.int .i64 (ri k).1,.int .i64 (ri k).2];rw [← hbq,← hwb];clear hbq hwb;replace HC:=HC.ext hx;replace hO:=Jo hO hx;clear hx;refine Qh HC ?_;refine Ql 17 rfl (by kernel_rfl) ?_;simp only [Qc,Qd,Qe];go_wp2_with (at_builtin;refine wpList_append_own_at _ rfl _ _ 28 rfl W0.heap.size 35 i0 (.agg #[.int .i64 0,.int .i64 0,.int .i64 0,.int .i64 0]) 4 32 Tryz.underlying28 hi0 hz0 hz1 hz2 rfl (by decide) _ _ _ rfl hO ⟨bq,0,none⟩ 1 1 [.int .i64 (ro i).1,.int .i64 (ro i).2,.int .i64 (ri k).1,.int .i64 (ri k).2] rfl rfl (Uc Q6) (G7 _ _ _ _) (by unfold maxLen;omega) (by omega) HC.e.size ?_;intro vn wn hown hgrow _ _)
    replace HC:=HC.grown hO hgrow;clear hgrow Q6;refine Qh HC ?_;refine Qr 18 rfl (by kernel_rfl) ?_;simp only [Qc,Qd,Qe];go_wp2;refine Qq ?_;refine Qv (by kernel_rfl) ?_
    have hR2 : Hid ((Qt ++ [(i,k)]) ++ Js adj ni no (no - (i + 1)) (i + 1) m (Qk fx k true) = RES):=by
     have h:=hR.out;rw [List.append_assoc];exact h
    have hown2 : wn.ownsRow W0.heap.size 35 4 vn (Qt ++ [(i,k)]).length ((Qt ++ [(i,k)]).flatMap (X9 ro ri)):=by
     rw [List.length_append,List.flatMap_append];exact hown
    clear hown hO hR;go_wp2;exact ⟨⟨i + 1,Qt ++ [(i,k)],_,_,_,_,_,_,_,_,by omega,by rw [List.length_append];show Qt.length + 1 ≤ i + 1;omega,by go_num,HC,hown2,hG,hR2⟩,by simp [intOf];omega⟩
   have ge1 : (m.2 i == (k : Int)) = false:=beq_eq_false_iff_ne.2 ge;rw [if_neg ge] at hRK;clear ge;have NS:=Qif W0 bm bs (some ⟨bv,ov,none⟩) (some ⟨bu,ou,none⟩) co ci (.slice (some ⟨b,off,none⟩) no cY) (some ⟨bo,0,none⟩) (some ⟨bi,0,none⟩) (some ⟨bf,0,none⟩) no ni cO cI cX bo bi bf m fx i k hadj hY hlt hkn hno hni hls hf hG.i hG.o w1 M;go_upto_region 11 with (fail)
   cases es : Y9 adj ni no fx m i k with
   | none =>
    rw [es] at NS hRK;replace hRK : Hid (Yv adj ni no i ((adj i).drop (t + 1)) m fx = RK):=hRK;simp only [Option.isSome,Option.getD] at NS;go_upto_region 13 with (go_at_call 128;(with_reducible refine Calls.mono NS ?_);rintro e w3 ⟨rfl,hF,O,I,cO,cI,bo,bi,HC⟩)
    replace HC : MS W0 w3 bm bs (.slice (some ⟨bv,ov,none⟩) no co) (.slice (some ⟨bu,ou,none⟩) ni ci) (.slice (some ⟨b,off,none⟩) no cY) O I (some ⟨bf,0,none⟩) no ni cO cI cX bo bi bf m fx:=HC;replace hO:=Ta hO hF;clear NS hF x0 xl o0 ol d0 hbd M es;go_wp2
    exact ⟨⟨t + 1,_,_,_,_,_,_,rfl,by omega,by go_num,HC,hO,hRK⟩,by simp [intOf];omega⟩
   | some m' =>
    rw [es] at NS hRK;replace hRK : RK = some (k,m',Qk fx k true):=hRK.symm;subst hRK;replace hR : Hid (Qt ++ (i,k) :: Js adj ni no (no - (i + 1)) (i + 1) m' (Qk fx k true) = RES):=hR;have hG2:=Qih hadj hG hlt hkn es;simp only [Option.isSome,Option.getD] at NS;go_upto_region 12 with (go_at_call 128;(with_reducible refine Calls.mono NS ?_);rintro e w3 ⟨rfl,hF,O,I,cO,cI,bo,bi,HC⟩)
    replace HC : MS W0 w3 bm bs (.slice (some ⟨bv,ov,none⟩) no co) (.slice (some ⟨bu,ou,none⟩) ni ci) (.slice (some ⟨b,off,none⟩) no cY) O I (some ⟨bf,0,none⟩) no ni cO cI cX bo bi bf m' (Qk fx k true):=HC;replace hO:=Ta hO hF;clear NS hF x0 xl o0 ol d0 hbd M es;have hOe:=HC.o.a hno0;have hIe:=HC.i.a hni0;subst hOe;subst hIe;clear s0 s1 s2 s3 s4 s5 s6 sl;refine Zb 19 [18] (fun x => MS W0 x bm bs (.slice (some ⟨bv,ov,none⟩) no co) (.slice (some ⟨bu,ou,none⟩) ni ci) (.slice (some ⟨b,off,none⟩) no cY) (some ⟨bo,0,none⟩) (some ⟨bi,0,none⟩) (some ⟨bf,0,none⟩) no ni cO cI cX bo bi bf m' (Qk fx k true)) Qo rfl ?_;intro vz hvz;replace HC:=HC.ext hvz;replace hO:=Jo hO hvz
    refine Qs (g:=3) [0,1,2,3,4,5,6,7,8,9,10,11,12,13,14,15] [_,_,_,_,_,_,_,_,_,_,_,_,_,_,_,_] ⟨rfl,rfl,rfl,rfl,rfl,rfl,rfl,rfl,rfl,rfl,rfl,rfl,rfl,rfl,rfl,rfl,trivial⟩ (by kernel_rfl) (by kernel_rfl) HC ?_;simp only [Qc,Qd,Qe];apply Exists.intro;refine ⟨fun u hu => ?_,?_⟩
    ·obtain ⟨s0,s1,s2,s3,s4,s5,s6⟩:=Q4 hu.km.s;have sl:=hu.km.s.lt;have y0:=(hu.e.cell (p:=⟨bv,ov + i * 2,none⟩) hbv).trans cv0;have y1:=(hu.e.cell (p:=⟨bv,ov + i * 2 + 1,none⟩) hbv).trans cv1;have z0:=(hu.e.cell (p:=⟨bu,ou + k * 2,none⟩) hbu).trans cu0;have z1:=(hu.e.cell (p:=⟨bu,ou + k * 2 + 1,none⟩) hbu).trans cu1;have yl:=Nat.lt_of_lt_of_le hbv hu.e.size;have zl:=Nat.lt_of_lt_of_le hbu hu.e.size;repeat (first | go_big_quiet_skip | (go_big_quiet_want;go_big_quiet_op;go_big_quiet_on))
     refine wpQuiet_nil ?_;rfl
    refine Ql 16 rfl (by kernel_rfl) ?_;simp only [Qc,Qd,Qe];go_wp2;obtain ⟨bq,wb,hbq,hwb,Q6,_,hx,hge⟩:=Qn HC.e 35 #[.int .i64 (ro i).1,.int .i64 (ro i).2,.int .i64 (ri k).1,.int .i64 (ri k).2];rw [← hbq,← hwb];clear hbq hwb;replace HC:=HC.ext hx;replace hO:=Jo hO hx;clear hx;refine Qh HC ?_;refine Ql 17 rfl (by kernel_rfl) ?_;simp only [Qc,Qd,Qe];go_wp2_with (at_builtin;refine wpList_append_own_at _ rfl _ _ 28 rfl W0.heap.size 35 i0 (.agg #[.int .i64 0,.int .i64 0,.int .i64 0,.int .i64 0]) 4 32 Tryz.underlying28 hi0 hz0 hz1 hz2 rfl (by decide) _ _ _ rfl hO ⟨bq,0,none⟩ 1 1 [.int .i64 (ro i).1,.int .i64 (ro i).2,.int .i64 (ri k).1,.int .i64 (ri k).2] rfl rfl (Uc Q6) (G7 _ _ _ _) (by unfold maxLen;omega) (by omega) HC.e.size ?_;intro vn wn hown hgrow _ _)
    replace HC:=HC.grown hO hgrow;clear hgrow Q6;refine Qh HC ?_;refine Qr 18 rfl (by kernel_rfl) ?_;simp only [Qc,Qd,Qe];go_wp2;refine Qq ?_;refine Qv (by kernel_rfl) ?_
    have hR2 : Hid ((Qt ++ [(i,k)]) ++ Js adj ni no (no - (i + 1)) (i + 1) m' (Qk fx k true) = RES):=by
     have h:=hR.out;rw [List.append_assoc];exact h
    have hown2 : wn.ownsRow W0.heap.size 35 4 vn (Qt ++ [(i,k)]).length ((Qt ++ [(i,k)]).flatMap (X9 ro ri)):=by
     rw [List.length_append,List.flatMap_append];exact hown
    clear hown hO hR;go_wp2;exact ⟨⟨i + 1,Qt ++ [(i,k)],_,_,_,_,_,_,_,_,by omega,by rw [List.length_append];show Qt.length + 1 ≤ i + 1;omega,by go_num,HC,hown2,hG2,hR2⟩,by simp [intOf];omega⟩
def Y7 (r : Rf) : List Value:=[.int .i64 r.1,.int .i64 r.2]
theorem Bp : (Tryz.prog.info? 33).map (fun i => (i.zero,i.size,i.bytes)) = some (some (.agg #[.int .i64 0,.int .i64 0]),2,16):=by kernel_rfl
theorem G8 (a b : Int) : ∀ u ∈ [Value.int .i64 a,.int .i64 b],u.oneCell' = true:=by simp [Value.oneCell']
/-- Two rows of references that lie apart, in blocks made since wE. -/
structure Xa (wE wr : World) (Lo Li : List Rf) (x y : Value) : Prop where
 e : Qb wE wr
 a : wr.ownsRow wE.heap.size 33 2 x Lo.length (Lo.flatMap Y7)
 b : wr.ownsRow wE.heap.size 33 2 y Li.length (Li.flatMap Y7)
 ne : ∀ q,x.ownBlock = some q → y.ownBlock ≠ some q
namespace Xa
variable {wE wr w1 : World} {Lo Li : List Rf} {x y x' y' : Value}
theorem zero (w : World) : Xa w w [] [] (.slice none 0 0) (.slice none 0 0):=⟨Qb.refl _,⟨rfl,.inl ⟨rfl,rfl⟩⟩,⟨rfl,.inl ⟨rfl,rfl⟩⟩,fun q h => by cases h⟩
theorem ext (h : Xa wE wr Lo Li x y) (k : Qb wr w1) : Xa wE w1 Lo Li x y:=⟨h.e.trans k,Jo h.a k,Jo h.b k,h.ne⟩
theorem fst (h : Xa wE wr Lo Li x y) {r : Rf} (hown : w1.ownsRow wE.heap.size 33 2 x' (Lo.length + 1) (Lo.flatMap Y7 ++ Y7 r)) (hg : wr.grownBy w1 x.ownBlock)
  (hb : x'.ownBlock = x.ownBlock ∨ x'.ownBlock = some wr.heap.size) : Xa wE w1 (Lo ++ [r]) Li x' y:=by
 refine ⟨h.e.grown hg (fun q hq => (h.a.lt q hq).1),by rw [List.length_append,List.flatMap_append];simpa using hown,h.b.kept hg ?_,fun q hq => ?_⟩
 ·cases hx : x.ownBlock with
  | none => cases hy : y.ownBlock with
   | none => exact .inl rfl
   | some r => exact .inr (fun e => by cases e)
  | some q => exact .inr (h.ne q hx)
 ·rcases hb with hb | hb
  ·exact h.ne q (hb ▸ hq)
  ·intro hy;rw [hb] at hq;have:=(h.b.lt q hy).2;have e:=Option.some.inj hq;omega
theorem snd (h : Xa wE wr Lo Li x y) {r : Rf} (hown : w1.ownsRow wE.heap.size 33 2 y' (Li.length + 1) (Li.flatMap Y7 ++ Y7 r)) (hg : wr.grownBy w1 y.ownBlock)
  (hb : y'.ownBlock = y.ownBlock ∨ y'.ownBlock = some wr.heap.size) : Xa wE w1 Lo (Li ++ [r]) x y':=by
 refine ⟨h.e.grown hg (fun q hq => (h.b.lt q hq).1),h.a.kept hg ?_,by rw [List.length_append,List.flatMap_append];simpa using hown,fun q hq => ?_⟩
 ·cases hx : x.ownBlock with
  | none => exact .inl rfl
  | some q => exact .inr (fun e => h.ne q hx e.symm)
 ·rcases hb with hb | hb
  ·rw [hb];exact h.ne q hq
  ·rw [hb];intro e;have:=(h.a.lt q hq).2;have e:=Option.some.inj e;omega
end Xa
theorem Ih : ∀ (L : List Rf) (i j : Nat),i < L.length → j < 2 → (L.flatMap Y7)[i * 2 + j]? = (Y7 (L.getD i Q7))[j]?
 | r :: L,0,j,_,hj => by
  match j,hj with
  | 0,_ => simp [Y7]
  | 1,_ => simp [Y7]
 | r :: L,i + 1,j,h,hj => by
  have hl : (Y7 r).length = 2:=rfl;rw [List.flatMap_cons,List.getElem?_append_right (by omega),hl,show (i + 1) * 2 + j - 2 = i * 2 + j by omega,Ih L i j (by simpa using h) hj];rfl
theorem Vn {w : World} {base : Nat} {v : Value} {L : List Rf} (h : w.ownsRow base 33 2 v L.length (L.flatMap Y7)) : ∃ F c,v = .slice F L.length c ∧ Qp w F L.length 2 (fun i => [.int .i64 ((L.getD i Q7).1 : Nat),.int .i64 ((L.getD i Q7).2 : Nat)]):=by
 rcases h.2 with ⟨rfl,h0⟩ | ⟨q,cap,cur,rfl,hb,hq,hn,hm,_⟩
 ·exact ⟨none,0,by rw [h0],fun hp => by omega⟩
 ·refine ⟨_, _, rfl, fun _ => ⟨q, 0, rfl, (Array.getElem?_eq_some_iff.1 hq).1, fun i j v hi hv => ?_⟩⟩;have hj : j < 2 := (List.getElem?_eq_some_iff.1 hv).1;have hlt : i * 2 + j < L.length * 2 := by omega
  rw [Nat.zero_add,World.ownsRow.cellAt h (i * 2 + j) hlt,Ih L i j hi hj];exact hv
theorem Qet : (Tryz.prog.info? 125).map (fun i => (i.zero,i.size,i.bytes)) = some (some (.slice none 0 0),1,24):=by kernel_rfl
theorem Qfr (n : Nat) (hn : n ≤ 1000000) (w : World) : (Instr.makeSlice 164 (.int .i64 (n : Int)) (.int .i64 (n : Int))).run Tryz.prog w = .ok (.slice (some ⟨w.heap.size,0,none⟩) n n) (w.alloc (.cells (Array.replicate n (.slice none 0 0)) 125)):=by
 obtain ⟨i0,hi,hz0,hz1,hz2⟩:=info_parts Qet;have h:=Tm (P:=Tryz.prog) 164 125 i0 _ Tryz.underlying164 hi hz0 .i64 .i64 n (by rw [hz2];omega) (by omega) w;rw [hz1] at h;rw [h];exact congrArg _ (Rs n w rfl)
theorem Ov {W : World} {b b' n s : Nat} {e : TypeId} {v : Value} {xs : List Value} (h : W.ownsRow b e s v n xs) (hb : b' ≤ b) : W.ownsRow b' e s v n xs:=by
 refine ⟨h.1,?_⟩;rcases h.2 with hn | ⟨g,cap,cur,hv,h1,rest⟩
 ·exact .inl hn
 ·exact .inr ⟨g,cap,cur,hv,Nat.le_trans hb h1,rest⟩
/-- Blocks but those of rows of rows stay as they are. -/
def FM (W W' : World) : Prop:=∀ b t (cs : Array Value),Qa W b t cs → t ≠ 125 → Qa W' b t cs
theorem FM.refl (W : World) : FM W W:=fun _ _ _ h _ => h
theorem FM.ext {W W1 W2 : World} (h : FM W W1) (x : Qb W1 W2) : FM W W2:=fun b t cs hb ht => (h b t cs hb ht).ext x
theorem FM.set {W W1 : World} {b : Nat} {cs : Array Value} (h : FM W W1) (hb : Qa W1 b 125 cs) (j : Nat) (u : Value) : FM W (W1.setCell ⟨b,j,none⟩ u):=fun b' t' cs' hb' ht' => X8 (h b' t' cs' hb' ht') (Yq (h b' t' cs' hb' ht') hb ht') j u
theorem FM.grown {W W1 W2 : World} {v : Value} {e : TypeId} {s n : Nat} {xs : List Value} (h : FM W W1) (ho : W1.ownsRow W.heap.size e s v n xs) (hg : W1.grownBy W2 v.ownBlock) : FM W W2:=fun b t cs hb ht => (h b t cs hb ht).kept hg (fun e => by have:=(W4 ho b e.symm).1;have:=hb.lt;omega)
theorem En {W W' : World} {base n s : Nat} {e : TypeId} {v : Value} {xs : List Value} (h : W.ownsRow base e s v n xs) (he : e ≠ 125) (f : FM W W') : W'.ownsRow base e s v n xs:=by
 refine ⟨h.1,?_⟩;rcases h.2 with hn | ⟨g,cap,cur,hv,hb,hg,rest⟩
 ·exact .inl hn
 ·exact .inr ⟨g,cap,cur,hv,hb,f g e cur hg he,rest⟩
theorem Xa.fm {wE wr w1 : World} {Lo Li : List Rf} {x y : Value} (h : Xa wE wr Lo Li x y) (f : FM wr w1) (e : Qb wE w1) : Xa wE w1 Lo Li x y:=⟨e,En h.a (by decide) f,En h.b (by decide) f,h.ne⟩
def Vy (W : World) (v : Value) (xs : List Nat) : Prop:=∃ D cd bD,v = .slice D xs.length cd ∧ Qw W 3 D xs.length bD (fun k => .int .i64 ((xs.getD k 0 : Nat) : Int))
theorem Vy.fm {W W' : World} {v : Value} {xs : List Nat} (h : Vy W v xs) (f : FM W W') : Vy W' v xs:=by
 obtain ⟨D,cd,bD,e,ha⟩:=h;refine ⟨D,cd,bD,e,ha.a,fun hn => ?_⟩;obtain ⟨cs,h1,h2⟩:=ha.h hn;exact ⟨cs,f _ _ _ h1 (by decide),h2⟩
theorem Ml (p : Pd) (b : Bool) (i : Nat) : ∀ n,(J7 p b i n).length ≤ n
 | 0 => Nat.le_refl _
 | n + 1 => by
  have:=Ml p b i n;unfold J7;rw [List.length_append]
  split <;> simp <;> omega
theorem U0 {l : List Pd} (b : Bool) {m : Nat} (hm : ∀ i,i < l.length → (l.getD i Qx).d.length ≤ m) : ∀ n,n ≤ l.length → (J6 l b n).length ≤ n * m
 | 0,_ => by simp [J6]
 | n + 1,hn => by
  have h1:=U0 b hm n (by omega);have h2:=Ml (l.getD n Qx) b n (l.getD n Qx).d.length;have h3:=hm n (by omega);unfold J6;rw [List.length_append,Nat.succ_mul];omega
theorem Ti {p : Pd} {b : Bool} {i n : Nat} (h : (p.d.getD n Zi).i = b) : J7 p b i (n + 1) = J7 p b i n ++ [(i,n)]:=by
 conv => lhs;unfold J7
 rw [if_pos h]
theorem Th {p : Pd} {b : Bool} {i n : Nat} (h : (p.d.getD n Zi).i ≠ b) : J7 p b i (n + 1) = J7 p b i n:=by
 conv => lhs;unfold J7
 rw [if_neg h,List.append_nil]
theorem Qfm (A A' : Option Addr) (ca cb : Nat) (c : Qf) (l : List Pd) (vl : Value) (ba : Nat) (days : Int) (w : World) (hA : Vv w ba A A' ca cb c vl l) (hv : c.valid = true) (hb1 : l.length ≤ 1000) (hb2 : ∀ i,i < l.length → (l.getD i Qx).d.length ≤ 1000) :
  Calls Tryz.prog 35 #[.pointer (some ⟨ba,0,none⟩),.int .i64 days] w fun e w' => ∃ v,e = .returned v ∧ Qb w w' ∧ w'.ownsRow w.heap.size 35 4 v (c.matchI l days).length ((c.matchI l days).flatMap (X9 (fun o => (Q9 l false).getD o Q7) (fun k => (Q9 l true).getD k Q7))):=by
 obtain ⟨i0,hi0,hz0,hz1,hz2⟩:=info_parts Bp;obtain ⟨j0,hj0,hy3,hy4,hy5⟩:=info_parts Ly;obtain ⟨D,cap,vo,vd,vc,rfl,hD,hcap,hmax,_,hat⟩:=id hA.P;have hn : l.length ≤ 9223372036854775807:=by omega
 obtain ⟨g,hg⟩:=Qg (fun i => l.getD i Qx);have hg' : ∀ i,l.getD i Qx = g i:=fun i => by rw [hg]
 simp only [hg'] at hD hat;replace hg':=Lib.hid hg';clear hg hcap hmax
 go_enter Tryz.func35,Tryz.ntmps35
 obtain ⟨a0,a1,a2,a3⟩:=Qa.c4 hA.b;have al:=Qa.lt hA.b;go_upto_region 3 with (fail)
 clear a0 a1 a2 a3 al
 go_loopw [5,6,22] (fun ov iv jv wr => ∃ i : Nat,i ≤ l.length ∧ jv = .int .i64 i ∧ Xa w wr (J6 l false i) (J6 l true i) ov iv) (fun _ _ jv _ => l.length - (intOf jv).toNat)
 case atStart => exact ⟨0,Nat.zero_le _,rfl,Xa.zero w⟩
 case round =>
  obtain ⟨i,hi,rfl,T⟩:=hrel;obtain ⟨wo,rfl⟩:=Qg wr;by_cases hlt : i < l.length;rotate_left
  ·obtain rfl : i = l.length := by omega
   have hLo:=U0 false hb2 l.length (Nat.le_refl _);have hLi:=U0 true hb2 l.length (Nat.le_refl _);obtain ⟨Lo,hLoe⟩:=Qg (Q9 l false);obtain ⟨Li,hLie⟩:=Qg (Q9 l true);have q1 : J6 l false l.length = Lo:=by rw [hLoe];rfl
   have q2 : J6 l true l.length = Li:=by rw [hLie];rfl
   rw [q1] at T hLo;rw [q2] at T hLi;have hno : Lo.length ≤ 1000000:=by omega
   have hni : Li.length ≤ 1000000:=by omega
   replace hLoe:=Lib.hid hLoe;replace hLie:=Lib.hid hLie;clear q1 q2 hLo hLi hat hD;obtain ⟨Vo,co,rfl,_⟩:=Vn T.a;obtain ⟨Vi,ci,rfl,_⟩:=Vn T.b;have hmkr:=fun w => Qfr Lo.length hno w
   go_upto_region 16 with (fail)
   clear hmkr;obtain ⟨wy,hwy⟩:=Qg (wo.alloc (.cells (Array.replicate Lo.length (.slice none 0 0)) 125));rw [← hwy];have AY : Qw wy 125 (some ⟨wo.heap.size,0,none⟩) Lo.length wo.heap.size (fun _ => .slice none 0 0):=by rw [hwy];exact Gr wo _ _ _
   have x1 : Qb wo wy:=by rw [hwy];exact (Qb.refl wo).alloc _
   have T2:=T.ext x1;have hwb:=T.e.size;generalize wo.heap.size = bY at *;clear hwy T x1
   go_loopw [55] (fun jv wr => ∃ (i : Nat) (rv : Nat → Value),i ≤ Lo.length ∧ jv = .int .i64 i ∧ Xa w wr Lo Li (.slice Vo Lo.length co) (.slice Vi Li.length ci) ∧ Qw wr 125 (some ⟨bY,0,none⟩) Lo.length bY rv ∧ (∀ x,x < i → Vy wr (rv x) (c.adjA l days x)) ∧ ∀ x,i ≤ x → rv x = .slice none 0 0) (fun jv _ => Lo.length - (intOf jv).toNat)
   case atStart => exact ⟨0,_,Nat.zero_le _,rfl,T2,AY,fun x hx => absurd hx (by omega),fun _ _ => rfl⟩
   case round =>
    clear T2 AY;obtain ⟨i,rv,hi,rfl,T,AY,hrow,hnil⟩:=hrel;obtain ⟨wo,rfl⟩:=Qg wr;by_cases hlt : i < Lo.length;rotate_left
    ·obtain rfl : i = Lo.length := by omega
     obtain ⟨F,cF,e,RO⟩:=Vn T.a;injection e with e1 _ e3
     subst e1;subst e3;obtain ⟨F2,cF2,e',RI⟩:=Vn T.b;injection e' with e1 _ e3
     subst e1;subst e3;have hadj:=Su c l days;rw [← hLie.out] at hadj
     have hY : Lf wo (.slice (some ⟨bY,0,none⟩) Lo.length Lo.length) Lo.length (c.adjA l days):=⟨_,_,rv,rfl,Mx AY,fun x hx => by
      obtain ⟨D,cd,bD,e,ha⟩:=hrow x hx;refine ⟨D,cd,Nat.le_trans ?_ hni,e,Mx ha⟩;unfold Qf.adjA;rw [← hLie.out];exact Nat.le_trans (List.length_filter_le _ _) (by simp)⟩
     have N1:=fun Vo Vi co ci => Qgi Vo Vi Lo.length Li.length co ci _ wo hadj hY hno hni
     have hG:=Ra (no:=Lo.length) hadj (fun _ => false) Lo.length 0 Z8 (by omega) Qgj;have N2:=fun bm bs Vo Vi co ci O I X cO cI cX bo bi bf h1 h2 (h : wo.heap.size ≤ bs) W hM => Qck wo bm bs Vo Vi co ci _ O I X Lo.length Li.length cO cI cX bo bi bf _ (fun o => Lo.getD o Q7) (fun k => Li.getD k Q7) hadj hY h1 h2 hno hni h hG W hM
     have hE:=T.e
     have hch : Hid (c.matchI l days = Js (c.adjA l days) Li.length Lo.length Lo.length 0 (Zo (c.adjA l days) Li.length (fun _ => false) Lo.length 0 Z8).1 (fun _ => false)):=by
      unfold Hid Qf.matchI Vb;rw [← hLie.out,← hLoe.out]
     clear hadj hY hrow hnil AY T;go_wp2_with (first | (go_at_call 80;(with_reducible refine Calls.mono (N1 _ _ _ _) ?_);rintro e w5 ⟨bm,bs,O,I,X,cO,cI,cX,bo,bi,bf,rfl,hbs,hM⟩) | (go_at_call 81;(with_reducible refine Calls.mono (N2 _ _ _ _ _ _ _ _ _ _ _ _ _ _ _ RO RI hbs _ hM) ?_);rintro e w6 ⟨v,rfl,x6,hO⟩));go_ret;rw [hch.out,← hLoe.out,← hLie.out];exact ⟨_,rfl,hE.trans x6,Ov hO hE.size⟩
    obtain ⟨F,cF,e,RO⟩:=Vn T.a;injection e with e1 _ e3
    subst e1;subst e3;obtain ⟨bo,oo,rfl,hbo,hco⟩:=RO (by omega);obtain ⟨x,hx⟩:=Qg (Lo.getD i Q7)
    have c0 : wo.cell? ⟨bo,oo + i * 2,none⟩ = some (.int .i64 (x.1 : Nat)):=by
     have:=hco i 0 (.int .i64 ((Lo.getD i Q7).1 : Nat)) hlt rfl;rw [← hx] at this;exact this
    have c1 : wo.cell? ⟨bo,oo + i * 2 + 1,none⟩ = some (.int .i64 (x.2 : Nat)):=by
     have:=hco i 1 (.int .i64 ((Lo.getD i Q7).2 : Nat)) hlt rfl;rw [← hx] at this;exact this
    clear hco RO;replace hx:=Lib.hid hx;go_upto_region 19 with (fail)
    obtain ⟨wx,hwx⟩:=Qg (wo.alloc (.cells #[.int .i64 (x.1 : Nat),.int .i64 (x.2 : Nat)] 33));rw [← hwx];have x1 : Qb wo wx:=by rw [hwx];exact (Qb.refl wo).alloc _
    have BX : Qa wx wo.heap.size 33 #[.int .i64 (x.1 : Nat),.int .i64 (x.2 : Nat)]:=by rw [hwx];exact Qa.new _ _ _
    replace T:=T.ext x1;replace AY:=AY.ext x1;have hrow2 : ∀ y,y < i → Vy wx (rv y) (c.adjA l days y):=fun y hy => (hrow y hy).fm ((FM.refl _).ext x1)
    have hxm:=U3.1 (show x ∈ Q9 l false by rw [← hLoe.out,hx.out];exact Xy hlt);obtain ⟨hx1,hx2,_⟩:=hxm;generalize wo.heap.size = bx at *;clear hwx x1 c0 c1 hbo hrow;have hnii : rv i = .slice none 0 0:=hnil i (Nat.le_refl _)
    go_loopw [62] (fun kv wr => ∃ (k : Nat) (v : Value) (xs : List Nat),k ≤ Li.length ∧ kv = .int .i64 k ∧ Qb w wr ∧ FM wx wr ∧ wx.heap.size ≤ wr.heap.size ∧ Qw wr 125 (some ⟨bY,0,none⟩) Lo.length bY (fun y => if y = i then v else rv y) ∧ wr.ownsRow wx.heap.size 3 1 v xs.length (xs.map fun z : Nat => Value.int .i64 (z : Int)) ∧ Hid (xs = (List.range k).filter fun k => c.mayB l days x (Li.getD k Q7))) (fun kv _ => Li.length - (intOf kv).toNat)
    case atStart => exact ⟨0,.slice none 0 0,[],Nat.zero_le _,rfl,T.e,FM.refl _,Nat.le_refl _,AY.congr (fun y _ => by by_cases e : y = i <;> simp [e,hnii]),⟨rfl,.inl ⟨rfl,rfl⟩⟩,Lib.hid rfl⟩
    case round =>
     obtain ⟨k,v,xs,hk,rfl,E,M,hsz,A2,hO,hxs⟩:=hrel;obtain ⟨wo,rfl⟩:=Qg wr;have T2:=T.fm M E;by_cases hlk : k < Li.length;rotate_left
     ·obtain rfl : k = Li.length := by omega
      have hadj : xs = c.adjA l days i:=by
       rw [hxs.out];unfold Qf.adjA;rw [← hLoe.out,← hLie.out,hx.out]
      obtain ⟨A5,c5,b5,ev,_,_,AR⟩:=Mw (g:=fun k => .int .i64 ((xs.getD k 0 : Nat) : Int)) hO (fun k hk => by simp [hk]);have hri : Vy wo v (c.adjA l days i):=by rw [← hadj];exact ⟨A5,c5,b5,ev,AR⟩
      have hro : ∀ y,y < i + 1 → Vy wo ((fun y => if y = i then v else rv y) y) (c.adjA l days y):=fun y hy => by
       by_cases e : y = i
       ·subst e;simpa using hri
       ·simp only [if_neg e];exact (hrow2 y (by omega)).fm M
      have hni2 : ∀ y,i + 1 ≤ y → (fun y => if y = i then v else rv y) y = .slice none 0 0:=fun y hy => by
       have e : y ≠ i:=by omega
       simp only [if_neg e];exact hnil y (by omega)
      clear hri hadj AR T AY hrow2;go_wp2;exact ⟨⟨i + 1,_,by omega,by go_num,T2,A2,hro,hni2⟩,by simp [intOf];omega⟩
     obtain ⟨F,cF,e,RI⟩:=Vn T2.b;injection e with e1 _ e3
     subst e1;subst e3;obtain ⟨bi,oi,rfl,hbi,hci⟩:=RI (by omega);obtain ⟨y,hy⟩:=Qg (Li.getD k Q7)
     have c0 : wo.cell? ⟨bi,oi + k * 2,none⟩ = some (.int .i64 (y.1 : Nat)):=by
      have:=hci k 0 (.int .i64 ((Li.getD k Q7).1 : Nat)) hlk rfl;rw [← hy] at this;exact this
     have c1 : wo.cell? ⟨bi,oi + k * 2 + 1,none⟩ = some (.int .i64 (y.2 : Nat)):=by
      have:=hci k 1 (.int .i64 ((Li.getD k Q7).2 : Nat)) hlk rfl;rw [← hy] at this;exact this
     clear hci RI;have hym:=U3.1 (show y ∈ Q9 l true by rw [← hLie.out,hy];exact Xy hlk);obtain ⟨hy1,hy2,_⟩:=hym
     have hxs2 : ∀ q : Bool,c.mayB l days x y = q → (if q then xs ++ [k] else xs) = (List.range (k + 1)).filter fun k => c.mayB l days x (Li.getD k Q7):=fun q hq => by
      have e : c.mayB l days x (Li.getD k Q7) = q:=by rw [← hy];exact hq
      rw [List.range_succ,List.filter_append,← hxs.out];simp only [List.filter_cons,List.filter_nil,e];cases q <;> simp
     have hxl : xs.length ≤ k:=by rw [hxs.out];exact Nat.le_trans (List.length_filter_le _ _) (by simp)
     replace hy:=Lib.hid hy;go_upto_region 21 with (fail)
     obtain ⟨wz,hwz⟩:=Qg (wo.alloc (.cells #[.int .i64 (y.1 : Nat),.int .i64 (y.2 : Nat)] 33));rw [← hwz];have x1 : Qb wo wz:=by rw [hwz];exact (Qb.refl wo).alloc _
     have BY : Qa wz wo.heap.size 33 #[.int .i64 (y.1 : Nat),.int .i64 (y.2 : Nat)]:=by rw [hwz];exact Qa.new _ _ _
     have BX2:=(M _ _ _ BX (by decide)).ext x1;replace E:=E.trans x1;replace M:=M.ext x1;replace A2:=A2.ext x1;replace hO:=Jo hO x1;replace hsz:=Nat.le_trans hsz x1.size;have NM:=Qfk A A' ca cb c l _ ba days x y w wz E hA hv hx1 hx2 hy1 hy2;generalize wo.heap.size = by' at *
     clear hwz x1 c0 c1 hbi T2;obtain ⟨k0,k1⟩:=BX2.c2;have kl:=BX2.lt;obtain ⟨l0,l1⟩:=BY.c2;have ll:=BY.lt;cases hmb : c.mayB l days x y
     ·rw [hmb] at NM;have h2:=hxs2 false hmb;go_upto_region 23 with (go_at_call 79;(with_reducible refine Calls.mono NM ?_);rintro e w5 ⟨rfl,x5⟩)
      replace E:=E.trans x5;replace M:=M.ext x5;replace A2:=A2.ext x5;replace hO:=Jo hO x5;replace hsz:=Nat.le_trans hsz x5.size;go_wp2;exact ⟨⟨k + 1,v,xs,by omega,by go_num,E,M,hsz,A2,hO,Lib.hid h2⟩,by simp [intOf];omega⟩
     rw [hmb] at NM;have h2:=hxs2 true hmb;obtain ⟨Fv,mv,rfl⟩:=Ya hO;go_upto_region 22 with (go_at_call 79;(with_reducible refine Calls.mono NM ?_);rintro e w5 ⟨rfl,x5⟩)
     have hno0 : 0 < Lo.length:=by omega
     have x6:=x5.alloc (.cells #[.int .i64 (k : Int)] 3);have A5:=A2.ext x5
     have m0 : w5.cell? ⟨bY,i,none⟩ = some (.slice Fv xs.length mv):=by
      have:=A5.cell hlt
      simpa using this
     have ml:=A5.lt hno0;have O6:=Jo hO x6;have A6:=A2.ext x6;have M6:=M.ext x6;have E6:=E.trans x6;have s6:=Nat.le_trans hsz x6.size;clear NM k0 k1 kl l0 l1 ll BX2 BY E M A2 hO hsz hxs2;go_wp2_with (at_builtin;refine wpList_append_own_at _ rfl _ _ 125 rfl wx.heap.size 3 j0 (.int .i64 0) 1 8 Tryz.underlying125 hj0 hy3 hy4 hy5 rfl (by decide) _ _ _ rfl O6 ⟨w5.heap.size,0,none⟩ 1 1 [.int .i64 k] rfl rfl (Uc (Qa.new _ _ _)) (by simp [Value.oneCell']) (by unfold maxLen;omega) (by omega) s6 ?_;intro vn wn hown hgrow _ hob;obtain ⟨Fn,mn,rfl⟩:=Ya hown;have A7:=A6.kept hgrow (fun hn => by obtain ⟨cs,h1,_⟩:=A6.h hn;exact h1.not_row (by decide) O6);have fz:=A7.frozen hno0 i;have fc:=A7.cell hlt;have fl:=A7.lt hno0)
     have E7:=(E6.grown hgrow (fun q hq => Nat.le_trans T.e.size (W4 O6 q hq).1)).setCell (p:=⟨bY,i,none⟩) hwb (.slice Fn (xs.length + 1) mn);obtain ⟨cs7,H7,_⟩:=A7.h hno0;have M7:=(M6.grown O6 hgrow).set H7 i (.slice Fn (xs.length + 1) mn);have O7:=Z9 H7 (by decide) hown i (.slice Fn (xs.length + 1) mn);have A8:=(A7.set hlt (.slice Fn (xs.length + 1) mn)).congr (g':=fun y => if y = i then (.slice Fn (xs.length + 1) mn) else rv y) (fun y _ => by by_cases e : y = i <;> simp [e])
     have s7 : wx.heap.size ≤ (wn.setCell ⟨bY,i,none⟩ (.slice Fn (xs.length + 1) mn)).heap.size:=by
      have:=hgrow.size;have e : (wn.setCell ⟨bY,i,none⟩ (.slice Fn (xs.length + 1) mn)).heap.size = wn.heap.size:=by simp [World.setCell]
      omega
     refine ⟨⟨k + 1,.slice Fn (xs.length + 1) mn,xs ++ [k],by omega,by go_num,E7,M7,s7,A8,?_,Lib.hid h2⟩,by simp [intOf];omega⟩;rw [List.length_append,List.map_append];exact O7
  obtain ⟨b,off,rfl,hb,hc⟩:=(hD.ext T.e) (by omega);have c0 : wo.cell? ⟨b,off + i * 12,none⟩ = some (.string (g i).h):=by simpa [Qu] using hc i 0 _ hlt rfl
  have c1 : wo.cell? ⟨b,off + i * 12 + 1,none⟩ = some (.int .i64 (g i).a.y):=by simpa [Qu] using hc i 1 _ hlt rfl
  have c2 : wo.cell? ⟨b,off + i * 12 + 2,none⟩ = some (.int .i64 (g i).a.m):=by simpa [Qu] using hc i 2 _ hlt rfl
  have c3 : wo.cell? ⟨b,off + i * 12 + 3,none⟩ = some (.bool (g i).a.s):=by simpa [Qu] using hc i 3 _ hlt rfl
  have c4 : wo.cell? ⟨b,off + i * 12 + 4,none⟩ = some (.int .i64 (g i).a.d):=by simpa [Qu] using hc i 4 _ hlt rfl
  have c5 : wo.cell? ⟨b,off + i * 12 + 5,none⟩ = some (.int .i64 (g i).b.y):=by simpa [Qu] using hc i 5 _ hlt rfl
  have c6 : wo.cell? ⟨b,off + i * 12 + 6,none⟩ = some (.int .i64 (g i).b.m):=by simpa [Qu] using hc i 6 _ hlt rfl
  have c7 : wo.cell? ⟨b,off + i * 12 + 7,none⟩ = some (.bool (g i).b.s):=by simpa [Qu] using hc i 7 _ hlt rfl
  have c8 : wo.cell? ⟨b,off + i * 12 + 8,none⟩ = some (.int .i64 (g i).b.d):=by simpa [Qu] using hc i 8 _ hlt rfl
  have c9 : wo.cell? ⟨b,off + i * 12 + 9,none⟩ = some (vo i):=by simpa [Qu] using hc i 9 _ hlt rfl
  have c10 : wo.cell? ⟨b,off + i * 12 + 10,none⟩ = some (vd i):=by simpa [Qu] using hc i 10 _ hlt rfl
  have c11 : wo.cell? ⟨b,off + i * 12 + 11,none⟩ = some (vc i):=by simpa [Qu] using hc i 11 _ hlt rfl
  clear hc;have P1:=hat i hlt;obtain ⟨t1,s1,e1,_⟩:=id P1.o;obtain ⟨t3,s3,e3,_⟩:=id P1.c;obtain ⟨t2,s2,ws,e2,hT,hs2,hms2,_,hatT⟩:=id P1.d;rw [e1] at c9;rw [e2] at c10;rw [e3] at c11;have hbi:=hb2 i hlt;have hLo:=U0 false hb2 i hi;have hLi:=U0 true hb2 i hi;rw [hg'.out] at hbi;replace hatT:=Lib.hid hatT;clear e1 e2 e3 P1 hat hs2;have hbw:=hb
  have hst : ∀ b,J6 l b (i + 1) = J6 l b i ++ J7 (g i) b i (g i).d.length:=fun b => by
   conv => lhs;unfold J6
   rw [hg'.out]
  replace hst:=Lib.hid hst;obtain ⟨Lo,hLoe⟩:=Qg (J6 l false i);obtain ⟨Li,hLie⟩:=Qg (J6 l true i);rw [← hLoe] at T hLo;rw [← hLie] at T hLi;replace hLoe:=Lib.hid hLoe;replace hLie:=Lib.hid hLie;go_upto_region 6 with (fail)
  obtain ⟨wp,hwp⟩:=Qg (wo.alloc (.cells #[.string (g i).h,.int .i64 (g i).a.y,.int .i64 (g i).a.m,.bool (g i).a.s,.int .i64 (g i).a.d,.int .i64 (g i).b.y,.int .i64 (g i).b.m,.bool (g i).b.s,.int .i64 (g i).b.d,.slice t1 (g i).o.length s1,.slice t2 (g i).d.length s2,.slice t3 (g i).c.length s3] 55));rw [← hwp];have x1 : Qb wo wp:=by rw [hwp];exact (Qb.refl wo).alloc _
  replace T:=T.ext x1;clear hwp x1 c0 c1 c2 c3 c4 c5 c6 c7 c8 c9 c10 c11 hb hbw
  go_loopw [5,6,30] (fun ov iv jv wr => ∃ k : Nat,k ≤ (g i).d.length ∧ jv = .int .i64 k ∧ Xa w wr (Lo ++ J7 (g i) false i k) (Li ++ J7 (g i) true i k) ov iv) (fun _ _ jv _ => (g i).d.length - (intOf jv).toNat)
  case atStart => exact ⟨0,Nat.zero_le _,rfl,by simpa [J7] using T⟩
  case round =>
   clear T;obtain ⟨k,hk,rfl,T⟩:=hrel;obtain ⟨wo,rfl⟩:=Qg wr;by_cases hlk : k < (g i).d.length;rotate_left
   ·obtain rfl : k = (g i).d.length := by omega
    rw [hLoe.out,hLie.out,← hst.out,← hst.out] at T;go_wp2;exact ⟨⟨i + 1,by omega,by go_num,T⟩,by simp [intOf];omega⟩
   obtain ⟨b',off',rfl,hb',hc'⟩:=(hT.ext T.e) (by omega);have d0 : wo.cell? ⟨b',off' + k * 7,none⟩ = some (.int .i64 ((g i).d.getD k Zi).on.y):=by simpa [Qz] using hc' k 0 _ hlk rfl
   have d1 : wo.cell? ⟨b',off' + k * 7 + 1,none⟩ = some (.int .i64 ((g i).d.getD k Zi).on.m):=by simpa [Qz] using hc' k 1 _ hlk rfl
   have d2 : wo.cell? ⟨b',off' + k * 7 + 2,none⟩ = some (.bool ((g i).d.getD k Zi).on.s):=by simpa [Qz] using hc' k 2 _ hlk rfl
   have d3 : wo.cell? ⟨b',off' + k * 7 + 3,none⟩ = some (.int .i64 ((g i).d.getD k Zi).on.d):=by simpa [Qz] using hc' k 3 _ hlk rfl
   have d4 : wo.cell? ⟨b',off' + k * 7 + 4,none⟩ = some (.bool ((g i).d.getD k Zi).i):=by simpa [Qz] using hc' k 4 _ hlk rfl
   have d5 : wo.cell? ⟨b',off' + k * 7 + 5,none⟩ = some (.string ((g i).d.getD k Zi).w):=by simpa [Qz] using hc' k 5 _ hlk rfl
   have c6:=hc' k 6 (ws k) hlk rfl;clear hc';obtain ⟨F7,m7,e7,_⟩:=id (hatT.out k hlk);obtain ⟨G,hG⟩:=Qg ((g i).d.getD k Zi);rw [← hG] at d0 d1 d2 d3 d4 d5 e7
   replace c6 : wo.cell? ⟨b',off' + k * 7 + 6,none⟩ = some (.slice F7 G.l.length m7):=by
    have:=c6;rw [e7] at this;exact this
   clear e7;have hlp1:=Ml (g i) false i k;have hlp2:=Ml (g i) true i k;cases hgi : G.i
   ·rw [hgi] at d4;have y1:=Ti (p:=g i) (b:=false) (i:=i) (n:=k) (by rw [← hG];exact hgi);have y2:=Th (p:=g i) (b:=true) (i:=i) (n:=k) (by rw [← hG,hgi];decide);replace y1:=Lib.hid y1;replace y2:=Lib.hid y2;clear hG hgi;go_upto_region 11 with (fail)
    obtain ⟨wx,hwx⟩:=Qg ((wo.alloc (.cells #[.int .i64 G.on.y,.int .i64 G.on.m,.bool G.on.s,.int .i64 G.on.d,.bool false,.string G.w,.slice F7 G.l.length m7] 57)).alloc (.cells #[.int .i64 i,.int .i64 k] 33));rw [← hwx];have x2 : Qb wo wx:=by rw [hwx];exact ((Qb.refl wo).alloc _).alloc _
    have k1 : Qa wx (wo.heap.size + 1) 33 #[.int .i64 i,.int .i64 k]:=by
     rw [hwx];have h:=Qa.new (wo.alloc (.cells #[.int .i64 G.on.y,.int .i64 G.on.m,.bool G.on.s,.int .i64 G.on.d,.bool false,.string G.w,.slice F7 G.l.length m7] 57)) 33 #[.int .i64 (i : Int),.int .i64 (k : Int)]
     simpa using h
    have T2:=T.ext x2;have T3:=T2.ext ((Qb.refl wx).alloc (.cells #[.int .i64 i,.int .i64 k] 33));clear hwx x2 d0 d1 d2 d3 d4 d5 c6 hb' T;obtain ⟨q0,q1⟩:=k1.c2;have ql:=k1.lt;go_wp2_with (at_builtin;refine wpList_append_own_at _ rfl _ _ 163 rfl w.heap.size 33 i0 (.agg #[.int .i64 0,.int .i64 0]) 2 16 Tryz.underlying163 hi0 hz0 hz1 hz2 rfl (by decide) _ _ _ rfl T3.a ⟨wx.heap.size,0,none⟩ 1 1 [.int .i64 i,.int .i64 k] rfl rfl (Uc (Qa.new _ _ _)) (G8 _ _) (by rw [List.length_append];unfold maxLen;omega) (by rw [List.length_append];omega) T3.e.size ?_;intro vn wn hown hgrow _ hob);have T4:=T3.fst (r:=(i,k)) hown hgrow hob;rw [List.append_assoc,← y1.out,← y2.out] at T4
    exact ⟨⟨k + 1,by omega,by go_num,T4⟩,by simp [intOf];omega⟩
   ·rw [hgi] at d4;have y1:=Ti (p:=g i) (b:=true) (i:=i) (n:=k) (by rw [← hG];exact hgi);have y2:=Th (p:=g i) (b:=false) (i:=i) (n:=k) (by rw [← hG,hgi];decide);replace y1:=Lib.hid y1;replace y2:=Lib.hid y2;clear hG hgi;go_upto_region 10 with (fail)
    obtain ⟨wx,hwx⟩:=Qg ((wo.alloc (.cells #[.int .i64 G.on.y,.int .i64 G.on.m,.bool G.on.s,.int .i64 G.on.d,.bool true,.string G.w,.slice F7 G.l.length m7] 57)).alloc (.cells #[.int .i64 i,.int .i64 k] 33));rw [← hwx];have x2 : Qb wo wx:=by rw [hwx];exact ((Qb.refl wo).alloc _).alloc _
    have k1 : Qa wx (wo.heap.size + 1) 33 #[.int .i64 i,.int .i64 k]:=by
     rw [hwx];have h:=Qa.new (wo.alloc (.cells #[.int .i64 G.on.y,.int .i64 G.on.m,.bool G.on.s,.int .i64 G.on.d,.bool true,.string G.w,.slice F7 G.l.length m7] 57)) 33 #[.int .i64 (i : Int),.int .i64 (k : Int)]
     simpa using h
    have T2:=T.ext x2;have T3:=T2.ext ((Qb.refl wx).alloc (.cells #[.int .i64 i,.int .i64 k] 33));clear hwx x2 d0 d1 d2 d3 d4 d5 c6 hb' T;obtain ⟨q0,q1⟩:=k1.c2;have ql:=k1.lt;go_wp2_with (at_builtin;refine wpList_append_own_at _ rfl _ _ 163 rfl w.heap.size 33 i0 (.agg #[.int .i64 0,.int .i64 0]) 2 16 Tryz.underlying163 hi0 hz0 hz1 hz2 rfl (by decide) _ _ _ rfl T3.b ⟨wx.heap.size,0,none⟩ 1 1 [.int .i64 i,.int .i64 k] rfl rfl (Uc (Qa.new _ _ _)) (G8 _ _) (by rw [List.length_append];unfold maxLen;omega) (by rw [List.length_append];omega) T3.e.size ?_;intro vn wn hown hgrow _ hob);have T4:=T3.snd (r:=(i,k)) hown hgrow hob;rw [List.append_assoc,← y1.out,← y2.out] at T4
    exact ⟨⟨k + 1,by omega,by go_num,T4⟩,by simp [intOf];omega⟩
def Wa (p : Rf × Rf) : List Value:=[.int .i64 (p.1.1 : Nat),.int .i64 (p.1.2 : Nat),.int .i64 (p.2.1 : Nat),.int .i64 (p.2.2 : Nat)]
theorem Cu (c : Qf) (l : List Pd) (days : Int) : (c.matchI l days).flatMap (X9 (fun o => (Q9 l false).getD o Q7) (fun k => (Q9 l true).getD k Q7)) = (c.matchL l days).flatMap Wa:=by
 unfold Qf.matchL;rw [List.flatMap_map];rfl
theorem Gq {c : Qf} {l : List Pd} (h : c.archE l = 0) : l.length ≤ 32:=by
 refine Nat.le_of_not_lt fun hn => ?_
 unfold Qf.archE at h;by_cases hc : c.chk ≠ 0
 ·rw [if_pos hc] at h;exact hc h
 ·rw [if_neg hc,if_pos hn] at h;exact absurd h (by decide)
theorem Gu {c : Qf} {l : List Pd} {days : Int} (h : c.audE l days = 0) : c.archE l = 0:=by
 unfold Qf.audE at h;by_cases hc : c.archE l ≠ 0
 ·rw [if_pos hc] at h;exact absurd h hc
 ·simpa using hc
theorem Qfn (A A' : Option Addr) (ca cb : Nat) (c : Qf) (l : List Pd) (vl : Value) (days : Int) (w : World) (hC : Q8 w A ca A' cb c) (hP : Yf w vl l) :
  Calls Tryz.prog 9 #[.agg #[.slice A c.nk ca,.slice A' c.ny cb],vl,.int .i64 days] w fun e w' => ∃ v,e = .returned (.tuple #[v,.int .i64 (c.matchV l days).2]) ∧ Qb w w' ∧ w'.ownsRow w.heap.size 35 4 v (c.matchV l days).1.length ((c.matchV l days).1.flatMap Wa):=by
 have NA:=fun w h1 h2 => Qbo A A' ca cb c l vl days w h1 h2
 obtain ⟨RE,hRE⟩:=Qg (c.audE l days);simp only [← hRE] at NA;replace hRE:=Lib.hid hRE
 go_enter Tryz.func9,Tryz.ntmps9
 go_upto_region 1 with (fail)
 obtain ⟨v,hv⟩:=Qg (w.alloc (.cells #[.slice A c.nk ca,.slice A' c.ny cb] 25));rw [← hv];have E : Qb w v:=by rw [hv];exact (Qb.refl _).alloc _
 have B1 : Qa v w.heap.size 25 #[.slice A c.nk ca,.slice A' c.ny cb]:=by rw [hv];exact (Qa.new _ _ _)
 clear hv;obtain ⟨b1,hb1⟩:=Qg (w.heap.size);rw [← hb1] at B1 ⊢;have hbr : w.heap.size ≤ b1:=by omega
 clear hb1;have C:=hC.ext E;obtain ⟨k0,k1⟩:=Qa.c2 B1;have kl:=Qa.lt B1;by_cases e0 : RE = 0;rotate_left
 ·have g0 : (RE == 0) = false := beq_eq_false_iff_ne.2 e0;have g0n : (RE != 0) = true := by rw [bne, g0]; rfl
  have hm : c.matchV l days = ([],RE):=by unfold Qf.matchV;rw [← hRE.out,if_pos e0]
  clear hRE;go_wp2_with (go_at_call 34;(with_reducible refine Calls.mono (NA _ C (hP.ext E)) ?_);rintro e w1 ⟨pv,rfl,x1,hau⟩);go_ret2;rw [hm];exact ⟨_,rfl,E.trans x1,rfl,.inl ⟨rfl,rfl⟩⟩
 have hok:=hRE.out;rw [e0] at hok;obtain ⟨⟨hv,hp⟩,_⟩:=Gs hok.symm;have hl32:=Gq (Gu hok.symm)
 have hl64 : ∀ i,i < l.length → (l.getD i Qx).d.length ≤ 1000:=fun i hi => by
  have:=(hp _ (Xy (z:=Qx) hi)).m;omega
 subst e0;have hm : c.matchV l days = (c.matchL l days,0):=by unfold Qf.matchV;rw [← hok,if_neg (by simp)]
 clear hRE hok;go_upto_region 4 with (go_at_call 34;(with_reducible refine Calls.mono (NA _ C (hP.ext E)) ?_);rintro e w1 ⟨pv,rfl,x1,hau⟩;obtain ⟨ba,rfl,hge,HB⟩:=hau rfl)
 have hA : Vv w1 ba A A' ca cb c vl l:=⟨HB,C.ext x1,(hP.ext E).ext x1⟩;have NM:=Qfm A A' ca cb c l vl ba days w1 hA hv (by omega) hl64;go_wp2_with (go_at_call 35;(with_reducible refine Calls.mono NM ?_);rintro e w2 ⟨v,rfl,x2,hO⟩);go_ret2;rw [hm];rw [Cu] at hO;exact ⟨_,rfl,E.trans (x1.trans x2),Ov (by rw [show (c.matchL l days).length = (c.matchI l days).length from List.length_map ..];exact hO) (Nat.le_trans E.size x1.size)⟩
end
end Go.Proofs.YtoflcheopfppoaaGreatDoor

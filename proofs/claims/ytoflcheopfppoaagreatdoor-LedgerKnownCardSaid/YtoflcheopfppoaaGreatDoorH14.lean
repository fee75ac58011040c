/- Walks and plain facts, packed; no conditions but those that each states. -/
import Derived.Test.YtoflcheopfppoaaGreatDoorH13
import Derived.Laws.StructEq
import Derived.Deep.Cut
import Derived.Deep.CutRange
set_option maxRecDepth 100000
set_option maxHeartbeats 4000000
namespace Go.Proofs.YtoflcheopfppoaaGreatDoor
section
open Go Go.RowKit Go.Shelf
attribute [local go_sem] Zu
theorem Nf {W : World} {t : TypeId} {A : OA} {n b : Nat} {g : Nat → Value} (h : Qw W t A n b g) : Qo W A n 1 (fun i => [g i]):=fun hn => by
 obtain ⟨cs,h1,h2,h3⟩:=h.h hn;refine ⟨b,0,h.a hn,h1.lt,fun i j v hi hv => ?_⟩
 have hj : j = 0:=by
  have:=(List.getElem?_eq_some_iff.1 hv).1;simp at this;omega
 subst hj;have hv' : g i = v:=by simpa using hv
 rw [← hv'];have:=h.cell hi
 simpa using this
def MT (t : TypeId) : Prop:=t = 3 ∨ t = 4 ∨ t = 213
def FT (W W' : World) : Prop:=∀ b t (cs : Array Value),Qa W b t cs → ¬ MT t → Qa W' b t cs
theorem FT.refl (W : World) : FT W W:=fun _ _ _ h _ => h
theorem FT.trans {W W1 W2 : World} (h : FT W W1) (k : FT W1 W2) : FT W W2:=fun b t cs hb ht => k b t cs (h b t cs hb ht) ht
theorem FT.ext {W W1 W2 : World} (h : FT W W1) (x : Qc W1 W2) : FT W W2:=fun b t cs hb ht => (h b t cs hb ht).ext x
theorem FT.setH {W W1 : World} {b : Nat} {t : TypeId} {cs : Array Value} (h : FT W W1) (hb : Qa W1 b t cs) (ht : MT t) (j : Nat) (u : Value) : FT W (W1.setCell ⟨b,j,none⟩ u):=fun b' t' cs' hb' ht' => Wg (h b' t' cs' hb' ht') (Xd (h b' t' cs' hb' ht') hb (fun e => ht' (e ▸ ht))) j u
theorem FT.setA {W W1 : World} {t : TypeId} {A : OA} {n b : Nat} {g : Nat → Value} (h : FT W W1) (hA : Qw W1 t A n b g) (hn : 0 < n) (ht : MT t) (j : Nat) (u : Value) : FT W (W1.setCell ⟨b,j,none⟩ u):=by
 obtain ⟨cs,h1,_⟩:=hA.h hn;exact h.setH h1 ht j u
theorem Wj : MT 3:=Or.inl rfl
theorem K9 : MT 4:=Or.inr (Or.inl rfl)
theorem mt_m : MT 213:=Or.inr (Or.inr rfl)
theorem FT.fr {W W1 W2 : World} {no ni bo bi bn : Nat} {O I N : OA} {g g' g'' : Nat → Value} (h : FT W W1) (f : Fr (SN no ni bo bi bn) W1 W2) (ho : Qw W1 3 O no bo g) (hi : Qw W1 3 I ni bi g') (hn : Qw W1 4 N ni bn g'') : FT W W2:=fun b t cs hb ht => f.held (h b t cs hb ht) (fun hs => by
 rcases hs with ⟨h0,e⟩ | ⟨h0,e | e⟩
 ·obtain ⟨ds,h1,_⟩:=ho.h h0;exact Xd (h b t cs hb ht) h1 (fun e => ht (e ▸ Wj)) e
 ·obtain ⟨ds,h1,_⟩:=hi.h h0;exact Xd (h b t cs hb ht) h1 (fun e => ht (e ▸ Wj)) e
 ·obtain ⟨ds,h1,_⟩:=hn.h h0;exact Xd (h b t cs hb ht) h1 (fun e => ht (e ▸ K9)) e)
theorem Qw.fr {W W' : World} {S : Nat → Prop} {t : TypeId} {A : OA} {n b : Nat} {g : Nat → Value} (h : Qw W t A n b g) (f : Fr S W W') (hs : 0 < n → ¬ S b) : Qw W' t A n b g:=⟨h.a,fun hn => by
 obtain ⟨cs,h1,h2⟩:=h.h hn;exact ⟨cs,f.held h1 (hs hn),h2⟩⟩
section
variable {P : Program} {ops : Array Oper} {md : Region.Mode} {C : World → Prop} {R : Act → World → Prop} {zs : List Nat}
theorem Vc {g : Nat} {L : Array Bool} {a : Act} {w : World} {o : Oper} (k : Nat) (ho : ops[k]? = some o) (hd : (match o.dst with | some d => decide (d < a.tmps.size) | none => false) = true) (hg : Region.wanted o (yielded ops a.tmps) = true) (hB : (Region.noSelect ops && Hc md ops L && Lg md ops zs [k] L) = true) (hw : C w)
  (h : ∃ A,(∀ u,C u → wpQuiet P ops (fun w' => w' = u) (fun a' => a' = A) [o] a) ∧ Zp P md ops C zs R g (L.setIfInBounds k true) A w) : Zp P md ops C zs R (g + 1) L a w:=by
 obtain ⟨A,h1,h2⟩:=h;simp only [Bool.and_eq_true,Lg] at hB;obtain ⟨⟨hs,hc⟩,⟨⟨⟨hr,hf⟩,hwz⟩,_⟩⟩:=hB
 cases hod : o.dst with
 | none => rw [hod] at hd;cases hd
 | some d =>
  rw [hod] at hd;have hz : d < a.tmps.size:=by simpa using hd
  have each : ∀ u,C u → ∃ v,o.quietAt P a (fun w' => w' = u) u v ∧ A.tmps[d]? = some v ∧ a.put (some d) v = A:=fun u hu => by
   have h3:=h1 u hu;unfold wpQuiet at h3;rw [if_pos hg] at h3;obtain ⟨v,h4,h5⟩:=h3;have h5 : a.put o.dst v = A:=h5;rw [hod] at h5;refine ⟨v,h4 _ rfl,?_,h5⟩;rw [← h5];simp [Act.put,hz]
  obtain ⟨v,_,hv,hA⟩:=each w hw
  have hy : Wp P ops C o v a:=⟨hg,fun w' e => by
   obtain ⟨v',g1,g2,_⟩:=each w' e;rw [hv] at g2;rw [Option.some.inj g2];exact g1⟩
  exact Qco ho (fun j hj => List.all_eq_true.1 hwz j hj) (Region.noSelect_spec hs) _ L a w (Ca hc) (Region.free_spec ho hf) (by simpa using hr) hw hy (by rw [hod,hA];exact h2)
end
theorem Qby {m : Mt} {i k no ni : Nat} (hi : i < no) (hm1 : ∀ x,x < ni → 0 ≤ m.1 x → (m.1 x).toNat < no) : ∀ x,x < ni → 0 ≤ (Xb m i k).1 x → ((Xb m i k).1 x).toNat < no:=fun x hx h0 => by
 have h0 : 0 ≤ Qn (Kd m i) k i x:=h0
 show (Qn (Kd m i) k i x).toNat < no
 by_cases e : x = k
 ·subst e;rw [Ju];simpa using hi
 ·rw [Z6 _ _ e] at h0 ⊢;unfold Kd at h0 ⊢;by_cases c : 0 ≤ m.2 i
  ·rw [if_pos c] at h0 ⊢;by_cases e2 : x = (m.2 i).toNat
   ·subst e2;rw [Ju] at h0;omega
   ·rw [Z6 _ _ e2] at h0 ⊢;exact hm1 x hx h0
  ·rw [if_neg c] at h0 ⊢;exact hm1 x hx h0
theorem Ql2 {fx : Bl} {k : Nat} (h : fx k = false) : Qn (Qn fx k true) k false = fx:=by
 funext x
 unfold Qn;by_cases e : x = k
 ·subst e;simp [h]
 ·simp [e]
theorem B8 (A : OA) (n cap b0 : Nat) (f : Nat → Int) (w : World) (h : Qw w 3 A n b0 (fun k => .int .i64 (f k))) (hn : n ≤ 1000000) :
  Calls Tryz.prog 166 #[.slice A n cap] w fun e w' => ∃ A' cap' b,e = .returned (.slice A' n cap') ∧ Qc w w' ∧ (0 < n → w.heap.size ≤ b) ∧ Qw w' 3 A' n b (fun k => .int .i64 (f k)):=by
 have q23 : ∀ (w : World) (a : OA) (n c n' c' : Nat),(binOp .eql 125 (.slice a n c) (.slice none n' c')).run Tryz.prog w = .ok (.bool a.isNone) w:=fun w a n c n' c' => Lib.run_eql_slice_nil w _ _ a n c n' c' Tryz.underlying125
 cases A with
 | none =>
  have h0 : n = 0:=by
   refine Nat.eq_zero_of_not_pos fun hp => ?_
   have:=h.a hp;cases this
  subst h0;clear h
  go_enter Tryz.func166,Tryz.ntmps166
  go_wp2;go_ret
  exact ⟨none,0,0,rfl,Qc.refl _,fun h => absurd h Qb,fun h => absurd h Qb,fun h => absurd h Qb⟩
 | some a =>
  obtain ⟨i0,hi,hz0,hz1,hz2⟩:=info_parts Nr;obtain ⟨xs,hxs⟩ : ∃ xs : List Value,xs = (List.range n).map (fun k => .int .i64 (f k)):=⟨_,rfl⟩;have hlen : xs.length = n * 1:=by rw [hxs];simp
  have HN : ∀ (j : Nat) (u : Value),xs[j]? = some u → (w.alloc (.cells #[] 3)).cell? (a.add j) = some u:=fun j u hj => by
   have hjn : j < n:=by
    have:=(List.getElem?_eq_some_iff.1 hj).1;omega
   have ha:=h.a Qb;injection ha with ha
   have hc:=h.cell hjn;rw [hxs] at hj;have e : u = .int .i64 (f j):=by simp [hjn] at hj;exact hj.symm
   rw [ha,e,Addr.add_lit,Nat.zero_add];exact (((Qc.refl w).alloc _).cell (p:=⟨b0,j,none⟩) (h.lt Qb)).trans hc
  have hone : ∀ u ∈ xs,u.oneCell' = true:=fun u hu => by
   rw [hxs] at hu;obtain ⟨x,_,rfl⟩:=List.mem_map.1 hu;rfl
  have hget : ∀ k,k < n → xs[k]? = some (.int .i64 (f k)):=fun k hk => by rw [hxs];simp [hk]
  clear hxs h
  go_enter Tryz.func166,Tryz.ntmps166
  go_wp2_with (at_builtin;refine wpList_append_own _ rfl _ _ 125 rfl w.heap.size 3 i0 (.int .i64 0) 1 8 Tryz.underlying125 hi hz0 hz1 hz2 rfl zD _ _ _ rfl (World.ownsRow_made w #[] 0 (Nat.le_refl _) (Nat.zero_le _) rfl) a n cap xs rfl hlen HN hone (by unfold maxLen;omega) Qb (by simp) ?_;intro v' w1 hown hgrow hnil2);go_ret;have hown2 : w1.ownsRow w.heap.size 3 1 v' n xs:=by simpa using hown
  obtain ⟨A',cap',b,rfl,hb,_,hA⟩:=Rj (g:=fun k => .int .i64 (f k)) hown2 hget;exact ⟨A',cap',b,rfl,((Qc.refl w).alloc _).grown hgrow (fun q hq => by have h : some w.heap.size = some q:=hq;cases h;exact Nat.le_refl _),fun _ => hb,hA⟩
set_option maxHeartbeats 40000000 in
theorem Qlq {adj : Nat → List Nat} (W0 : World) (bm bs : Nat) (Vo Vi : OA) (co ci : Nat) (vy : Value) (O I X : OA) (no ni cO cI cX bo bi bf : Nat) (m : Mt) (fx : Bl) (i k : Nat) (hadj : ∀ o,∀ k ∈ adj o,k < ni) (hY : M1 W0 vy no adj) (hi : i < no) (hk : k < ni) (hno : no ≤ 1000000) (hni : ni ≤ 1000000) (hls : W0.heap.size ≤ bs) (hf : fx k = false) (hm1 : ∀ x,x < ni → 0 ≤ m.1 x → (m.1 x).toNat < no) (hm2 : ∀ o,o < no → 0 ≤ m.2 o → (m.2 o).toNat < ni) (W : World) (hM : MS W0 W bm bs (.slice Vo no co) (.slice Vi ni ci) vy O I X no ni cO cI cX bo bi bf m fx) :
  Calls Tryz.prog 128 #[.pointer (some ⟨bs,0,none⟩),.int .i64 i,.int .i64 k] W fun e W' => e = .returned (.bool (Wv adj ni no fx m i k).isSome) ∧ FT W W' ∧ ∃ O' I' cO' cI' bo' bi',MS W0 W' bm bs (.slice Vo no co) (.slice Vi ni ci) vy O' I' X no ni cO' cI' cX bo' bi' bf ((Wv adj ni no fx m i k).getD m) (if (Wv adj ni no fx m i k).isSome then Qn fx k true else fx):=by
 obtain ⟨Y,cY,vs,rfl,_,_⟩:=id hY;obtain ⟨R,hR⟩:=Qf (Wv adj ni no fx m i k);rw [← hR];replace hR:=zh hR;have hno0 : 0 < no:=Qb;have hni0 : 0 < ni:=Qb;have hmkb:=fun w => Ig ni hni w
 have hXe:=hM.f.a hni0;have hIe:=hM.i.a hni0;have hOe:=hM.o.a hno0;subst hXe;subst hIe;subst hOe
 go_enter Tryz.func128,Tryz.ntmps128
 obtain ⟨s0,s1,s2,s3,s4,s5,s6,sl⟩:=Qa.d7 hM.km.s;go_upto_region 1 with fail
 clear s0 s1 s2 s3 s4 s5 s6 sl;refine Qy 12 [10,11] (fun x => MS W0 x bm bs (.slice Vo no co) (.slice Vi ni ci) (.slice Y no cY) (some ⟨bo,0,none⟩) (some ⟨bi,0,none⟩) (some ⟨bf,0,none⟩) no ni cO cI cX bo bi bf m fx) mixed rfl ?_;intro vz hvz;have HC:=hM.ext hvz;have hE:=hvz;refine Qj (g:=4) [0,1,2,3,5,6,7,8] HC ?_
 constructor
 refine ⟨fun u hu => ?_,?_⟩
 ·obtain ⟨s0,s1,s2,s3,s4,s5,s6,sl⟩:=Qa.d7 hu.km.s;exact Qi
 refine Qh 4 ?_;have hz:=HC.e.size;have hb1:=HC.o.lt hno0;have hb2:=HC.i.lt hni0;go_wp2_with (go_at_call 166;refine zc (B8 _ no _ bo m.2 _ HC.o hno) ?_;rintro e wc ⟨O2,cO2,bo2,rfl,hj,hl,AO2⟩);have a1 : W0.heap.size ≤ bo2 ∧ bo2 ≠ bo ∧ bo2 ≠ bi:=by have:=hl hno0;exact ⟨Qb,Qb,Qb⟩
 replace HC:=HC.ext hj;replace hE:=hE.trans hj;clear hz hb1 hb2 hl hj;refine Qe HC ?_;refine Qh 9 ?_;have hz:=HC.e.size;have hb1:=HC.o.lt hno0;have hb2:=HC.i.lt hni0;go_wp2_with (go_at_call 166;refine zc (B8 _ ni _ bi m.1 _ HC.i hni) ?_;rintro e wc ⟨I2,cI2,bi2,rfl,hj,hl,AI2⟩)
 have a2 : W0.heap.size ≤ bi2 ∧ bi2 ≠ bo ∧ bi2 ≠ bi ∧ bo2 ≠ bi2:=by
  have:=hl hni0;have:=AO2.lt hno0;exact ⟨Qb,Qb,Qb,Qb⟩
 replace AO2:=AO2.ext hj;replace HC:=HC.ext hj;replace hE:=hE.trans hj;clear hz hb1 hb2 hl hj;refine Qe HC ?_;refine Ql 10 ?_;go_wp2;refine Qk ?_;refine Ql 11 ?_;go_wp2;refine Qk ?_;refine Qr ?_;have hF : FT W wc:=fun b t cs hb _ => hb.ext hE
 clear hM hE;obtain ⟨z1,hz1⟩:=Qf (m.2 i);obtain ⟨z2,hz2⟩:=Qf (m.1 k);have o0:=HC.o.cell hi;rw [← hz1] at o0;have ol:=HC.o.lt hno0;have i0:=HC.i.cell hk;rw [← hz2] at i0;have il:=HC.i.lt hni0;replace hz1:=zh hz1;replace hz2:=zh hz2;obtain ⟨s0,s1,s2,s3,s4,s5,s6,sl⟩:=Qa.d7 HC.km.s;go_upto_region 2 with fail
 refine Zj wc ?_;intro w2 h2;obtain ⟨_,_,_,_⟩:=Zi wc h2;clear s0 s1 s2 s3 s4 s5 s6 sl o0 ol i0 il;replace HC:=HC.ext h2;replace hF:=hF.ext h2;replace AO2:=AO2.ext h2;replace AI2:=AI2.ext h2;clear h2;obtain ⟨s0,s1,s2,s3,s4,s5,s6,sl⟩:=Qa.d7 HC.km.s;rcases Int.lt_or_le z2 0 with n2 | n2
 ·rcases Int.lt_or_le z1 0 with n1 | n1
  ·replace hz1:=hz1.out;replace hz2:=hz2.out;have g2 : decide (0 ≤ z2) = false:=zf Qb;have g4 : decide (z2 < 0) = true:=zt n2;have g1 : decide (0 ≤ z1) = false:=zf Qb;have g3 : decide (z1 < 0) = true:=zt n1
   have hs : (Qn (m.1) k (i : Int),Qn (m.2) i (k : Int)) = Xb m i k:=by
    unfold Xb Kd;rw [if_neg (show ¬ 0 ≤ m.2 i by omega),if_neg (show ¬ 0 ≤ m.1 k by omega)]
   have hRs : R = some (Xb m i k):=by rw [hR.out];unfold Wv;rw [if_pos Qb]
   subst hRs;clear hR;replace hs:=zh hs;replace hz1:=zh hz1;replace hz2:=zh hz2;go_upto_region 7 with fail
   clear s0 s1 s2 s3 s4 s5 s6 sl;refine Qy 16 [15] (fun x => KM bm bs (.slice Vo no co) (.slice Vi ni ci) (.slice Y no cY) (some ⟨bo,0,none⟩) (some ⟨bi,0,none⟩) (some ⟨bf,0,none⟩) no ni cO cI cX x) mixed rfl ?_;intro vz hvz;replace HC:=HC.ext hvz;replace hF:=hF.ext hvz;replace AO2:=AO2.ext hvz;replace AI2:=AI2.ext hvz;have HK:=HC.km;refine Qj (g:=3) [0,1,2,3,4,5,6,7,8,9,10,11,12] HK ?_
   constructor
   refine ⟨fun u hu => ?_,?_⟩
   ·obtain ⟨s0,s1,s2,s3,s4,s5,s6,sl⟩:=Qa.d7 hu.s;exact Qi
   refine Qh 13 ?_;have fz:=HC.o.frozen hno0 i;have fc:=HC.o.cell hi;have fl:=HC.o.lt hno0;go_wp2;replace hF:=hF.setA HC.o hno0 Wj i (.int .i64 (k : Int));replace AO2:=AO2.oth (fun hn => a1.2.1) i (.int .i64 (k : Int));replace AI2:=AI2.oth (fun hn => a2.2.1) i (.int .i64 (k : Int));replace HC:=HC.setO hi (k : Int);clear fz fc fl;generalize World.setCell _ _ _ = wq at *;replace HK:=HC.km;refine Qe HK ?_;refine Qj (g:=1) [14] HK ?_
   constructor
   refine ⟨fun u hu => ?_,?_⟩
   ·obtain ⟨s0,s1,s2,s3,s4,s5,s6,sl⟩:=Qa.d7 hu.s;exact Qi
   refine Ql 15 ?_;have fz:=HC.i.frozen hni0 k;have fc:=HC.i.cell hk;have fl:=HC.i.lt hni0;go_wp2;replace hF:=hF.setA HC.i hni0 Wj k (.int .i64 (i : Int));replace AO2:=AO2.oth (fun hn => a1.2.2) k (.int .i64 (i : Int));replace AI2:=AI2.oth (fun hn => a2.2.2.1) k (.int .i64 (i : Int));replace HC:=HC.setI hk (i : Int);clear fz fc fl;generalize World.setCell _ _ _ = wq at *;replace HK:=HC.km;refine Qk ?_;refine Qr ?_;rw [hs.out] at HC;clear HK;obtain ⟨s0,s1,s2,s3,s4,s5,s6,sl⟩:=Qa.d7 HC.km.s;go_upto_region 8 with fail
   have fz:=HC.f.frozen hni0 k;have fc:=HC.f.cell hk;have fl:=HC.f.lt hni0;go_upto_region 9 with fail
   replace hF:=hF.setA HC.f hni0 K9 k (.bool true);replace AO2:=AO2.oth (fun hn => AO2.apart2 HC.f zD hn hni0) k (.bool true);replace AI2:=AI2.oth (fun hn => AI2.apart2 HC.f zD hn hni0) k (.bool true);replace HC:=HC.setF hk (true);clear fz fc fl;generalize World.setCell _ _ _ = wq at *;clear s0 s1 s2 s3 s4 s5 s6 sl;obtain ⟨s0,s1,s2,s3,s4,s5,s6,sl⟩:=Qa.d7 HC.km.s;go_upto_region 11 with fail
   go_loopw [11,12] (fun okv jv wr => okv = .bool true ∧ jv = .int .i64 ((i + 1 : Nat) : Int) ∧ wr = wq) (fun _ _ _ => 0)
   case atStart => exact ⟨rfl,by go_num,rfl⟩
   case round =>
    obtain ⟨rfl,rfl,rfl⟩:=hrel;by_cases cj : i + 1 < no
    ·have cj1 : decide (((i + 1 : Nat) : Int) < (no : Int)) = true:=zt Qb;go_wp2;go_ret;exact ⟨rfl,hF,_,_,_,_,_,_,HC⟩
    ·have cj1 : decide (((i + 1 : Nat) : Int) < (no : Int)) = false:=zf Qb;go_wp2;go_ret;exact ⟨rfl,hF,_,_,_,_,_,_,HC⟩
  ·replace hz1 := hz1.out;replace hz2 := hz2.out;have g2 : decide (0 ≤ z2) = false := zf Qb;have g4 : decide (z2 < 0) = true := zt n2;obtain ⟨p1, rfl⟩ := Int.eq_ofNat_of_zero_le n1;have hp1 : p1 < ni := by have := hm2 i hi Qb; rw [← hz1] at this; simpa using this
   have g1 : decide ((0 : Int) ≤ (p1 : Int)) = true:=zt n1;have g3 : decide ((p1 : Int) < 0) = false:=zf Qb
   have hs : (Qn (Qn m.1 p1 (-1)) k (i : Int),Qn (m.2) i (k : Int)) = Xb m i k:=by
    unfold Xb Kd;rw [if_pos (show 0 ≤ m.2 i by omega),if_neg (show ¬ 0 ≤ m.1 k by omega),← hz1];rfl
   have hRs : R = some (Xb m i k):=by rw [hR.out];unfold Wv;rw [if_pos Qb]
   subst hRs;clear hR;replace hs:=zh hs;replace hz1:=zh hz1;replace hz2:=zh hz2;go_upto_region 6 with fail
   have fz:=HC.i.frozen hni0 p1;have fc:=HC.i.cell hp1;have fl:=HC.i.lt hni0;go_upto_region 7 with fail
   replace hF:=hF.setA HC.i hni0 Wj p1 (.int .i64 (-1));replace AO2:=AO2.oth (fun hn => a1.2.2) p1 (.int .i64 (-1));replace AI2:=AI2.oth (fun hn => a2.2.2.1) p1 (.int .i64 (-1));replace HC:=HC.setI hp1 (-1);clear fz fc fl;generalize World.setCell _ _ _ = wq at *;clear s0 s1 s2 s3 s4 s5 s6 sl;refine Qy 16 [15] (fun x => KM bm bs (.slice Vo no co) (.slice Vi ni ci) (.slice Y no cY) (some ⟨bo,0,none⟩) (some ⟨bi,0,none⟩) (some ⟨bf,0,none⟩) no ni cO cI cX x) mixed rfl ?_;intro vz hvz;replace HC:=HC.ext hvz;replace hF:=hF.ext hvz;replace AO2:=AO2.ext hvz;replace AI2:=AI2.ext hvz;have HK:=HC.km;refine Qj (g:=3) [0,1,2,3,4,5,6,7,8,9,10,11,12] HK ?_
   constructor
   refine ⟨fun u hu => ?_,?_⟩
   ·obtain ⟨s0,s1,s2,s3,s4,s5,s6,sl⟩:=Qa.d7 hu.s;exact Qi
   refine Qh 13 ?_;have fz:=HC.o.frozen hno0 i;have fc:=HC.o.cell hi;have fl:=HC.o.lt hno0;go_wp2;replace hF:=hF.setA HC.o hno0 Wj i (.int .i64 (k : Int));replace AO2:=AO2.oth (fun hn => a1.2.1) i (.int .i64 (k : Int));replace AI2:=AI2.oth (fun hn => a2.2.1) i (.int .i64 (k : Int));replace HC:=HC.setO hi (k : Int);clear fz fc fl;generalize World.setCell _ _ _ = wq at *;replace HK:=HC.km;refine Qe HK ?_;refine Qj (g:=1) [14] HK ?_
   constructor
   refine ⟨fun u hu => ?_,?_⟩
   ·obtain ⟨s0,s1,s2,s3,s4,s5,s6,sl⟩:=Qa.d7 hu.s;exact Qi
   refine Ql 15 ?_;have fz:=HC.i.frozen hni0 k;have fc:=HC.i.cell hk;have fl:=HC.i.lt hni0;go_wp2;replace hF:=hF.setA HC.i hni0 Wj k (.int .i64 (i : Int));replace AO2:=AO2.oth (fun hn => a1.2.2) k (.int .i64 (i : Int));replace AI2:=AI2.oth (fun hn => a2.2.2.1) k (.int .i64 (i : Int));replace HC:=HC.setI hk (i : Int);clear fz fc fl;generalize World.setCell _ _ _ = wq at *;replace HK:=HC.km;refine Qk ?_;refine Qr ?_;rw [hs.out] at HC;clear HK;obtain ⟨s0,s1,s2,s3,s4,s5,s6,sl⟩:=Qa.d7 HC.km.s;go_upto_region 8 with fail
   have fz:=HC.f.frozen hni0 k;have fc:=HC.f.cell hk;have fl:=HC.f.lt hni0;go_upto_region 9 with fail
   replace hF:=hF.setA HC.f hni0 K9 k (.bool true);replace AO2:=AO2.oth (fun hn => AO2.apart2 HC.f zD hn hni0) k (.bool true);replace AI2:=AI2.oth (fun hn => AI2.apart2 HC.f zD hn hni0) k (.bool true);replace HC:=HC.setF hk (true);clear fz fc fl;generalize World.setCell _ _ _ = wq at *;clear s0 s1 s2 s3 s4 s5 s6 sl;obtain ⟨s0,s1,s2,s3,s4,s5,s6,sl⟩:=Qa.d7 HC.km.s;go_upto_region 11 with fail
   go_loopw [11,12] (fun okv jv wr => okv = .bool true ∧ jv = .int .i64 ((i + 1 : Nat) : Int) ∧ wr = wq) (fun _ _ _ => 0)
   case atStart => exact ⟨rfl,by go_num,rfl⟩
   case round =>
    obtain ⟨rfl,rfl,rfl⟩:=hrel;by_cases cj : i + 1 < no
    ·have cj1 : decide (((i + 1 : Nat) : Int) < (no : Int)) = true:=zt Qb;go_wp2;go_ret;exact ⟨rfl,hF,_,_,_,_,_,_,HC⟩
    ·have cj1 : decide (((i + 1 : Nat) : Int) < (no : Int)) = false:=zf Qb;go_wp2;go_ret;exact ⟨rfl,hF,_,_,_,_,_,_,HC⟩
 ·rcases Int.lt_or_le z1 0 with n1 | n1
  ·replace hz1 := hz1.out;replace hz2 := hz2.out;obtain ⟨p2, rfl⟩ := Int.eq_ofNat_of_zero_le n2;have hp2 : p2 < no := by have := hm1 k hk Qb; rw [← hz2] at this; simpa using this
   have g2 : decide ((0 : Int) ≤ (p2 : Int)) = true:=zt n2;have g1 : decide (0 ≤ z1) = false:=zf Qb;have g3 : decide (z1 < 0) = true:=zt n1;have g4 : decide ((p2 : Int) < 0) = false:=zf Qb
   have hs : (Qn (m.1) k (i : Int),Qn (Qn m.2 p2 (-1)) i (k : Int)) = Xb m i k:=by
    unfold Xb Kd;rw [if_neg (show ¬ 0 ≤ m.2 i by omega),if_pos (show 0 ≤ m.1 k by omega),← hz2];rfl
   have hRs : R = some (Xb m i k):=by rw [hR.out];unfold Wv;rw [if_pos Qb]
   subst hRs;clear hR;replace hs:=zh hs;replace hz1:=zh hz1;replace hz2:=zh hz2;go_upto_region 4 with fail
   have fz:=HC.o.frozen hno0 p2;have fc:=HC.o.cell hp2;have fl:=HC.o.lt hno0;go_upto_region 5 with fail
   replace hF:=hF.setA HC.o hno0 Wj p2 (.int .i64 (-1));replace AO2:=AO2.oth (fun hn => a1.2.1) p2 (.int .i64 (-1));replace AI2:=AI2.oth (fun hn => a2.2.1) p2 (.int .i64 (-1));replace HC:=HC.setO hp2 (-1);clear fz fc fl;generalize World.setCell _ _ _ = wq at *;clear s0 s1 s2 s3 s4 s5 s6 sl;obtain ⟨s0,s1,s2,s3,s4,s5,s6,sl⟩:=Qa.d7 HC.km.s;go_upto_region 7 with fail
   clear s0 s1 s2 s3 s4 s5 s6 sl;refine Qy 16 [15] (fun x => KM bm bs (.slice Vo no co) (.slice Vi ni ci) (.slice Y no cY) (some ⟨bo,0,none⟩) (some ⟨bi,0,none⟩) (some ⟨bf,0,none⟩) no ni cO cI cX x) mixed rfl ?_;intro vz hvz;replace HC:=HC.ext hvz;replace hF:=hF.ext hvz;replace AO2:=AO2.ext hvz;replace AI2:=AI2.ext hvz;have HK:=HC.km;refine Qj (g:=3) [0,1,2,3,4,5,6,7,8,9,10,11,12] HK ?_
   constructor
   refine ⟨fun u hu => ?_,?_⟩
   ·obtain ⟨s0,s1,s2,s3,s4,s5,s6,sl⟩:=Qa.d7 hu.s;exact Qi
   refine Qh 13 ?_;have fz:=HC.o.frozen hno0 i;have fc:=HC.o.cell hi;have fl:=HC.o.lt hno0;go_wp2;replace hF:=hF.setA HC.o hno0 Wj i (.int .i64 (k : Int));replace AO2:=AO2.oth (fun hn => a1.2.1) i (.int .i64 (k : Int));replace AI2:=AI2.oth (fun hn => a2.2.1) i (.int .i64 (k : Int));replace HC:=HC.setO hi (k : Int);clear fz fc fl;generalize World.setCell _ _ _ = wq at *;replace HK:=HC.km;refine Qe HK ?_;refine Qj (g:=1) [14] HK ?_
   constructor
   refine ⟨fun u hu => ?_,?_⟩
   ·obtain ⟨s0,s1,s2,s3,s4,s5,s6,sl⟩:=Qa.d7 hu.s;exact Qi
   refine Ql 15 ?_;have fz:=HC.i.frozen hni0 k;have fc:=HC.i.cell hk;have fl:=HC.i.lt hni0;go_wp2;replace hF:=hF.setA HC.i hni0 Wj k (.int .i64 (i : Int));replace AO2:=AO2.oth (fun hn => a1.2.2) k (.int .i64 (i : Int));replace AI2:=AI2.oth (fun hn => a2.2.2.1) k (.int .i64 (i : Int));replace HC:=HC.setI hk (i : Int);clear fz fc fl;generalize World.setCell _ _ _ = wq at *;replace HK:=HC.km;refine Qk ?_;refine Qr ?_;rw [hs.out] at HC;clear HK;obtain ⟨s0,s1,s2,s3,s4,s5,s6,sl⟩:=Qa.d7 HC.km.s;go_upto_region 8 with fail
   have fz:=HC.f.frozen hni0 k;have fc:=HC.f.cell hk;have fl:=HC.f.lt hni0;go_upto_region 9 with fail
   replace hF:=hF.setA HC.f hni0 K9 k (.bool true);replace AO2:=AO2.oth (fun hn => AO2.apart2 HC.f zD hn hni0) k (.bool true);replace AI2:=AI2.oth (fun hn => AI2.apart2 HC.f zD hn hni0) k (.bool true);replace HC:=HC.setF hk (true);clear fz fc fl;generalize World.setCell _ _ _ = wq at *;clear s0 s1 s2 s3 s4 s5 s6 sl;obtain ⟨s0,s1,s2,s3,s4,s5,s6,sl⟩:=Qa.d7 HC.km.s;go_upto_region 11 with fail
   go_loopw [11,12] (fun okv jv wr => okv = .bool true ∧ jv = .int .i64 ((i + 1 : Nat) : Int) ∧ wr = wq) (fun _ _ _ => 0)
   case atStart => exact ⟨rfl,by go_num,rfl⟩
   case round =>
    obtain ⟨rfl,rfl,rfl⟩:=hrel;by_cases cj : i + 1 < no
    ·have cj1 : decide (((i + 1 : Nat) : Int) < (no : Int)) = true:=zt Qb;go_wp2;go_ret;exact ⟨rfl,hF,_,_,_,_,_,_,HC⟩
    ·have cj1 : decide (((i + 1 : Nat) : Int) < (no : Int)) = false:=zf Qb;go_wp2;go_ret;exact ⟨rfl,hF,_,_,_,_,_,_,HC⟩
  ·replace hz1 := hz1.out;replace hz2 := hz2.out;obtain ⟨p2, rfl⟩ := Int.eq_ofNat_of_zero_le n2;have hp2 : p2 < no := by have := hm1 k hk Qb; rw [← hz2] at this; simpa using this
   have g2 : decide ((0 : Int) ≤ (p2 : Int)) = true:=zt n2;obtain ⟨p1,rfl⟩:=Int.eq_ofNat_of_zero_le n1;have hp1 : p1 < ni:=by have:=hm2 i hi Qb;rw [← hz1] at this;simpa using this
   have g1 : decide ((0 : Int) ≤ (p1 : Int)) = true:=zt n1;have g3 : decide ((p1 : Int) < 0) = false:=zf Qb;have g4 : decide ((p2 : Int) < 0) = false:=zf Qb
   have hs : (Qn (Qn m.1 p1 (-1)) k (i : Int),Qn (Qn m.2 p2 (-1)) i (k : Int)) = Xb m i k:=by
    unfold Xb Kd;rw [if_pos (show 0 ≤ m.2 i by omega),if_pos (show 0 ≤ m.1 k by omega),← hz1,← hz2];rfl
   replace hR : Hid (Vy adj ni (Qn fx k true) (no - (i + 1)) (i + 1) (Xb m i k) = R):=by
    have h:=hR.out;unfold Wv at h;rw [if_neg Qb] at h;exact h.symm
   replace hs:=zh hs;replace hz1:=zh hz1;replace hz2:=zh hz2;go_upto_region 4 with fail
   have fz:=HC.o.frozen hno0 p2;have fc:=HC.o.cell hp2;have fl:=HC.o.lt hno0;go_upto_region 5 with fail
   replace hF:=hF.setA HC.o hno0 Wj p2 (.int .i64 (-1));replace AO2:=AO2.oth (fun hn => a1.2.1) p2 (.int .i64 (-1));replace AI2:=AI2.oth (fun hn => a2.2.1) p2 (.int .i64 (-1));replace HC:=HC.setO hp2 (-1);clear fz fc fl;generalize World.setCell _ _ _ = wq at *;clear s0 s1 s2 s3 s4 s5 s6 sl;obtain ⟨s0,s1,s2,s3,s4,s5,s6,sl⟩:=Qa.d7 HC.km.s;go_upto_region 6 with fail
   have fz:=HC.i.frozen hni0 p1;have fc:=HC.i.cell hp1;have fl:=HC.i.lt hni0;go_upto_region 7 with fail
   replace hF:=hF.setA HC.i hni0 Wj p1 (.int .i64 (-1));replace AO2:=AO2.oth (fun hn => a1.2.2) p1 (.int .i64 (-1));replace AI2:=AI2.oth (fun hn => a2.2.2.1) p1 (.int .i64 (-1));replace HC:=HC.setI hp1 (-1);clear fz fc fl;generalize World.setCell _ _ _ = wq at *;clear s0 s1 s2 s3 s4 s5 s6 sl;refine Qy 16 [15] (fun x => KM bm bs (.slice Vo no co) (.slice Vi ni ci) (.slice Y no cY) (some ⟨bo,0,none⟩) (some ⟨bi,0,none⟩) (some ⟨bf,0,none⟩) no ni cO cI cX x) mixed rfl ?_;intro vz hvz;replace HC:=HC.ext hvz;replace hF:=hF.ext hvz;replace AO2:=AO2.ext hvz;replace AI2:=AI2.ext hvz;have HK:=HC.km;refine Qj (g:=3) [0,1,2,3,4,5,6,7,8,9,10,11,12] HK ?_
   constructor
   refine ⟨fun u hu => ?_,?_⟩
   ·obtain ⟨s0,s1,s2,s3,s4,s5,s6,sl⟩:=Qa.d7 hu.s;exact Qi
   refine Qh 13 ?_;have fz:=HC.o.frozen hno0 i;have fc:=HC.o.cell hi;have fl:=HC.o.lt hno0;go_wp2;replace hF:=hF.setA HC.o hno0 Wj i (.int .i64 (k : Int));replace AO2:=AO2.oth (fun hn => a1.2.1) i (.int .i64 (k : Int));replace AI2:=AI2.oth (fun hn => a2.2.1) i (.int .i64 (k : Int));replace HC:=HC.setO hi (k : Int);clear fz fc fl;generalize World.setCell _ _ _ = wq at *;replace HK:=HC.km;refine Qe HK ?_;refine Qj (g:=1) [14] HK ?_
   constructor
   refine ⟨fun u hu => ?_,?_⟩
   ·obtain ⟨s0,s1,s2,s3,s4,s5,s6,sl⟩:=Qa.d7 hu.s;exact Qi
   refine Ql 15 ?_;have fz:=HC.i.frozen hni0 k;have fc:=HC.i.cell hk;have fl:=HC.i.lt hni0;go_wp2;replace hF:=hF.setA HC.i hni0 Wj k (.int .i64 (i : Int));replace AO2:=AO2.oth (fun hn => a1.2.2) k (.int .i64 (i : Int));replace AI2:=AI2.oth (fun hn => a2.2.2.1) k (.int .i64 (i : Int));replace HC:=HC.setI hk (i : Int);clear fz fc fl;generalize World.setCell _ _ _ = wq at *;replace HK:=HC.km;refine Qk ?_;refine Qr ?_;rw [hs.out] at HC;clear HK;obtain ⟨s0,s1,s2,s3,s4,s5,s6,sl⟩:=Qa.d7 HC.km.s;go_upto_region 8 with fail
   have fz:=HC.f.frozen hni0 k;have fc:=HC.f.cell hk;have fl:=HC.f.lt hni0;go_upto_region 9 with fail
   replace hF:=hF.setA HC.f hni0 K9 k (.bool true);replace AO2:=AO2.oth (fun hn => AO2.apart2 HC.f zD hn hni0) k (.bool true);replace AI2:=AI2.oth (fun hn => AI2.apart2 HC.f zD hn hni0) k (.bool true);replace HC:=HC.setF hk (true);clear fz fc fl;generalize World.setCell _ _ _ = wq at *;clear s0 s1 s2 s3 s4 s5 s6 sl;obtain ⟨s0,s1,s2,s3,s4,s5,s6,sl⟩:=Qa.d7 HC.km.s;go_upto_region 11 with fail
   obtain ⟨mS,hmS⟩:=Qf (Xb m i k);have hms:=Qby (k:=k) hi hm1;rw [← hmS] at HC hR hms;clear hs hz1 hz2 hmS s0 s1 s2 s3 s4 s5 s6 sl
   go_loopw [11,12] (fun okv jv wr => ∃ (j : Nat) (om : Option Mt),j ≤ no ∧ jv = .int .i64 j ∧ okv = .bool om.isSome ∧ MS W0 wr bm bs (.slice Vo no co) (.slice Vi ni ci) (.slice Y no cY) (some ⟨bo,0,none⟩) (some ⟨bi,0,none⟩) (some ⟨bf,0,none⟩) no ni cO cI cX bo bi bf (om.getD mS) (Qn fx k true) ∧ FT W wr ∧ Qw wr 3 O2 no bo2 (fun x => .int .i64 (m.2 x)) ∧ Qw wr 3 I2 ni bi2 (fun x => .int .i64 (m.1 x)) ∧ Hid (om = none → Vy adj ni (Qn fx k true) (no - j) j mS = R) ∧ Hid (∀ m',om = some m' → R = some m')) (fun _ jv _ => no - (intOf jv).toNat)
   case atStart => exact ⟨i + 1,none,Qb,by go_num,rfl,HC,hF,AO2,AI2,zh fun _ => hR.out,zh fun _ h => by cases h⟩
   case round =>
    clear HC hF AO2 AI2 hR;obtain ⟨j,om,hj,rfl,rfl,M,hF,AO2,AI2,h1,h2⟩:=hrel;obtain ⟨wo,rfl⟩:=Qf wr
    cases om with
    | some m' =>
     have hRs:=h2.out m' rfl;subst hRs;clear h1 h2;obtain ⟨s0,s1,s2,s3,s4,s5,s6,sl⟩:=Qa.d7 M.km.s;by_cases cj : j < no
     ·have cj1 : decide ((j : Int) < (no : Int)) = true:=zt Qb;go_wp2;go_ret;exact ⟨rfl,hF,_,_,_,_,_,_,M⟩
     ·have cj1 : decide ((j : Int) < (no : Int)) = false:=zf Qb;go_wp2;go_ret
      exact ⟨rfl,hF,_,_,_,_,_,_,M⟩
    | none =>
     replace M : MS W0 wo bm bs (.slice Vo no co) (.slice Vi ni ci) (.slice Y no cY) (some ⟨bo,0,none⟩) (some ⟨bi,0,none⟩) (some ⟨bf,0,none⟩) no ni cO cI cX bo bi bf mS (Qn fx k true):=M;replace h1:=h1.out rfl;clear h2;obtain ⟨s0,s1,s2,s3,s4,s5,s6,sl⟩:=Qa.d7 M.km.s;by_cases cj : j < no;rotate_left
     ·have cj1 : decide ((j : Int) < (no : Int)) = false:=zf Qb
      obtain rfl : R = none:=by
       rw [show no - j = 0 by omega] at h1;exact h1.symm
      clear h1;go_upto_region 15 with fail
      have z3:=M.km.s.frozen 3;have z4:=M.km.s.frozen 4;go_upto_region 16 with fail
      have HS1:=K6 M.km.s 3 (.slice O2 no cO2);have hbb:=Xd M.km.p M.km.s zD;have HP2:=Wg (Wg M.km.p hbb 3 (.slice O2 no cO2)) hbb 4 (.slice I2 ni cI2);have HS2:=K6 HS1 4 (.slice I2 ni cI2);have E2:=(M.e.setCell (p:=⟨bs,3,none⟩) hls (.slice O2 no cO2)).setCell (p:=⟨bs,4,none⟩) hls (.slice I2 ni cI2);have AO3:=(AO2.offM M.km.s zD 3 (.slice O2 no cO2)).offM HS1 zD 4 (.slice I2 ni cI2);have AI3:=(AI2.offM M.km.s zD 3 (.slice O2 no cO2)).offM HS1 zD 4 (.slice I2 ni cI2);have AF3:=(M.f.offM M.km.s zD 3 (.slice O2 no cO2)).offM HS1 zD 4 (.slice I2 ni cI2);replace hF:=(hF.setH M.km.s mt_m 3 (.slice O2 no cO2)).setH HS1 mt_m 4 (.slice I2 ni cI2)
      have M9 : MS W0 _ bm bs (.slice Vo no co) (.slice Vi ni ci) (.slice Y no cY) O2 I2 (some ⟨bf,0,none⟩) no ni cO2 cI2 cX bo2 bi2 bf m (Qn fx k true):=⟨E2,⟨HP2,HS2⟩,AO3,AI3,AF3,fun _ _ => a2.2.2.2,fun _ => a1.1,fun _ => a2.1,M.lf⟩;clear HS1 HS2 HP2 E2 AO3 AI3 AF3 AO2 AI2 z3 z4 hbb s0 s1 s2 s3 s4 s5 s6 sl M;generalize World.setCell (World.setCell _ _ _) _ _ = w9 at *;obtain ⟨s0,s1,s2,s3,s4,s5,s6,sl⟩:=Qa.d7 M9.km.s;have fz:=M9.f.frozen hni0 k;have fc:=M9.f.cell hk;have fl:=M9.f.lt hni0;go_upto_region 17 with fail
      replace hF:=hF.setA M9.f hni0 K9 k (.bool false);have M10:=M9.setF hk false;rw [Ql2 hf] at M10;clear fz fc fl M9 s0 s1 s2 s3 s4 s5 s6 sl;generalize World.setCell _ _ _ = w10 at *;go_wp2;go_ret;exact ⟨rfl,hF,_,_,_,_,_,_,M10⟩
     have cj1 : decide ((j : Int) < (no : Int)) = true:=zt Qb;have o0:=M.o.cell cj;have ol:=M.o.lt hno0;rw [show no - j = (no - (j + 1)) + 1 by omega] at h1;unfold Vy at h1;by_cases c : mS.2 j < 0;rotate_left
     ·have c1 : decide (mS.2 j < 0) = false:=zf c;rw [if_neg c] at h1;replace h1:=zh h1;go_upto_region 13 with fail
      refine Zj wo ?_;intro w9 h9;obtain ⟨_,_,_,_⟩:=Zi wo h9;replace M:=M.ext h9;replace hF:=hF.ext h9;replace AO2:=AO2.ext h9;replace AI2:=AI2.ext h9;clear h9 o0 ol s0 s1 s2 s3 s4 s5 s6 sl;go_wp2;exact ⟨⟨j + 1,none,Qb,by go_num,rfl,M,hF,AO2,AI2,zh fun _ => h1.out,zh fun _ h => by cases h⟩,zi⟩
     have c1 : decide (mS.2 j < 0) = true:=zt c;rw [if_pos c] at h1;replace h1:=zh h1;go_upto_region 13 with fail
     refine Qy 23 [20,21,22] (fun x => MS W0 x bm bs (.slice Vo no co) (.slice Vi ni ci) (.slice Y no cY) (some ⟨bo,0,none⟩) (some ⟨bi,0,none⟩) (some ⟨bf,0,none⟩) no ni cO cI cX bo bi bf mS (Qn fx k true) ∧ x.cell? ⟨bo,j,none⟩ = some (.int .i64 (mS.2 j)) ∧ bo < x.heap.size) mixed rfl ?_;intro vz hvz;replace hF:=hF.ext hvz;replace AO2:=AO2.ext hvz;replace AI2:=AI2.ext hvz;have HC:=And.intro (M.ext hvz) (And.intro ((hvz.cell (p:=⟨bo,j,none⟩) ol).trans o0) (Nat.lt_of_lt_of_le ol hvz.size));clear M o0 ol s0 s1 s2 s3 s4 s5 s6 sl;refine Qj (g:=14) [0,1,2,3,4,5,6,7,8] HC ?_
     constructor
     refine ⟨fun u hu => ?_,?_⟩
     ·obtain ⟨s0,s1,s2,s3,s4,s5,s6,sl⟩:=Qa.d7 hu.1.km.s;have o0:=hu.2.1;have ol:=hu.2.2;exact Qi
     refine Vc (g:=13) 9 rfl zK zK zK HC ?_;simp only [Za,Zb,Zc];apply Exists.intro;refine ⟨fun u hu => ?_,?_⟩
     ·obtain ⟨s0,s1,s2,s3,s4,s5,s6,sl⟩:=Qa.d7 hu.1.km.s;have o0:=hu.2.1;have ol:=hu.2.2;exact Qi
     refine Vc (g:=12) 10 rfl zK zK zK HC ?_;simp only [Za,Zb,Zc];apply Exists.intro;refine ⟨fun u hu => ?_,?_⟩
     ·obtain ⟨s0,s1,s2,s3,s4,s5,s6,sl⟩:=Qa.d7 hu.1.km.s;have o0:=hu.2.1;have ol:=hu.2.2;exact Qi
     refine Vc (g:=11) 11 rfl zK zK zK HC ?_;simp only [Za,Zb,Zc];apply Exists.intro;refine ⟨fun u hu => ?_,?_⟩
     ·obtain ⟨s0,s1,s2,s3,s4,s5,s6,sl⟩:=Qa.d7 hu.1.km.s;have o0:=hu.2.1;have ol:=hu.2.2;exact Qi
     refine Vc (g:=10) 12 rfl zK zK zK HC ?_;simp only [Za,Zb,Zc];apply Exists.intro;refine ⟨fun u hu => ?_,?_⟩
     ·obtain ⟨s0,s1,s2,s3,s4,s5,s6,sl⟩:=Qa.d7 hu.1.km.s;have o0:=hu.2.1;have ol:=hu.2.2;exact Qi
     refine Vc (g:=9) 13 rfl zK zK zK HC ?_;simp only [Za,Zb,Zc];apply Exists.intro;refine ⟨fun u hu => ?_,?_⟩
     ·obtain ⟨s0,s1,s2,s3,s4,s5,s6,sl⟩:=Qa.d7 hu.1.km.s;have o0:=hu.2.1;have ol:=hu.2.2;exact Qi
     refine Vc (g:=8) 14 rfl zK zK zK HC ?_;simp only [Za,Zb,Zc];apply Exists.intro;refine ⟨fun u hu => ?_,?_⟩
     ·obtain ⟨s0,s1,s2,s3,s4,s5,s6,sl⟩:=Qa.d7 hu.1.km.s;have o0:=hu.2.1;have ol:=hu.2.2;exact Qi
     refine Vc (g:=7) 15 rfl zK zK zK HC ?_;simp only [Za,Zb,Zc];apply Exists.intro;refine ⟨fun u hu => ?_,?_⟩
     ·obtain ⟨s0,s1,s2,s3,s4,s5,s6,sl⟩:=Qa.d7 hu.1.km.s;have o0:=hu.2.1;have ol:=hu.2.2;exact Qi
     refine Vc (g:=6) 16 rfl zK zK zK HC ?_;simp only [Za,Zb,Zc];apply Exists.intro;refine ⟨fun u hu => ?_,?_⟩
     ·obtain ⟨s0,s1,s2,s3,s4,s5,s6,sl⟩:=Qa.d7 hu.1.km.s;have o0:=hu.2.1;have ol:=hu.2.2;exact Qi
     refine Vc (g:=5) 17 rfl zK zK zK HC ?_;simp only [Za,Zb,Zc];apply Exists.intro;refine ⟨fun u hu => ?_,?_⟩
     ·obtain ⟨s0,s1,s2,s3,s4,s5,s6,sl⟩:=Qa.d7 hu.1.km.s;have o0:=hu.2.1;have ol:=hu.2.2;exact Qi
     refine Vc (g:=4) 18 rfl zK zK zK HC ?_;simp only [Za,Zb,Zc];apply Exists.intro;refine ⟨fun u hu => ?_,?_⟩
     ·obtain ⟨s0,s1,s2,s3,s4,s5,s6,sl⟩:=Qa.d7 hu.1.km.s;have o0:=hu.2.1;have ol:=hu.2.2;exact Qi
     refine Qh 19 ?_;go_wp2;obtain ⟨bn,wb,hbq,hwb,HN,_,hx,gp⟩:=Qm HC.1.e 4 (Array.replicate ni (.bool false));have hnf : 0 < ni → bn ≠ bf:=fun h => by have:=HC.1.f.lt h;omega
     have hln : 0 < ni → W0.heap.size ≤ bn:=fun _ => gp
     have q1:=AO2.lt hno0;have q2:=AI2.lt hni0;rw [← hbq] at q1 q2;rw [← hbq,← hwb];have AN : Qw wb 4 (some ⟨bn,0,none⟩) ni bn (fun x => .bool ((fun _ => false : Bl) x)):=⟨fun _ => rfl,fun _ => ⟨_,HN,by simp,fun k hk => by simp [hk]⟩⟩;replace HC:=And.intro (HC.1.ext hx) (And.intro ((hx.cell (p:=⟨bo,j,none⟩) HC.2.2).trans HC.2.1) (Nat.lt_of_lt_of_le HC.2.2 hx.size));replace hF:=hF.ext hx;replace AO2:=AO2.ext hx;replace AI2:=AI2.ext hx;clear hbq hwb hx HN gp;refine Qe HC ?_;refine Ql 20 ?_;go_wp2_with (go_at_call 127;refine zc (Bb W0 bm bs (.slice Vo no co) (.slice Vi ni ci) (.slice Y no cY) (some ⟨bo,0,none⟩) (some ⟨bi,0,none⟩) (some ⟨bf,0,none⟩) no ni cO cI cX bo bi bf mS (Qn fx k true) hadj hY hms ni _ (fun _ => false) j _ _ bn cj (Hi ni _) HC.1 AN hnf hln) ?_;rintro e w6 ⟨rfl,M6,F6,sn3,N6,hb3⟩)
     replace hF:=hF.fr F6 HC.1.o HC.1.i AN;refine Qk ?_;refine Jf (g:=1) [21] ?_
     constructor
     refine ⟨fun u hu => ?_,?_⟩
     ·exact Qi
     refine Ql 22 ?_;go_wp2;refine Qk ?_;refine Qr ?_;replace M6 : MS W0 w6 bm bs (.slice Vo no co) (.slice Vi ni ci) (.slice Y no cY) (some ⟨bo,0,none⟩) (some ⟨bi,0,none⟩) (some ⟨bf,0,none⟩) no ni cO cI cX bo bi bf ((Zl adj ni mS (Qn fx k true) j).1.getD mS) (Qn fx k true):=M6
     replace AO2:=AO2.fr F6 (fun _ hs => by
      rcases hs with ⟨_,e⟩ | ⟨_,e | e⟩
      ·exact a1.2.1 e
      ·exact a1.2.2 e
      ·omega)
     replace AI2:=AI2.fr F6 (fun _ hs => by
      rcases hs with ⟨_,e⟩ | ⟨_,e | e⟩
      ·exact a2.2.1 e
      ·exact a2.2.2.1 e
      ·omega)
     clear F6 N6 hb3 sn3 AN q1 q2 HC;go_wp2;refine ⟨⟨j + 1,(Zl adj ni mS (Qn fx k true) j).1,Qb,by go_num,rfl,M6,hF,AO2,AI2,zh fun e => ?_,zh fun m' e => ?_⟩,zi⟩
     ·have h:=h1.out;rw [e] at h;exact h
     ·have h:=h1.out;rw [e] at h;exact h.symm
structure Rg (no ni : Nat) (m : Mt) : Prop where
 i : ∀ x,x < ni → 0 ≤ m.1 x → (m.1 x).toNat < no
 o : ∀ x,x < no → 0 ≤ m.2 x → (m.2 x).toNat < ni
section
variable {no ni : Nat} {adj : Nat → List Nat}
theorem Rg.set {m : Mt} (h : Rg no ni m) {i k : Nat} (hi : i < no) (hk : k < ni) : Rg no ni (Xv m k i):=by
 refine ⟨fun x hx h0 => ?_,fun x hx h0 => ?_⟩
 ·have h0 : 0 ≤ Qn m.1 k i x:=h0
  show (Qn m.1 k i x).toNat < no
  by_cases e : x = k
  ·subst e;rw [Ju];simpa using hi
  ·rw [Z6 _ _ e] at h0 ⊢;exact h.i x hx h0
 ·have h0 : 0 ≤ Qn m.2 i k x:=h0
  show (Qn m.2 i k x).toNat < ni
  by_cases e : x = i
  ·subst e;rw [Ju];simpa using hk
  ·rw [Z6 _ _ e] at h0 ⊢;exact h.o x hx h0
theorem Rr {rec : Mt → Bl → Nat → Option Mt × Bl} (hrec : ∀ m b p m',Rg no ni m → p < no → (rec m b p).1 = some m' → Rg no ni m') {i : Nat} (hi : i < no) : ∀ (l : List Nat),(∀ k ∈ l,k < ni) → ∀ m b m',Rg no ni m → (Z2 rec i l m b).1 = some m' → Rg no ni m'
 | [],_,_,_,_,_,h => by cases h
 | k :: r,hl,m,b,m',hm,h => by
  have hk:=hl k (List.mem_cons_self ..);have hr:=fun x hx => hl x (List.mem_cons_of_mem _ hx)
  unfold Z2 at h
  split at h
  ·exact Rr hrec hi r hr m b m' hm h
  ·split at h
   ·injection h with h;subst h;exact hm.set hi hk
   ·rename_i h1 h2
    cases e : rec m (Qn b k true) (m.1 k).toNat with
    | mk ro b' =>
     rw [e] at h;have hp:=hm.i k hk Qb
     cases ro with
     | none => exact Rr hrec hi r hr m b' m' hm h
     | some m1 =>
      injection h with h;subst h
      exact (hrec m _ _ m1 hm hp (by rw [e])).set hi hk
theorem Rs (hadj : ∀ o,∀ k ∈ adj o,k < ni) : ∀ (n : Nat) m b i m',Rg no ni m → i < no → (Zl adj n m b i).1 = some m' → Rg no ni m'
 | 0,_,_,_,_,_,_,h => by cases h
 | n + 1,m,b,i,m',hm,hi,h => Rr (fun m b p m' h1 h2 h3 => Rs hadj n m b p m' h1 h2 h3) hi (adj i) (hadj i) m b m' hm h
theorem Tu (hadj : ∀ o,∀ k ∈ adj o,k < ni) (fx : Bl) : ∀ (n s : Nat) m,s + n ≤ no → Rg no ni m → Rg no ni (Yx adj ni fx n s m).1
 | 0,_,_,_,hm => hm
 | n + 1,s,m,hs,hm => by
  unfold Yx
  cases e : (Zl adj ni m fx s).1 with
  | none => exact Tu hadj fx n (s + 1) m Qb hm
  | some m' => exact Tu hadj fx n (s + 1) m' Qb (Rs hadj ni m fx s m' hm Qb e)
theorem Qjh : Rg no ni Ur:=⟨fun _ _ h => by have h : (0 : Int) ≤ -1:=h;omega,fun _ _ h => by have h : (0 : Int) ≤ -1:=h;omega⟩
theorem Qbz {m : Mt} (h : Rg no ni m) {i k : Nat} (hi : i < no) (hk : k < ni) : Rg no ni (Xb m i k):=by
 refine ⟨Qby hi h.i,fun x hx h0 => ?_⟩;have h0 : 0 ≤ Qn (if 0 ≤ m.1 k then Qn m.2 (m.1 k).toNat (-1) else m.2) i k x:=h0
 show (Qn (if 0 ≤ m.1 k then Qn m.2 (m.1 k).toNat (-1) else m.2) i k x).toNat < ni
 by_cases e : x = i
 ·subst e;rw [Ju];simpa using hk
 ·rw [Z6 _ _ e] at h0 ⊢;by_cases c : 0 ≤ m.1 k
  ·rw [if_pos c] at h0 ⊢;by_cases e2 : x = (m.1 k).toNat
   ·subst e2;rw [Ju] at h0;omega
   ·rw [Z6 _ _ e2] at h0 ⊢;exact h.o x hx h0
  ·rw [if_neg c] at h0 ⊢;exact h.o x hx h0
theorem Qlr {m m' : Mt} {fx : Bl} (hadj : ∀ o,∀ k ∈ adj o,k < ni) (h : Rg no ni m) {i k : Nat} (hi : i < no) (hk : k < ni) (e : Wv adj ni no fx m i k = some m') : Rg no ni m':=by
 unfold Wv at e
 split at e
 ·injection e with e;subst e;exact Qbz h hi hk
 ·obtain ⟨j,h1,_,h3⟩:=Qb6 e;exact Rs hadj ni _ _ j m' (Qbz h hi hk) Qb h3
end
def I1 (adj : Nat → List Nat) (ni no n i : Nat) (m : Mt) (fx : Bl) : Option (Nat × Mt × Bl) → List (Nat × Nat)
 | some (k,m',fx') => (i,k) :: Y7 adj ni no n (i + 1) m' fx'
 | none => Y7 adj ni no n (i + 1) m fx
theorem Bt (adj : Nat → List Nat) (ni no n i : Nat) (m : Mt) (fx : Bl) : Y7 adj ni no (n + 1) i m fx = I1 adj ni no n i m fx (Wz adj ni no i (adj i) m fx):=by
 conv => lhs;unfold Y7
 cases Wz adj ni no i (adj i) m fx with
 | none => rfl
 | some p => rfl
theorem Qhd : (Tryz.prog.info? 35).map (fun i => (i.zero,i.size,i.bytes)) = some (some (.agg #[.int .i64 0,.int .i64 0,.int .i64 0,.int .i64 0]),4,32):=by kernel_rfl
def mcl (ro ri : Nat → Rf) (p : Nat × Nat) : List Value:=[.int .i64 (ro p.1).1,.int .i64 (ro p.1).2,.int .i64 (ri p.2).1,.int .i64 (ri p.2).2]
theorem Bq (a b c d : Int) : ∀ u ∈ [Value.int .i64 a,.int .i64 b,.int .i64 c,.int .i64 d],u.oneCell' = true:=by simp [Value.oneCell']
theorem Pb {W W' : World} {base n : Nat} {v : Value} {xs : List Value} (h : W.ownsRow base 35 4 v n xs) (f : FT W W') : W'.ownsRow base 35 4 v n xs:=by
 refine ⟨h.1,?_⟩;rcases h.2 with hn | ⟨g,cap,cur,hv,hb,hg,rest⟩
 ·exact .inl hn
 ·exact .inr ⟨g,cap,cur,hv,hb,f g 35 cur hg (by unfold MT;decide),rest⟩
theorem MS.grown {W0 W W' : World} {bm bs : Nat} {vo vi vy : Value} {O I X : OA} {no ni cO cI cX : Nat} {bo bi bf : Nat} {m : Mt} {fx : Bl} {v : Value} {n : Nat} {xs : List Value} (h : MS W0 W bm bs vo vi vy O I X no ni cO cI cX bo bi bf m fx) (ho : W.ownsRow W0.heap.size 35 4 v n xs) (hg : W.grownBy W' v.ownBlock) : MS W0 W' bm bs vo vi vy O I X no ni cO cI cX bo bi bf m fx :=
 ⟨h.e.grown hg (fun q hq => (Ut ho q hq).1),⟨h.km.p.kept hg (h.km.p.not_row zD ho),h.km.s.kept hg (h.km.s.not_row zD ho)⟩,
  h.o.kept hg (fun hn => by obtain ⟨cs,h1,_⟩:=h.o.h hn;exact h1.not_row zD ho),
  h.i.kept hg (fun hn => by obtain ⟨cs,h1,_⟩:=h.i.h hn;exact h1.not_row zD ho),
  h.f.kept hg (fun hn => by obtain ⟨cs,h1,_⟩:=h.f.h hn;exact h1.not_row zD ho),h.oi,h.lo,h.li,h.lf⟩
set_option maxHeartbeats 40000000 in
theorem Qek {adj : Nat → List Nat} (W0 : World) (bm bs : Nat) (Vo Vi : OA) (co ci : Nat) (vy : Value) (O I X : OA) (no ni cO cI cX bo bi bf : Nat) (m : Mt) (ro ri : Nat → Rf) (hadj : ∀ o,∀ k ∈ adj o,k < ni) (hY : M1 W0 vy no adj) (hVo : Qo W0 Vo no 2 (fun i => [.int .i64 ((ro i).1 : Nat),.int .i64 ((ro i).2 : Nat)])) (hVi : Qo W0 Vi ni 2 (fun i => [.int .i64 ((ri i).1 : Nat),.int .i64 ((ri i).2 : Nat)])) (hno : no ≤ 1000000) (hni : ni ≤ 1000000) (hls : W0.heap.size ≤ bs) (hG : Rg no ni m) (W : World) (hM : MS W0 W bm bs (.slice Vo no co) (.slice Vi ni ci) (vy) O I X no ni cO cI cX bo bi bf m (fun _ => false)) :
  Calls Tryz.prog 81 #[.pointer (some ⟨bs,0,none⟩)] W fun e W' => ∃ v,e = .returned v ∧ Qc W0 W' ∧ W'.ownsRow W0.heap.size 35 4 v (Y7 adj ni no no 0 m (fun _ => false)).length ((Y7 adj ni no no 0 m (fun _ => false)).flatMap (mcl ro ri)):=by
 obtain ⟨Y,cY,vs,rfl,hYr,hYi⟩:=id hY;obtain ⟨RES,hRES⟩:=Qf (Y7 adj ni no no 0 m (fun _ => false));rw [← hRES];replace hRES : Hid ([] ++ Y7 adj ni no (no - 0) 0 m (fun _ => false) = RES):=zh hRES.symm;obtain ⟨i0,hi0,hz0,hz1,hz2⟩:=info_parts Qhd
 go_enter Tryz.func81,Tryz.ntmps81
 obtain ⟨s0,s1,s2,s3,s4,s5,s6,sl⟩:=Qa.d7 hM.km.s;go_upto_region 3 with fail
 clear s0 s1 s2 s3 s4 s5 s6 sl
 go_loopw [3,12] (fun lv iv wr => ∃ (i : Nat) (Qt : List (Nat × Nat)) (m : Mt) (fx : Bl) (O I : OA) (cO cI bo bi : Nat),i ≤ no ∧ Qt.length ≤ i ∧ iv = .int .i64 i ∧ MS W0 wr bm bs (.slice Vo no co) (.slice Vi ni ci) (.slice Y no cY) O I X no ni cO cI cX bo bi bf m fx ∧ wr.ownsRow W0.heap.size 35 4 lv Qt.length (Qt.flatMap (mcl ro ri)) ∧ Rg no ni m ∧ Hid (Qt ++ Y7 adj ni no (no - i) i m fx = RES)) (fun _ iv _ => no - (intOf iv).toNat)
 case atStart => exact ⟨0,[],m,_,_,_,_,_,_,_,Nat.zero_le _,Nat.le_refl _,rfl,hM,⟨rfl,.inl ⟨rfl,rfl⟩⟩,hG,hRES⟩
 case round =>
  clear hM hG hRES;obtain ⟨i,Qt,m,fx,O,I,cO,cI,bo,bi,hi,hpl,rfl,M,hO,hG,hR⟩:=hrel;obtain ⟨wo,rfl⟩:=Qf wr;by_cases hlt : i < no;rotate_left
  ·obtain rfl : i = no:=Qb
   have e : Qt = RES:=by
    have h:=hR.out;rw [Nat.sub_self] at h;rw [← h];exact (List.append_nil _).symm
   subst e;clear hR;go_wp2;go_ret;exact ⟨_,rfl,M.e,hO⟩
  have hno0 : 0 < no:=Qb;obtain ⟨F,mcap,rfl⟩:=Z9 hO;obtain ⟨D,cD,hl6,hv,hDr⟩:=hYi i hlt;obtain ⟨b,off,hYe,hb,hcc⟩:=hYr hno0;subst hYe
  have c0 : W0.cell? ⟨b,off + i,none⟩ = some (.slice D (adj i).length cD):=by
   have:=hcc i 0 (vs i) hlt rfl;rw [hv] at this
   simpa using this
  clear hcc hv;obtain ⟨bv,ov,hVe,hbv,hcv⟩:=hVo hno0;subst hVe;have cv0 : W0.cell? ⟨bv,ov + i * 2,none⟩ = some (.int .i64 ((ro i).1 : Nat)):=by simpa using hcv i 0 _ hlt rfl
  have cv1 : W0.cell? ⟨bv,ov + i * 2 + 1,none⟩ = some (.int .i64 ((ro i).2 : Nat)):=by simpa using hcv i 1 _ hlt rfl
  clear hcv;obtain ⟨la,hla⟩:=Qf ((adj i).length);rw [← hla] at c0 hDr hl6;obtain ⟨RK,hRK⟩:=Qf (Wz adj ni no i (adj i) m fx)
  have hR1 : Qt ++ I1 adj ni no (no - (i + 1)) i m fx RK = RES:=by
   have h:=hR.out;rw [show no - i = (no - (i + 1)) + 1 by omega,Bt] at h;rw [hRK];exact h
  replace hla:=zh hla;replace hRK : Hid (Wz adj ni no i ((adj i).drop 0) m fx = RK):=zh hRK.symm;replace hR:=zh hR1;clear hR1;have c0o:=(M.e.cell (p:=⟨b,off + i,none⟩) hb).trans c0;have hbo:=Nat.lt_of_lt_of_le hb M.e.size;obtain ⟨s0,s1,s2,s3,s4,s5,s6,sl⟩:=Qa.d7 M.km.s;go_upto_region 6 with fail
  clear c0o hbo c0 s0 s1 s2 s3 s4 s5 s6 sl
  go_loopw [3,23] (fun lv tv wr => ∃ (t : Nat) (O I : OA) (cO cI bo bi : Nat),lv = .slice F Qt.length mcap ∧ t ≤ la ∧ tv = .int .i64 t ∧ MS W0 wr bm bs (.slice (some ⟨bv,ov,none⟩) no co) (.slice Vi ni ci) (.slice (some ⟨b,off,none⟩) no cY) O I X no ni cO cI cX bo bi bf m fx ∧ wr.ownsRow W0.heap.size 35 4 (.slice F Qt.length mcap) Qt.length (Qt.flatMap (mcl ro ri)) ∧ Hid (Wz adj ni no i ((adj i).drop t) m fx = RK)) (fun _ tv _ => la - (intOf tv).toNat)
  case atStart => exact ⟨0,_,_,_,_,_,_,rfl,Nat.zero_le _,rfl,M,hO,hRK⟩
  case round =>
   clear M hO hRK;obtain ⟨t,O,I,cO,cI,bo,bi,rfl,ht,rfl,M,hO,hRK⟩:=hrel;obtain ⟨w1,rfl⟩:=Qf wr;by_cases hlt2 : t < la;rotate_left
   ·obtain rfl : t = la:=Qb
    have e : RK = none:=by
     have h:=hRK.out;rw [hla.out,List.drop_length] at h;exact h.symm
    subst e;clear hRK;go_wp2;exact ⟨⟨i + 1,Qt,m,fx,_,_,_,_,_,_,Qb,Qb,by go_num,M,hO,hG,hR⟩,zi⟩
   obtain ⟨bd,od,rfl,hbd,hcd⟩:=(hDr.ext M.e) Qb;obtain ⟨k,hk⟩:=Qf ((adj i).getD t 0)
   have d0 : w1.cell? ⟨bd,od + t,none⟩ = some (.int .i64 (k : Int)):=by
    have:=hcd t 0 (.int .i64 (((adj i).getD t 0 : Nat) : Int)) hlt2 rfl;rw [← hk] at this
    simpa using this
   clear hcd;have hkn : k < ni:=hadj i k (by rw [hk];exact Y9 (by rw [← hla.out];exact hlt2));have hdr:=Ti (l:=adj i) (t:=t) (by rw [← hla.out];exact hlt2);rw [← hk] at hdr;clear hk;have hni0 : 0 < ni:=Qb;obtain ⟨bu,ou,hUe,hbu,hcu⟩:=hVi hni0;have cu0 : W0.cell? ⟨bu,ou + k * 2,none⟩ = some (.int .i64 ((ri k).1 : Nat)):=by simpa using hcu k 0 _ hkn rfl
   have cu1 : W0.cell? ⟨bu,ou + k * 2 + 1,none⟩ = some (.int .i64 ((ri k).2 : Nat)):=by simpa using hcu k 1 _ hkn rfl
   clear hcu;subst hUe;have hXe:=M.f.a hni0;have hIe:=M.i.a hni0;have hOe:=M.o.a hno0;subst hXe;subst hIe;subst hOe;have x0:=M.f.cell hkn;have xl:=M.f.lt hni0;have o0:=M.o.cell hlt;have ol:=M.o.lt hno0;replace hRK:=hRK.out;rw [hdr] at hRK;unfold Wz at hRK;clear hdr;obtain ⟨s0,s1,s2,s3,s4,s5,s6,sl⟩:=Qa.d7 M.km.s;cases hf : fx k
   rotate_left
   ·rw [hf] at x0 hRK;replace hRK:=zh hRK;go_wp2;exact ⟨⟨t + 1,_,_,_,_,_,_,rfl,Qb,by go_num,M,hO,hRK⟩,zi⟩
   rw [hf] at x0 hRK;replace hRK : (if m.2 i = (k : Int) then some (k,m,Qn fx k true) else match Wv adj ni no fx m i k with | some m' => some (k,m',Qn fx k true) | none => Wz adj ni no i ((adj i).drop (t + 1)) m fx) = RK:=hRK;by_cases ge : m.2 i = (k : Int)
   ·have ge1 : (m.2 i == (k : Int)) = true:=beq_iff_eq.2 ge;rw [if_pos ge] at hRK;replace hRK : RK = some (k,m,Qn fx k true):=hRK.symm;subst hRK;replace hR : Hid (Qt ++ (i,k) :: Y7 adj ni no (no - (i + 1)) (i + 1) m (Qn fx k true) = RES):=hR;clear ge;have fz:=M.f.frozen hni0 k;go_upto_region 12 with fail
    have hF:=(FT.refl w1).setA M.f hni0 K9 k (.bool true);have HC:=M.setF hkn true;replace hO:=Pb hO hF;clear fz x0 xl o0 ol d0 hbd M hF;generalize World.setCell _ _ _ = wq at *;clear s0 s1 s2 s3 s4 s5 s6 sl;refine Qy 19 [18] (fun x => MS W0 x bm bs (.slice (some ⟨bv,ov,none⟩) no co) (.slice (some ⟨bu,ou,none⟩) ni ci) (.slice (some ⟨b,off,none⟩) no cY) (some ⟨bo,0,none⟩) (some ⟨bi,0,none⟩) (some ⟨bf,0,none⟩) no ni cO cI cX bo bi bf m (Qn fx k true)) mixed rfl ?_;intro vz hvz;replace HC:=HC.ext hvz;replace hO:=Yi hO hvz;refine Qj (g:=3) [0,1,2,3,4,5,6,7,8,9,10,11,12,13,14,15] HC ?_
    constructor
    refine ⟨fun u hu => ?_,?_⟩
    ·obtain ⟨s0,s1,s2,s3,s4,s5,s6,sl⟩:=Qa.d7 hu.km.s;have y0:=(hu.e.cell (p:=⟨bv,ov + i * 2,none⟩) hbv).trans cv0;have y1:=(hu.e.cell (p:=⟨bv,ov + i * 2 + 1,none⟩) hbv).trans cv1;have z0:=(hu.e.cell (p:=⟨bu,ou + k * 2,none⟩) hbu).trans cu0;have z1:=(hu.e.cell (p:=⟨bu,ou + k * 2 + 1,none⟩) hbu).trans cu1;have yl:=Nat.lt_of_lt_of_le hbv hu.e.size;have zl:=Nat.lt_of_lt_of_le hbu hu.e.size;exact Qi
    refine Qh 16 ?_;go_wp2;obtain ⟨bq,wb,hbq,hwb,Q6,_,hx,hge⟩:=Qm HC.e 35 #[.int .i64 (ro i).1,.int .i64 (ro i).2,.int .i64 (ri k).1,.int .i64 (ri k).2];rw [← hbq,← hwb];clear hbq hwb;replace HC:=HC.ext hx;replace hO:=Yi hO hx;clear hx;refine Qe HC ?_;refine Qh 17 ?_;go_wp2_with (at_builtin;refine wpList_append_own_at _ rfl _ _ 28 rfl W0.heap.size 35 i0 (.agg #[.int .i64 0,.int .i64 0,.int .i64 0,.int .i64 0]) 4 32 Tryz.underlying28 hi0 hz0 hz1 hz2 rfl zD _ _ _ rfl hO ⟨bq,0,none⟩ 1 1 [.int .i64 (ro i).1,.int .i64 (ro i).2,.int .i64 (ri k).1,.int .i64 (ri k).2] rfl rfl (K5 Q6) (Bq _ _ _ _) (by unfold maxLen;omega) Qb HC.e.size ?_;intro vn wn hown hgrow _ _)
    replace HC:=HC.grown hO hgrow;clear hgrow Q6;refine Qe HC ?_;refine Ql 18 ?_;go_wp2;refine Qk ?_;refine Qr ?_
    have hR2 : Hid ((Qt ++ [(i,k)]) ++ Y7 adj ni no (no - (i + 1)) (i + 1) m (Qn fx k true) = RES):=by
     have h:=hR.out;rw [List.append_assoc];exact h
    have hown2 : wn.ownsRow W0.heap.size 35 4 vn (Qt ++ [(i,k)]).length ((Qt ++ [(i,k)]).flatMap (mcl ro ri)):=by
     rw [List.length_append,List.flatMap_append];exact hown
    clear hown hO hR;go_wp2;exact ⟨⟨i + 1,Qt ++ [(i,k)],_,_,_,_,_,_,_,_,Qb,by rw [List.length_append];show Qt.length + 1 ≤ i + 1;omega,by go_num,HC,hown2,hG,hR2⟩,zi⟩
   have ge1 : (m.2 i == (k : Int)) = false:=zb ge;rw [if_neg ge] at hRK;clear ge;have NS:=Qlq W0 bm bs (some ⟨bv,ov,none⟩) (some ⟨bu,ou,none⟩) co ci (.slice (some ⟨b,off,none⟩) no cY) (some ⟨bo,0,none⟩) (some ⟨bi,0,none⟩) (some ⟨bf,0,none⟩) no ni cO cI cX bo bi bf m fx i k hadj hY hlt hkn hno hni hls hf hG.i hG.o w1 M;go_upto_region 11 with fail
   cases es : Wv adj ni no fx m i k with
   | none =>
    rw [es] at NS hRK;replace hRK : Hid (Wz adj ni no i ((adj i).drop (t + 1)) m fx = RK):=hRK;simp only [Option.isSome,Option.getD] at NS;go_upto_region 13 with (go_at_call 128;(with_reducible refine Calls.mono NS ?_);rintro e w3 ⟨rfl,hF,O,I,cO,cI,bo,bi,HC⟩)
    replace HC : MS W0 w3 bm bs (.slice (some ⟨bv,ov,none⟩) no co) (.slice (some ⟨bu,ou,none⟩) ni ci) (.slice (some ⟨b,off,none⟩) no cY) O I (some ⟨bf,0,none⟩) no ni cO cI cX bo bi bf m fx:=HC;replace hO:=Pb hO hF;clear NS hF x0 xl o0 ol d0 hbd M es;go_wp2
    exact ⟨⟨t + 1,_,_,_,_,_,_,rfl,Qb,by go_num,HC,hO,hRK⟩,zi⟩
   | some m' =>
    rw [es] at NS hRK;replace hRK : RK = some (k,m',Qn fx k true):=hRK.symm;subst hRK;replace hR : Hid (Qt ++ (i,k) :: Y7 adj ni no (no - (i + 1)) (i + 1) m' (Qn fx k true) = RES):=hR;have hG2:=Qlr hadj hG hlt hkn es;simp only [Option.isSome,Option.getD] at NS;go_upto_region 12 with (go_at_call 128;(with_reducible refine Calls.mono NS ?_);rintro e w3 ⟨rfl,hF,O,I,cO,cI,bo,bi,HC⟩)
    replace HC : MS W0 w3 bm bs (.slice (some ⟨bv,ov,none⟩) no co) (.slice (some ⟨bu,ou,none⟩) ni ci) (.slice (some ⟨b,off,none⟩) no cY) O I (some ⟨bf,0,none⟩) no ni cO cI cX bo bi bf m' (Qn fx k true):=HC;replace hO:=Pb hO hF;clear NS hF x0 xl o0 ol d0 hbd M es;have hOe:=HC.o.a hno0;have hIe:=HC.i.a hni0;subst hOe;subst hIe;clear s0 s1 s2 s3 s4 s5 s6 sl;refine Qy 19 [18] (fun x => MS W0 x bm bs (.slice (some ⟨bv,ov,none⟩) no co) (.slice (some ⟨bu,ou,none⟩) ni ci) (.slice (some ⟨b,off,none⟩) no cY) (some ⟨bo,0,none⟩) (some ⟨bi,0,none⟩) (some ⟨bf,0,none⟩) no ni cO cI cX bo bi bf m' (Qn fx k true)) mixed rfl ?_;intro vz hvz;replace HC:=HC.ext hvz;replace hO:=Yi hO hvz
    refine Qj (g:=3) [0,1,2,3,4,5,6,7,8,9,10,11,12,13,14,15] HC ?_
    constructor
    refine ⟨fun u hu => ?_,?_⟩
    ·obtain ⟨s0,s1,s2,s3,s4,s5,s6,sl⟩:=Qa.d7 hu.km.s;have y0:=(hu.e.cell (p:=⟨bv,ov + i * 2,none⟩) hbv).trans cv0;have y1:=(hu.e.cell (p:=⟨bv,ov + i * 2 + 1,none⟩) hbv).trans cv1;have z0:=(hu.e.cell (p:=⟨bu,ou + k * 2,none⟩) hbu).trans cu0;have z1:=(hu.e.cell (p:=⟨bu,ou + k * 2 + 1,none⟩) hbu).trans cu1;have yl:=Nat.lt_of_lt_of_le hbv hu.e.size;have zl:=Nat.lt_of_lt_of_le hbu hu.e.size;exact Qi
    refine Qh 16 ?_;go_wp2;obtain ⟨bq,wb,hbq,hwb,Q6,_,hx,hge⟩:=Qm HC.e 35 #[.int .i64 (ro i).1,.int .i64 (ro i).2,.int .i64 (ri k).1,.int .i64 (ri k).2];rw [← hbq,← hwb];clear hbq hwb;replace HC:=HC.ext hx;replace hO:=Yi hO hx;clear hx;refine Qe HC ?_;refine Qh 17 ?_;go_wp2_with (at_builtin;refine wpList_append_own_at _ rfl _ _ 28 rfl W0.heap.size 35 i0 (.agg #[.int .i64 0,.int .i64 0,.int .i64 0,.int .i64 0]) 4 32 Tryz.underlying28 hi0 hz0 hz1 hz2 rfl zD _ _ _ rfl hO ⟨bq,0,none⟩ 1 1 [.int .i64 (ro i).1,.int .i64 (ro i).2,.int .i64 (ri k).1,.int .i64 (ri k).2] rfl rfl (K5 Q6) (Bq _ _ _ _) (by unfold maxLen;omega) Qb HC.e.size ?_;intro vn wn hown hgrow _ _)
    replace HC:=HC.grown hO hgrow;clear hgrow Q6;refine Qe HC ?_;refine Ql 18 ?_;go_wp2;refine Qk ?_;refine Qr ?_
    have hR2 : Hid ((Qt ++ [(i,k)]) ++ Y7 adj ni no (no - (i + 1)) (i + 1) m' (Qn fx k true) = RES):=by
     have h:=hR.out;rw [List.append_assoc];exact h
    have hown2 : wn.ownsRow W0.heap.size 35 4 vn (Qt ++ [(i,k)]).length ((Qt ++ [(i,k)]).flatMap (mcl ro ri)):=by
     rw [List.length_append,List.flatMap_append];exact hown
    clear hown hO hR;go_wp2;exact ⟨⟨i + 1,Qt ++ [(i,k)],_,_,_,_,_,_,_,_,Qb,by rw [List.length_append];show Qt.length + 1 ≤ i + 1;omega,by go_num,HC,hown2,hG2,hR2⟩,zi⟩
def Ub (r : Rf) : List Value:=[.int .i64 r.1,.int .i64 r.2]
theorem Qhf : (Tryz.prog.info? 33).map (fun i => (i.zero,i.size,i.bytes)) = some (some (.agg #[.int .i64 0,.int .i64 0]),2,16):=by kernel_rfl
theorem Bs (a b : Int) : ∀ u ∈ [Value.int .i64 a,.int .i64 b],u.oneCell' = true:=by simp [Value.oneCell']
structure Xq (wE wr : World) (Lo Li : List Rf) (x y : Value) : Prop where
 e : Qc wE wr
 a : wr.ownsRow wE.heap.size 33 2 x Lo.length (Lo.flatMap Ub)
 b : wr.ownsRow wE.heap.size 33 2 y Li.length (Li.flatMap Ub)
 ne : ∀ q,x.ownBlock = some q → y.ownBlock ≠ some q
namespace Xq
variable {wE wr w1 : World} {Lo Li : List Rf} {x y x' y' : Value}
theorem zero (w : World) : Xq w w [] [] (.slice none 0 0) (.slice none 0 0):=⟨Qc.refl _,⟨rfl,.inl ⟨rfl,rfl⟩⟩,⟨rfl,.inl ⟨rfl,rfl⟩⟩,fun q h => by cases h⟩
theorem ext (h : Xq wE wr Lo Li x y) (k : Qc wr w1) : Xq wE w1 Lo Li x y:=⟨h.e.trans k,Yi h.a k,Yi h.b k,h.ne⟩
theorem fst (h : Xq wE wr Lo Li x y) {r : Rf} (hown : w1.ownsRow wE.heap.size 33 2 x' (Lo.length + 1) (Lo.flatMap Ub ++ Ub r)) (hg : wr.grownBy w1 x.ownBlock)
  (hb : x'.ownBlock = x.ownBlock ∨ x'.ownBlock = some wr.heap.size) : Xq wE w1 (Lo ++ [r]) Li x' y:=by
 refine ⟨h.e.grown hg (fun q hq => (h.a.lt q hq).1),by rw [List.length_append,List.flatMap_append];simpa using hown,h.b.kept hg ?_,fun q hq => ?_⟩
 ·cases hx : x.ownBlock with
  | none => cases hy : y.ownBlock with
   | none => exact .inl rfl
   | some r => exact .inr (fun e => by cases e)
  | some q => exact .inr (h.ne q hx)
 ·rcases hb with hb | hb
  ·exact h.ne q (hb ▸ hq)
  ·intro hy;rw [hb] at hq;have:=(h.b.lt q hy).2;have e:=Option.some.inj hq;omega
theorem snd (h : Xq wE wr Lo Li x y) {r : Rf} (hown : w1.ownsRow wE.heap.size 33 2 y' (Li.length + 1) (Li.flatMap Ub ++ Ub r)) (hg : wr.grownBy w1 y.ownBlock)
  (hb : y'.ownBlock = y.ownBlock ∨ y'.ownBlock = some wr.heap.size) : Xq wE w1 Lo (Li ++ [r]) x y':=by
 refine ⟨h.e.grown hg (fun q hq => (h.b.lt q hq).1),h.a.kept hg ?_,by rw [List.length_append,List.flatMap_append];simpa using hown,fun q hq => ?_⟩
 ·cases hx : x.ownBlock with
  | none => exact .inl rfl
  | some q => exact .inr (fun e => h.ne q hx e.symm)
 ·rcases hb with hb | hb
  ·rw [hb];exact h.ne q hq
  ·rw [hb];intro e;have:=(h.a.lt q hq).2;have e:=Option.some.inj e;omega
end Xq
theorem Qa4 : ∀ (L : List Rf) (i j : Nat),i < L.length → j < 2 → (L.flatMap Ub)[i * 2 + j]? = (Ub (L.getD i Q5))[j]?
 | r :: L,0,j,_,hj => by
  match j,hj with
  | 0,_ => simp [Ub]
  | 1,_ => simp [Ub]
 | r :: L,i + 1,j,h,hj => by
  have hl : (Ub r).length = 2:=rfl;rw [List.flatMap_cons,List.getElem?_append_right Qb,hl,show (i + 1) * 2 + j - 2 = i * 2 + j by omega,Qa4 L i j (by simpa using h) hj];rfl
theorem Mu {w : World} {base : Nat} {v : Value} {L : List Rf} (h : w.ownsRow base 33 2 v L.length (L.flatMap Ub)) : ∃ F c,v = .slice F L.length c ∧ Qo w F L.length 2 (fun i => [.int .i64 ((L.getD i Q5).1 : Nat),.int .i64 ((L.getD i Q5).2 : Nat)]):=by
 rcases h.2 with ⟨rfl,h0⟩ | ⟨q,cap,cur,rfl,hb,hq,hn,hm,_⟩
 ·exact ⟨none,0,by rw [h0],fun hp => by omega⟩
 ·refine ⟨_,_,rfl,fun _ => ⟨q,0,rfl,(Array.getElem?_eq_some_iff.1 hq).1,fun i j v hi hv => ?_⟩⟩;have hj : j < 2:=(List.getElem?_eq_some_iff.1 hv).1;have hlt : i * 2 + j < L.length * 2:=Qb;rw [Nat.zero_add,World.ownsRow.cellAt h (i * 2 + j) hlt,Qa4 L i j hi hj];exact hv
theorem Qhg : (Tryz.prog.info? 125).map (fun i => (i.zero,i.size,i.bytes)) = some (some (.slice none 0 0),1,24):=by kernel_rfl
theorem Qip (n : Nat) (hn : n ≤ 1000000) (w : World) : (Instr.makeSlice 164 (.int .i64 (n : Int)) (.int .i64 (n : Int))).run Tryz.prog w = .ok (.slice (some ⟨w.heap.size,0,none⟩) n n) (w.alloc (.cells (Array.replicate n (.slice none 0 0)) 125)):=by
 obtain ⟨i0,hi,hz0,hz1,hz2⟩:=info_parts Qhg;have h:=Po (P:=Tryz.prog) 164 125 i0 _ Tryz.underlying164 hi hz0 .i64 .i64 n (by rw [hz2];omega) Qb w;rw [hz1] at h;rw [h];exact congrArg _ (Sq n w rfl)
theorem Qal {W : World} {b b' n s : Nat} {e : TypeId} {v : Value} {xs : List Value} (h : W.ownsRow b e s v n xs) (hb : b' ≤ b) : W.ownsRow b' e s v n xs:=by
 refine ⟨h.1,?_⟩;rcases h.2 with hn | ⟨g,cap,cur,hv,h1,rest⟩
 ·exact .inl hn
 ·exact .inr ⟨g,cap,cur,hv,Nat.le_trans hb h1,rest⟩
def FM (W W' : World) : Prop:=∀ b t (cs : Array Value),Qa W b t cs → t ≠ 125 → Qa W' b t cs
theorem FM.refl (W : World) : FM W W:=fun _ _ _ h _ => h
theorem FM.ext {W W1 W2 : World} (h : FM W W1) (x : Qc W1 W2) : FM W W2:=fun b t cs hb ht => (h b t cs hb ht).ext x
theorem FM.set {W W1 : World} {b : Nat} {cs : Array Value} (h : FM W W1) (hb : Qa W1 b 125 cs) (j : Nat) (u : Value) : FM W (W1.setCell ⟨b,j,none⟩ u):=fun b' t' cs' hb' ht' => Wg (h b' t' cs' hb' ht') (Xd (h b' t' cs' hb' ht') hb ht') j u
theorem FM.grown {W W1 W2 : World} {v : Value} {e : TypeId} {s n : Nat} {xs : List Value} (h : FM W W1) (ho : W1.ownsRow W.heap.size e s v n xs) (hg : W1.grownBy W2 v.ownBlock) : FM W W2:=fun b t cs hb ht => (h b t cs hb ht).kept hg (fun e => by have:=(Ut ho b e.symm).1;have:=hb.lt;omega)
theorem Qam {W W' : World} {base n s : Nat} {e : TypeId} {v : Value} {xs : List Value} (h : W.ownsRow base e s v n xs) (he : e ≠ 125) (f : FM W W') : W'.ownsRow base e s v n xs:=by
 refine ⟨h.1,?_⟩;rcases h.2 with hn | ⟨g,cap,cur,hv,hb,hg,rest⟩
 ·exact .inl hn
 ·exact .inr ⟨g,cap,cur,hv,hb,f g e cur hg he,rest⟩
theorem Xq.fm {wE wr w1 : World} {Lo Li : List Rf} {x y : Value} (h : Xq wE wr Lo Li x y) (f : FM wr w1) (e : Qc wE w1) : Xq wE w1 Lo Li x y:=⟨e,Qam h.a zD f,Qam h.b zD f,h.ne⟩
def Ku (W : World) (v : Value) (xs : List Nat) : Prop:=∃ D cd bD,v = .slice D xs.length cd ∧ Qw W 3 D xs.length bD (fun k => .int .i64 ((xs.getD k 0 : Nat) : Int))
theorem Ku.fm {W W' : World} {v : Value} {xs : List Nat} (h : Ku W v xs) (f : FM W W') : Ku W' v xs:=by
 obtain ⟨D,cd,bD,e,ha⟩:=h;refine ⟨D,cd,bD,e,ha.a,fun hn => ?_⟩;obtain ⟨cs,h1,h2⟩:=ha.h hn;exact ⟨cs,f _ _ _ h1 zD,h2⟩
theorem G6 (p : Pd) (b : Bool) (i : Nat) : ∀ n,(Xi p b i n).length ≤ n
 | 0 => Nat.le_refl _
 | n + 1 => by
  have:=G6 p b i n;unfold Xi;rw [List.length_append]
  split <;> simp <;> omega
theorem Mr {l : List Pd} (b : Bool) {m : Nat} (hm : ∀ i,i < l.length → (l.getD i Qs).d.length ≤ m) : ∀ n,n ≤ l.length → (Xh l b n).length ≤ n * m
 | 0,_ => by simp [Xh]
 | n + 1,hn => by
  have h1:=Mr b hm n Qb;have h2:=G6 (l.getD n Qs) b n (l.getD n Qs).d.length;have h3:=hm n Qb;unfold Xh;rw [List.length_append,Nat.succ_mul];omega
theorem Qbb {p : Pd} {b : Bool} {i n : Nat} (h : (p.d.getD n Qv).i = b) : Xi p b i (n + 1) = Xi p b i n ++ [(i,n)]:=by
 conv => lhs;unfold Xi
 rw [if_pos h]
theorem Qba {p : Pd} {b : Bool} {i n : Nat} (h : (p.d.getD n Qv).i ≠ b) : Xi p b i (n + 1) = Xi p b i n:=by
 conv => lhs;unfold Xi
 rw [if_neg h,List.append_nil]
theorem Ic (A A' : OA) (ca cb : Nat) (c : Qd) (l : List Pd) (vl : Value) (ba : Nat) (days : Int) (w : World) (hA : V3 w ba A A' ca cb c vl l) (hv : c.valid = true) (hb1 : l.length ≤ 1000) (hb2 : ∀ i,i < l.length → (l.getD i Qs).d.length ≤ 1000) :
  Calls Tryz.prog 35 #[.pointer (some ⟨ba,0,none⟩),.int .i64 days] w fun e w' => ∃ v,e = .returned v ∧ Qc w w' ∧ w'.ownsRow w.heap.size 35 4 v (c.matchI l days).length ((c.matchI l days).flatMap (mcl (fun o => (Yj l false).getD o Q5) (fun k => (Yj l true).getD k Q5))):=by
 obtain ⟨i0,hi0,hz0,hz1,hz2⟩:=info_parts Qhf;obtain ⟨j0,hj0,hy3,hy4,hy5⟩:=info_parts Nr;obtain ⟨D,cap,vo,vd,vc,rfl,hD,hcap,hmax,_,hat⟩:=id hA.P;have hn : l.length ≤ 9223372036854775807:=Qb;obtain ⟨g,hg⟩:=Qf (fun i => l.getD i Qs);have hg' : ∀ i,l.getD i Qs = g i:=fun i => by rw [hg]
 simp only [hg'] at hD hat;replace hg':=zh hg';clear hg hcap hmax
 go_enter Tryz.func35,Tryz.ntmps35
 obtain ⟨a0,a1,a2,a3,al⟩:=Qa.d4 hA.b;go_upto_region 3 with fail
 clear a0 a1 a2 a3 al
 go_loopw [5,6,22] (fun ov iv jv wr => ∃ i : Nat,i ≤ l.length ∧ jv = .int .i64 i ∧ Xq w wr (Xh l false i) (Xh l true i) ov iv) (fun _ _ jv _ => l.length - (intOf jv).toNat)
 case atStart => exact ⟨0,Nat.zero_le _,rfl,Xq.zero w⟩
 case round =>
  obtain ⟨i,hi,rfl,T⟩:=hrel;obtain ⟨wo,rfl⟩:=Qf wr;by_cases hlt : i < l.length;rotate_left
  ·obtain rfl : i = l.length := Qb;have hLo := Mr false hb2 l.length (Nat.le_refl _);have hLi := Mr true hb2 l.length (Nat.le_refl _);obtain ⟨Lo, hLoe⟩ := Qf (Yj l false);obtain ⟨Li, hLie⟩ := Qf (Yj l true);have q1 : Xh l false l.length = Lo := by rw [hLoe]; rfl
   have q2 : Xh l true l.length = Li:=by rw [hLie];rfl
   rw [q1] at T hLo;rw [q2] at T hLi;have hno : Lo.length ≤ 1000000:=Qb;have hni : Li.length ≤ 1000000:=Qb;replace hLoe:=zh hLoe;replace hLie:=zh hLie;clear q1 q2 hLo hLi hat hD;obtain ⟨Vo,co,rfl,_⟩:=Mu T.a;obtain ⟨Vi,ci,rfl,_⟩:=Mu T.b;have hmkr:=fun w => Qip Lo.length hno w
   go_upto_region 16 with fail
   clear hmkr;obtain ⟨wy,hwy⟩:=Qf (wo.alloc (.cells (Array.replicate Lo.length (.slice none 0 0)) 125));rw [← hwy];have AY : Qw wy 125 (some ⟨wo.heap.size,0,none⟩) Lo.length wo.heap.size (fun _ => .slice none 0 0):=by rw [hwy];exact Qdf wo _ _ _
   have x1 : Qc wo wy:=by rw [hwy];exact (Qc.refl wo).alloc _
   have T2:=T.ext x1;have hwb:=T.e.size;generalize wo.heap.size = bY at *;clear hwy T x1
   go_loopw [55] (fun jv wr => ∃ (i : Nat) (rv : Nat → Value),i ≤ Lo.length ∧ jv = .int .i64 i ∧ Xq w wr Lo Li (.slice Vo Lo.length co) (.slice Vi Li.length ci) ∧ Qw wr 125 (some ⟨bY,0,none⟩) Lo.length bY rv ∧ (∀ x,x < i → Ku wr (rv x) (c.adjA l days x)) ∧ ∀ x,i ≤ x → rv x = .slice none 0 0) (fun jv _ => Lo.length - (intOf jv).toNat)
   case atStart => exact ⟨0,_,Nat.zero_le _,rfl,T2,AY,fun x hx => absurd hx Qb,fun _ _ => rfl⟩
   case round =>
    clear T2 AY;obtain ⟨i,rv,hi,rfl,T,AY,hrow,hnil⟩:=hrel;obtain ⟨wo,rfl⟩:=Qf wr;by_cases hlt : i < Lo.length;rotate_left
    ·obtain rfl : i = Lo.length:=Qb;obtain ⟨F,cF,e,RO⟩:=Mu T.a;injection e with e1 _ e3
     subst e1;subst e3;obtain ⟨F2,cF2,e',RI⟩:=Mu T.b;injection e' with e1 _ e3
     subst e1;subst e3;have hadj:=Qc3 c l days;rw [← hLie.out] at hadj
     have hY : M1 wo (.slice (some ⟨bY,0,none⟩) Lo.length Lo.length) Lo.length (c.adjA l days):=⟨_,_,rv,rfl,Nf AY,fun x hx => by
      obtain ⟨D,cd,bD,e,ha⟩:=hrow x hx;refine ⟨D,cd,Nat.le_trans ?_ hni,e,Nf ha⟩;unfold Qd.adjA;rw [← hLie.out];exact Nat.le_trans (List.length_filter_le _ _) (by simp)⟩
     have N1:=fun Vo Vi co ci => Qjg Vo Vi Lo.length Li.length co ci _ wo hadj hY hno hni
     have hG:=Tu (no:=Lo.length) hadj (fun _ => false) Lo.length 0 Ur Qb Qjh;have N2:=fun bm bs Vo Vi co ci O I X cO cI cX bo bi bf h1 h2 (h : wo.heap.size ≤ bs) W hM => Qek wo bm bs Vo Vi co ci _ O I X Lo.length Li.length cO cI cX bo bi bf _ (fun o => Lo.getD o Q5) (fun k => Li.getD k Q5) hadj hY h1 h2 hno hni h hG W hM
     have hE:=T.e
     have hch : Hid (c.matchI l days = Y7 (c.adjA l days) Li.length Lo.length Lo.length 0 (Yx (c.adjA l days) Li.length (fun _ => false) Lo.length 0 Ur).1 (fun _ => false)):=by
      unfold Hid Qd.matchI Bu;rw [← hLie.out,← hLoe.out]
     clear hadj hY hrow hnil AY T;go_wp2_with (first | (go_at_call 80;refine zc (N1 _ _ _ _) ?_;rintro e w5 ⟨bm,bs,O,I,X,cO,cI,cX,bo,bi,bf,rfl,hbs,hM⟩) | (go_at_call 81;refine zc (N2 _ _ _ _ _ _ _ _ _ _ _ _ _ _ _ RO RI hbs _ hM) ?_;rintro e w6 ⟨v,rfl,x6,hO⟩));go_ret;rw [hch.out,← hLoe.out,← hLie.out];exact ⟨_,rfl,hE.trans x6,Qal hO hE.size⟩
    obtain ⟨F,cF,e,RO⟩:=Mu T.a;injection e with e1 _ e3
    subst e1;subst e3;obtain ⟨bo,oo,rfl,hbo,hco⟩:=RO Qb;obtain ⟨x,hx⟩:=Qf (Lo.getD i Q5)
    have c0 : wo.cell? ⟨bo,oo + i * 2,none⟩ = some (.int .i64 (x.1 : Nat)):=by
     have:=hco i 0 (.int .i64 ((Lo.getD i Q5).1 : Nat)) hlt rfl;rw [← hx] at this;exact this
    have c1 : wo.cell? ⟨bo,oo + i * 2 + 1,none⟩ = some (.int .i64 (x.2 : Nat)):=by
     have:=hco i 1 (.int .i64 ((Lo.getD i Q5).2 : Nat)) hlt rfl;rw [← hx] at this;exact this
    clear hco RO;replace hx:=zh hx;go_upto_region 19 with fail
    obtain ⟨wx,hwx⟩:=Qf (wo.alloc (.cells #[.int .i64 (x.1 : Nat),.int .i64 (x.2 : Nat)] 33));rw [← hwx];have x1 : Qc wo wx:=by rw [hwx];exact (Qc.refl wo).alloc _
    have BX : Qa wx wo.heap.size 33 #[.int .i64 (x.1 : Nat),.int .i64 (x.2 : Nat)]:=by rw [hwx];exact Qa.new _ _ _
    replace T:=T.ext x1;replace AY:=AY.ext x1;have hrow2 : ∀ y,y < i → Ku wx (rv y) (c.adjA l days y):=fun y hy => (hrow y hy).fm ((FM.refl _).ext x1)
    have hxm:=Pl.1 (show x ∈ Yj l false by rw [← hLoe.out,hx.out];exact Y9 hlt);obtain ⟨hx1,hx2,_⟩:=hxm;generalize wo.heap.size = bx at *;clear hwx x1 c0 c1 hbo hrow;have hnii : rv i = .slice none 0 0:=hnil i (Nat.le_refl _)
    go_loopw [62] (fun kv wr => ∃ (k : Nat) (v : Value) (xs : List Nat),k ≤ Li.length ∧ kv = .int .i64 k ∧ Qc w wr ∧ FM wx wr ∧ wx.heap.size ≤ wr.heap.size ∧ Qw wr 125 (some ⟨bY,0,none⟩) Lo.length bY (fun y => if y = i then v else rv y) ∧ wr.ownsRow wx.heap.size 3 1 v xs.length (xs.map fun z : Nat => Value.int .i64 (z : Int)) ∧ Hid (xs = (List.range k).filter fun k => c.mayB l days x (Li.getD k Q5))) (fun kv _ => Li.length - (intOf kv).toNat)
    case atStart => exact ⟨0,.slice none 0 0,[],Nat.zero_le _,rfl,T.e,FM.refl _,Nat.le_refl _,AY.congr (fun y _ => by by_cases e : y = i <;> simp [e,hnii]),⟨rfl,.inl ⟨rfl,rfl⟩⟩,zh rfl⟩
    case round =>
     obtain ⟨k,v,xs,hk,rfl,E,M,hsz,A2,hO,hxs⟩:=hrel;obtain ⟨wo,rfl⟩:=Qf wr;have T2:=T.fm M E;by_cases hlk : k < Li.length;rotate_left
     ·obtain rfl : k = Li.length:=Qb
      have hadj : xs = c.adjA l days i:=by
       rw [hxs.out];unfold Qd.adjA;rw [← hLoe.out,← hLie.out,hx.out]
      obtain ⟨A5,c5,b5,ev,_,_,AR⟩:=Rj (g:=fun k => .int .i64 ((xs.getD k 0 : Nat) : Int)) hO (fun k hk => by simp [hk]);have hri : Ku wo v (c.adjA l days i):=by rw [← hadj];exact ⟨A5,c5,b5,ev,AR⟩
      have hro : ∀ y,y < i + 1 → Ku wo ((fun y => if y = i then v else rv y) y) (c.adjA l days y):=fun y hy => by
       by_cases e : y = i
       ·subst e;simpa using hri
       ·simp only [if_neg e];exact (hrow2 y Qb).fm M
      have hni2 : ∀ y,i + 1 ≤ y → (fun y => if y = i then v else rv y) y = .slice none 0 0:=fun y hy => by
       have e : y ≠ i:=Qb;simp only [if_neg e];exact hnil y Qb
      clear hri hadj AR T AY hrow2;go_wp2;exact ⟨⟨i + 1,_,Qb,by go_num,T2,A2,hro,hni2⟩,zi⟩
     obtain ⟨F,cF,e,RI⟩:=Mu T2.b;injection e with e1 _ e3
     subst e1;subst e3;obtain ⟨bi,oi,rfl,hbi,hci⟩:=RI Qb;obtain ⟨y,hy⟩:=Qf (Li.getD k Q5)
     have c0 : wo.cell? ⟨bi,oi + k * 2,none⟩ = some (.int .i64 (y.1 : Nat)):=by
      have:=hci k 0 (.int .i64 ((Li.getD k Q5).1 : Nat)) hlk rfl;rw [← hy] at this;exact this
     have c1 : wo.cell? ⟨bi,oi + k * 2 + 1,none⟩ = some (.int .i64 (y.2 : Nat)):=by
      have:=hci k 1 (.int .i64 ((Li.getD k Q5).2 : Nat)) hlk rfl;rw [← hy] at this;exact this
     clear hci RI;have hym:=Pl.1 (show y ∈ Yj l true by rw [← hLie.out,hy];exact Y9 hlk);obtain ⟨hy1,hy2,_⟩:=hym
     have hxs2 : ∀ q : Bool,c.mayB l days x y = q → (if q then xs ++ [k] else xs) = (List.range (k + 1)).filter fun k => c.mayB l days x (Li.getD k Q5):=fun q hq => by
      have e : c.mayB l days x (Li.getD k Q5) = q:=by rw [← hy];exact hq
      rw [List.range_succ,List.filter_append,← hxs.out];simp only [List.filter_cons,List.filter_nil,e];cases q <;> simp
     have hxl : xs.length ≤ k:=by rw [hxs.out];exact Nat.le_trans (List.length_filter_le _ _) (by simp)
     replace hy:=zh hy;go_upto_region 21 with fail
     obtain ⟨wz,hwz⟩:=Qf (wo.alloc (.cells #[.int .i64 (y.1 : Nat),.int .i64 (y.2 : Nat)] 33));rw [← hwz];have x1 : Qc wo wz:=by rw [hwz];exact (Qc.refl wo).alloc _
     have BY : Qa wz wo.heap.size 33 #[.int .i64 (y.1 : Nat),.int .i64 (y.2 : Nat)]:=by rw [hwz];exact Qa.new _ _ _
     have BX2:=(M _ _ _ BX zD).ext x1;replace E:=E.trans x1;replace M:=M.ext x1;replace A2:=A2.ext x1;replace hO:=Yi hO x1;replace hsz:=Nat.le_trans hsz x1.size;have NM:=Qim A A' ca cb c l _ ba days x y w wz E hA hv hx1 hx2 hy1 hy2;generalize wo.heap.size = by' at *
     clear hwz x1 c0 c1 hbi T2;obtain ⟨k0,k1,kl⟩:=Qa.d2 BX2;obtain ⟨l0,l1,ll⟩:=Qa.d2 BY;cases hmb : c.mayB l days x y
     ·rw [hmb] at NM;have h2:=hxs2 false hmb;go_upto_region 23 with (go_at_call 79;(with_reducible refine Calls.mono NM ?_);rintro e w5 ⟨rfl,x5⟩)
      replace E:=E.trans x5;replace M:=M.ext x5;replace A2:=A2.ext x5;replace hO:=Yi hO x5;replace hsz:=Nat.le_trans hsz x5.size;go_wp2;exact ⟨⟨k + 1,v,xs,Qb,by go_num,E,M,hsz,A2,hO,zh h2⟩,zi⟩
     rw [hmb] at NM;have h2:=hxs2 true hmb;obtain ⟨Fv,mv,rfl⟩:=Z9 hO;go_upto_region 22 with (go_at_call 79;(with_reducible refine Calls.mono NM ?_);rintro e w5 ⟨rfl,x5⟩)
     have hno0 : 0 < Lo.length:=Qb;have x6:=x5.alloc (.cells #[.int .i64 (k : Int)] 3);have A5:=A2.ext x5
     have m0 : w5.cell? ⟨bY,i,none⟩ = some (.slice Fv xs.length mv):=by
      have:=A5.cell hlt
      simpa using this
     have ml:=A5.lt hno0;have O6:=Yi hO x6;have A6:=A2.ext x6;have M6:=M.ext x6;have E6:=E.trans x6;have s6:=Nat.le_trans hsz x6.size;clear NM k0 k1 kl l0 l1 ll BX2 BY E M A2 hO hsz hxs2;go_wp2_with (at_builtin;refine wpList_append_own_at _ rfl _ _ 125 rfl wx.heap.size 3 j0 (.int .i64 0) 1 8 Tryz.underlying125 hj0 hy3 hy4 hy5 rfl zD _ _ _ rfl O6 ⟨w5.heap.size,0,none⟩ 1 1 [.int .i64 k] rfl rfl (K5 (Qa.new _ _ _)) (by simp [Value.oneCell']) (by unfold maxLen;omega) Qb s6 ?_;intro vn wn hown hgrow _ hob;obtain ⟨Fn,mn,rfl⟩:=Z9 hown;have A7:=A6.kept hgrow (fun hn => by obtain ⟨cs,h1,_⟩:=A6.h hn;exact h1.not_row zD O6);have fz:=A7.frozen hno0 i;have fc:=A7.cell hlt;have fl:=A7.lt hno0)
     have E7:=(E6.grown hgrow (fun q hq => Nat.le_trans T.e.size (Ut O6 q hq).1)).setCell (p:=⟨bY,i,none⟩) hwb (.slice Fn (xs.length + 1) mn);obtain ⟨cs7,H7,_⟩:=A7.h hno0;have M7:=(M6.grown O6 hgrow).set H7 i (.slice Fn (xs.length + 1) mn);have O7:=Xf H7 zD hown i (.slice Fn (xs.length + 1) mn);have A8:=(A7.set hlt (.slice Fn (xs.length + 1) mn)).congr (g':=fun y => if y = i then (.slice Fn (xs.length + 1) mn) else rv y) (fun y _ => by by_cases e : y = i <;> simp [e])
     have s7 : wx.heap.size ≤ (wn.setCell ⟨bY,i,none⟩ (.slice Fn (xs.length + 1) mn)).heap.size:=by
      have:=hgrow.size;have e : (wn.setCell ⟨bY,i,none⟩ (.slice Fn (xs.length + 1) mn)).heap.size = wn.heap.size:=by simp [World.setCell]
      omega
     refine ⟨⟨k + 1,.slice Fn (xs.length + 1) mn,xs ++ [k],Qb,by go_num,E7,M7,s7,A8,?_,zh h2⟩,zi⟩;rw [List.length_append,List.map_append];exact O7
  obtain ⟨b,off,rfl,hb,hc⟩:=(hD.ext T.e) Qb;obtain ⟨c0,c1,c2,c3,c4,c5,c6,c7,c8,c9,c10,c11⟩:=Fw hc hlt;clear hc;have P1:=hat i hlt;obtain ⟨t1,s1,e1,_⟩:=id P1.o;obtain ⟨t3,s3,e3,_⟩:=id P1.c;obtain ⟨t2,s2,ws,e2,hT,hs2,hms2,_,hatT⟩:=id P1.d;rw [e1] at c9;rw [e2] at c10;rw [e3] at c11;have hbi:=hb2 i hlt;have hLo:=Mr false hb2 i hi;have hLi:=Mr true hb2 i hi;rw [hg'.out] at hbi;replace hatT:=zh hatT;clear e1 e2 e3 P1 hat hs2;have hbw:=hb
  have hst : ∀ b,Xh l b (i + 1) = Xh l b i ++ Xi (g i) b i (g i).d.length:=fun b => by
   conv => lhs;unfold Xh
   rw [hg'.out]
  replace hst:=zh hst;obtain ⟨Lo,hLoe⟩:=Qf (Xh l false i);obtain ⟨Li,hLie⟩:=Qf (Xh l true i);rw [← hLoe] at T hLo;rw [← hLie] at T hLi;replace hLoe:=zh hLoe;replace hLie:=zh hLie;go_upto_region 6 with fail
  obtain ⟨wp,hwp⟩:=Qf (wo.alloc (.cells #[.string (g i).h,.int .i64 (g i).a.y,.int .i64 (g i).a.m,.bool (g i).a.s,.int .i64 (g i).a.d,.int .i64 (g i).b.y,.int .i64 (g i).b.m,.bool (g i).b.s,.int .i64 (g i).b.d,.slice t1 (g i).o.length s1,.slice t2 (g i).d.length s2,.slice t3 (g i).c.length s3] 55));rw [← hwp];have x1 : Qc wo wp:=by rw [hwp];exact (Qc.refl wo).alloc _
  replace T:=T.ext x1;clear hwp x1 c0 c1 c2 c3 c4 c5 c6 c7 c8 c9 c10 c11 hb hbw
  go_loopw [5,6,30] (fun ov iv jv wr => ∃ k : Nat,k ≤ (g i).d.length ∧ jv = .int .i64 k ∧ Xq w wr (Lo ++ Xi (g i) false i k) (Li ++ Xi (g i) true i k) ov iv) (fun _ _ jv _ => (g i).d.length - (intOf jv).toNat)
  case atStart => exact ⟨0,Nat.zero_le _,rfl,by simpa [Xi] using T⟩
  case round =>
   clear T;obtain ⟨k,hk,rfl,T⟩:=hrel;obtain ⟨wo,rfl⟩:=Qf wr;by_cases hlk : k < (g i).d.length;rotate_left
   ·obtain rfl : k = (g i).d.length:=Qb;rw [hLoe.out,hLie.out,← hst.out,← hst.out] at T;go_wp2;exact ⟨⟨i + 1,Qb,by go_num,T⟩,zi⟩
   obtain ⟨b',off',rfl,hb',hc'⟩:=(hT.ext T.e) Qb;obtain ⟨d0,d1,d2,d3,d4,d5,zq6⟩:=zp7 hc' hlk;clear zq6;have c6:=hc' k 6 (ws k) hlk rfl;clear hc';obtain ⟨F7,m7,e7,_⟩:=id (hatT.out k hlk);obtain ⟨G,hG⟩:=Qf ((g i).d.getD k Qv);rw [← hG] at d0 d1 d2 d3 d4 d5 e7
   replace c6 : wo.cell? ⟨b',off' + k * 7 + 6,none⟩ = some (.slice F7 G.l.length m7):=by
    have:=c6;rw [e7] at this;exact this
   clear e7;have hlp1:=G6 (g i) false i k;have hlp2:=G6 (g i) true i k;cases hgi : G.i
   ·rw [hgi] at d4;have y1:=Qbb (p:=g i) (b:=false) (i:=i) (n:=k) (by rw [← hG];exact hgi);have y2:=Qba (p:=g i) (b:=true) (i:=i) (n:=k) (by rw [← hG,hgi];decide);replace y1:=zh y1;replace y2:=zh y2;clear hG hgi;go_upto_region 11 with fail
    obtain ⟨wx,hwx⟩:=Qf ((wo.alloc (.cells #[.int .i64 G.on.y,.int .i64 G.on.m,.bool G.on.s,.int .i64 G.on.d,.bool false,.string G.w,.slice F7 G.l.length m7] 57)).alloc (.cells #[.int .i64 i,.int .i64 k] 33));rw [← hwx];have x2 : Qc wo wx:=by rw [hwx];exact ((Qc.refl wo).alloc _).alloc _
    have k1 : Qa wx (wo.heap.size + 1) 33 #[.int .i64 i,.int .i64 k]:=by
     rw [hwx];have h:=Qa.new (wo.alloc (.cells #[.int .i64 G.on.y,.int .i64 G.on.m,.bool G.on.s,.int .i64 G.on.d,.bool false,.string G.w,.slice F7 G.l.length m7] 57)) 33 #[.int .i64 (i : Int),.int .i64 (k : Int)]
     simpa using h
    have T2:=T.ext x2;have T3:=T2.ext ((Qc.refl wx).alloc (.cells #[.int .i64 i,.int .i64 k] 33));clear hwx x2 d0 d1 d2 d3 d4 d5 c6 hb' T;obtain ⟨q0,q1,ql⟩:=Qa.d2 k1;go_wp2_with (at_builtin;refine wpList_append_own_at _ rfl _ _ 163 rfl w.heap.size 33 i0 (.agg #[.int .i64 0,.int .i64 0]) 2 16 Tryz.underlying163 hi0 hz0 hz1 hz2 rfl zD _ _ _ rfl T3.a ⟨wx.heap.size,0,none⟩ 1 1 [.int .i64 i,.int .i64 k] rfl rfl (K5 (Qa.new _ _ _)) (Bs _ _) (by rw [List.length_append];unfold maxLen;omega) (by rw [List.length_append];omega) T3.e.size ?_;intro vn wn hown hgrow _ hob);have T4:=T3.fst (r:=(i,k)) hown hgrow hob;rw [List.append_assoc,← y1.out,← y2.out] at T4;exact ⟨⟨k + 1,Qb,by go_num,T4⟩,zi⟩
   ·rw [hgi] at d4;have y1:=Qbb (p:=g i) (b:=true) (i:=i) (n:=k) (by rw [← hG];exact hgi);have y2:=Qba (p:=g i) (b:=false) (i:=i) (n:=k) (by rw [← hG,hgi];decide);replace y1:=zh y1;replace y2:=zh y2;clear hG hgi;go_upto_region 10 with fail
    obtain ⟨wx,hwx⟩:=Qf ((wo.alloc (.cells #[.int .i64 G.on.y,.int .i64 G.on.m,.bool G.on.s,.int .i64 G.on.d,.bool true,.string G.w,.slice F7 G.l.length m7] 57)).alloc (.cells #[.int .i64 i,.int .i64 k] 33));rw [← hwx];have x2 : Qc wo wx:=by rw [hwx];exact ((Qc.refl wo).alloc _).alloc _
    have k1 : Qa wx (wo.heap.size + 1) 33 #[.int .i64 i,.int .i64 k]:=by
     rw [hwx];have h:=Qa.new (wo.alloc (.cells #[.int .i64 G.on.y,.int .i64 G.on.m,.bool G.on.s,.int .i64 G.on.d,.bool true,.string G.w,.slice F7 G.l.length m7] 57)) 33 #[.int .i64 (i : Int),.int .i64 (k : Int)]
     simpa using h
    have T2:=T.ext x2;have T3:=T2.ext ((Qc.refl wx).alloc (.cells #[.int .i64 i,.int .i64 k] 33));clear hwx x2 d0 d1 d2 d3 d4 d5 c6 hb' T;obtain ⟨q0,q1,ql⟩:=Qa.d2 k1;go_wp2_with (at_builtin;refine wpList_append_own_at _ rfl _ _ 163 rfl w.heap.size 33 i0 (.agg #[.int .i64 0,.int .i64 0]) 2 16 Tryz.underlying163 hi0 hz0 hz1 hz2 rfl zD _ _ _ rfl T3.b ⟨wx.heap.size,0,none⟩ 1 1 [.int .i64 i,.int .i64 k] rfl rfl (K5 (Qa.new _ _ _)) (Bs _ _) (by rw [List.length_append];unfold maxLen;omega) (by rw [List.length_append];omega) T3.e.size ?_;intro vn wn hown hgrow _ hob);have T4:=T3.snd (r:=(i,k)) hown hgrow hob;rw [List.append_assoc,← y1.out,← y2.out] at T4;exact ⟨⟨k + 1,Qb,by go_num,T4⟩,zi⟩
def W9 (p : Rf × Rf) : List Value:=[.int .i64 (p.1.1 : Nat),.int .i64 (p.1.2 : Nat),.int .i64 (p.2.1 : Nat),.int .i64 (p.2.2 : Nat)]
theorem Ib (c : Qd) (l : List Pd) (days : Int) : (c.matchI l days).flatMap (mcl (fun o => (Yj l false).getD o Q5) (fun k => (Yj l true).getD k Q5)) = (c.matchL l days).flatMap W9:=by
 unfold Qd.matchL;rw [List.flatMap_map];rfl
theorem Ri {c : Qd} {l : List Pd} (h : c.archE l = 0) : l.length ≤ 32:=by
 refine Nat.le_of_not_lt fun hn => ?_
 unfold Qd.archE at h;by_cases hc : c.chk ≠ 0
 ·rw [if_pos hc] at h;exact hc h
 ·rw [if_neg hc,if_pos hn] at h;exact absurd h zD
theorem Ro {c : Qd} {l : List Pd} {days : Int} (h : c.audE l days = 0) : c.archE l = 0:=by
 unfold Qd.audE at h;by_cases hc : c.archE l ≠ 0
 ·rw [if_pos hc] at h;exact absurd h hc
 ·simpa using hc
theorem Ie (A A' : OA) (ca cb : Nat) (c : Qd) (l : List Pd) (vl : Value) (days : Int) (w : World) (hC : Q3 w A ca A' cb c) (hP : Jw w vl l) :
  Calls Tryz.prog 9 #[.agg #[.slice A c.nk ca,.slice A' c.ny cb],vl,.int .i64 days] w fun e w' => ∃ v,e = .returned (.tuple #[v,.int .i64 (c.matchV l days).2]) ∧ Qc w w' ∧ w'.ownsRow w.heap.size 35 4 v (c.matchV l days).1.length ((c.matchV l days).1.flatMap W9):=by
 have NA:=fun w h1 h2 => D3 A A' ca cb c l vl days w h1 h2
 obtain ⟨RE,hRE⟩:=Qf (c.audE l days);simp only [← hRE] at NA;replace hRE:=zh hRE
 go_enter Tryz.func9,Tryz.ntmps9
 go_upto_region 1 with fail
 obtain ⟨v,b1,E,B1,hbr,hv,hb1⟩:=Ym w 25 #[.slice A c.nk ca,.slice A' c.ny cb];rw [← hv,← hb1];clear hv hb1;have C:=hC.ext E;obtain ⟨k0,k1,kl⟩:=Qa.d2 B1;by_cases e0 : RE = 0;rotate_left
 ·have g0 : (RE == 0) = false := zb e0;have g0n : (RE != 0) = true := by rw [bne, g0]; rfl
  have hm : c.matchV l days = ([],RE):=by unfold Qd.matchV;rw [← hRE.out,if_pos e0]
  clear hRE;go_wp2_with (go_at_call 34;refine zc (NA _ C (hP.ext E)) ?_;rintro e w1 ⟨pv,rfl,x1,hau⟩);go_ret2;rw [hm];exact ⟨_,rfl,E.trans x1,rfl,.inl ⟨rfl,rfl⟩⟩
 have hok:=hRE.out;rw [e0] at hok;obtain ⟨⟨hv,hp⟩,_⟩:=Rl hok.symm;have hl32:=Ri (Ro hok.symm)
 have hl64 : ∀ i,i < l.length → (l.getD i Qs).d.length ≤ 1000:=fun i hi => by
  have:=(hp _ (Y9 (z:=Qs) hi)).m;omega
 subst e0;have hm : c.matchV l days = (c.matchL l days,0):=by unfold Qd.matchV;rw [← hok,if_neg (by simp)]
 clear hRE hok;go_upto_region 4 with (go_at_call 34;refine zc (NA _ C (hP.ext E)) ?_;rintro e w1 ⟨pv,rfl,x1,hau⟩;obtain ⟨ba,rfl,hge,HB⟩:=hau rfl)
 have hA : V3 w1 ba A A' ca cb c vl l:=⟨HB,C.ext x1,(hP.ext E).ext x1⟩;have NM:=Ic A A' ca cb c l vl ba days w1 hA hv Qb hl64;go_wp2_with (go_at_call 35;(with_reducible refine Calls.mono NM ?_);rintro e w2 ⟨v,rfl,x2,hO⟩);go_ret2;rw [hm];rw [Ib] at hO;exact ⟨_,rfl,E.trans (x1.trans x2),Qal (by rw [show (c.matchL l days).length = (c.matchI l days).length from List.length_map ..];exact hO) (Nat.le_trans E.size x1.size)⟩
end
section
def fl (my : Nat → Bool) (ni k : Nat) : List Nat:=(List.range' k (ni - k)).filter my
end
section
open Go Go.RowKit Go.Shelf
attribute [local go_sem] Zu
structure Fx (W : World) (ba : Nat) (A A' : OA) (ca cb : Nat) (c : Qd) (vl : Value) (l : List Pd) (days : Int) : Prop where
 b : Qa W ba 103 #[.slice A c.nk ca,.slice A' c.ny cb,vl,.int .i64 days]
 C : Q3 W A ca A' cb c
 P : Jw W vl l
theorem Fx.ext {W W' : World} {ba : Nat} {A A' : OA} {ca cb : Nat} {c : Qd} {vl : Value} {l : List Pd} {days : Int} (h : Fx W ba A A' ca cb c vl l days) (x : Qc W W') : Fx W' ba A A' ca cb c vl l days:=⟨h.b.ext x,h.C.ext x,h.P.ext x⟩
end
section
open Go Go.RowKit Go.Shelf
theorem Rw {adj : Nat → List Nat} {ni no : Nat} : ∀ (n i : Nat) (m : Mt) (fx : Bl),(Y7 adj ni no n i m fx).length ≤ n
 | 0,_,_,_ => Nat.le_refl _
 | n + 1,i,m,fx => by
  rw [Bt]
  cases Wz adj ni no i (adj i) m fx with
  | none => exact Nat.le_succ_of_le (Rw n (i + 1) m fx)
  | some p =>
   obtain ⟨k,m',fx'⟩:=p;exact Nat.succ_le_succ (Rw n (i + 1) m' fx')
theorem Qik (c : Qd) (l : List Pd) (days : Int) : (c.matchL l days).length ≤ (Yj l false).length:=by
 unfold Qd.matchL;rw [List.length_map];exact Rw _ _ _ _
theorem Iq : ∀ (L : List (Rf × Rf)) (i j : Nat),i < L.length → j < 4 → (L.flatMap W9)[i * 4 + j]? = (W9 (L.getD i (Q5,Q5)))[j]?
 | r :: L,0,j,_,hj => by
  match j,hj with
  | 0,_ => simp [W9]
  | 1,_ => simp [W9]
  | 2,_ => simp [W9]
  | 3,_ => simp [W9]
 | r :: L,i + 1,j,h,hj => by
  have hl : (W9 r).length = 4:=rfl;rw [List.flatMap_cons,List.getElem?_append_right Qb,hl,show (i + 1) * 4 + j - 4 = i * 4 + j by omega,Iq L i j (by simpa using h) hj];rfl
theorem Qbf {w : World} {base : Nat} {v : Value} {L : List (Rf × Rf)} (h : w.ownsRow base 35 4 v L.length (L.flatMap W9)) : ∃ F c,v = .slice F L.length c ∧ Qo w F L.length 4 (fun i => W9 (L.getD i (Q5,Q5))):=by
 rcases h.2 with ⟨rfl,h0⟩ | ⟨q,cap,cur,rfl,hb,hq,hn,hm,_⟩
 ·exact ⟨none,0,by rw [h0],fun hp => by omega⟩
 ·refine ⟨_,_,rfl,fun _ => ⟨q,0,rfl,(Array.getElem?_eq_some_iff.1 hq).1,fun i j v hi hv => ?_⟩⟩;have hj : j < 4:=(List.getElem?_eq_some_iff.1 hv).1;have hlt : i * 4 + j < L.length * 4:=Qb;rw [Nat.zero_add,World.ownsRow.cellAt h (i * 4 + j) hlt,Iq L i j hi hj];exact hv
theorem Qil {c : Qd} {l : List Pd} {days : Int} (h : c.audE l days = 0) : (c.matchL l days).length ≤ 2048:=by
 obtain ⟨⟨_,hp⟩,_⟩:=Rl h;have h1:=Qik c l days;have h2:=Mr (l:=l) false (m:=64) (fun i hi => (hp _ (Y9 (z:=Qs) hi)).m) l.length (Nat.le_refl _);have h3:=Ri (Ro h);have h4 : (Yj l false).length ≤ l.length * 64:=h2;omega
end
section
open Go Go.RowKit
theorem Qf6 (w : World) (x0 y0 : Int) (x1 y1 : Int) : (Op.equalIn 10000 33 (.agg #[.int .i64 x0,.int .i64 x1]) (.agg #[.int .i64 y0,.int .i64 y1])).run Tryz.prog w = .ok ((x0 == y0) && (x1 == y1)) w:=by
 go_simp
 by_cases h0 : x0 = y0;rotate_left
 ·simp [h0]
 by_cases h1 : x1 = y1;rotate_left
 ·simp [h1]
 simp [h0,h1]
theorem Qf9 (w : World) (x0 y0 : Int) (x1 y1 : Int) : (binOp .eql 33 (.agg #[.int .i64 x0,.int .i64 x1]) (.agg #[.int .i64 y0,.int .i64 y1])).run Tryz.prog w = .ok (.bool ((x0 == y0) && (x1 == y1))) w:=by rw [run_eql_struct,Qf6];rfl
theorem Qf3 (w : World) (x0 y0 : Int) (x1 y1 : Int) (x2 y2 : Int) (x3 y3 : Int) : (Op.equalIn 10000 35 (.agg #[.int .i64 x0,.int .i64 x1,.int .i64 x2,.int .i64 x3]) (.agg #[.int .i64 y0,.int .i64 y1,.int .i64 y2,.int .i64 y3])).run Tryz.prog w = .ok ((x0 == y0) && ((x1 == y1) && ((x2 == y2) && (x3 == y3)))) w:=by
 go_simp
 by_cases h0 : x0 = y0;rotate_left
 ·simp [h0]
 by_cases h1 : x1 = y1;rotate_left
 ·simp [h1]
 by_cases h2 : x2 = y2;rotate_left
 ·simp [h2]
 by_cases h3 : x3 = y3;rotate_left
 ·simp [h3]
 simp [h0,h1,h2,h3]
theorem Qje (w : World) (x0 y0 : Int) (x1 y1 : Int) (x2 y2 : Int) (x3 y3 : Int) : (binOp .neq 35 (.agg #[.int .i64 x0,.int .i64 x1,.int .i64 x2,.int .i64 x3]) (.agg #[.int .i64 y0,.int .i64 y1,.int .i64 y2,.int .i64 y3])).run Tryz.prog w = .ok (.bool (!((x0 == y0) && ((x1 == y1) && ((x2 == y2) && (x3 == y3)))))) w:=by rw [run_neq_struct,Qf3];rfl
theorem Qf1 (w : World) (x0 y0 : Int) (x1 y1 : Int) (x2 y2 : Int) : (Op.equalIn 10000 47 (.agg #[.int .i64 x0,.int .i64 x1,.int .i64 x2]) (.agg #[.int .i64 y0,.int .i64 y1,.int .i64 y2])).run Tryz.prog w = .ok ((x0 == y0) && ((x1 == y1) && (x2 == y2))) w:=by
 go_simp
 by_cases h0 : x0 = y0;rotate_left
 ·simp [h0]
 by_cases h1 : x1 = y1;rotate_left
 ·simp [h1]
 by_cases h2 : x2 = y2;rotate_left
 ·simp [h2]
 simp [h0,h1,h2]
theorem Qf7 (w : World) (x0 y0 : Int) (x1 y1 : Int) (x2 y2 : Int) : (binOp .eql 47 (.agg #[.int .i64 x0,.int .i64 x1,.int .i64 x2]) (.agg #[.int .i64 y0,.int .i64 y1,.int .i64 y2])).run Tryz.prog w = .ok (.bool ((x0 == y0) && ((x1 == y1) && (x2 == y2)))) w:=by rw [run_eql_struct,Qf1];rfl
end
section
open Go Go.RowKit Go.Shelf
attribute [local go_sem] Zu
attribute [local go_sem high] Qf9
theorem Qat (l : List Pd) (i : Nat) : Qx l i = l.getD i Qs:=rfl
theorem Ty {l : List Pd} {h : ByteArray} {k : Nat} : k ∈ Y0 l h ↔ k < l.length ∧ (Qx l k).h = h:=by
 unfold Y0;rw [List.mem_filter,List.mem_range,decide_eq_true_eq]
end
section
open Go Go.RowKit Go.Shelf
attribute [local go_sem] Zu
def MayB (W : World) (vy : Value) (no ni : Nat) (my : Nat → Nat → Bool) : Prop:=∃ Y cap,∃ vs : Nat → Value,vy = .slice Y no cap ∧ Qo W Y no 1 (fun i => [vs i]) ∧ ∀ i,i < no → ∃ D cd,vs i = .slice D ni cd ∧ Qo W D ni 1 (fun k => [.bool (my i k)])
theorem MayB.ext {W W' : World} {vy : Value} {no ni : Nat} {my : Nat → Nat → Bool} (h : MayB W vy no ni my) (x : Qc W W') : MayB W' vy no ni my:=by
 obtain ⟨Y,cap,vs,e,h1,h2⟩:=h;refine ⟨Y,cap,vs,e,h1.ext x,fun i hi => ?_⟩;obtain ⟨D,cd,e,h3⟩:=h2 i hi;exact ⟨D,cd,e,h3.ext x⟩
structure PS (W0 W : World) (bp : Nat) (vy : Value) (O : OA) (ni cO bo : Nat) (f : Nat → Int) : Prop where
 e : Qc W0 W
 p : Qa W bp 219 #[vy,.slice O ni cO]
 i : Qw W 3 O ni bo fun k => .int .i64 (f k)
 lo : 0 < ni → W0.heap.size ≤ bo
section
variable {W0 W W' : World} {bp : Nat} {vy : Value} {O : OA} {ni cO bo : Nat} {f : Nat → Int}
theorem PS.ext (h : PS W0 W bp vy O ni cO bo f) (x : Qc W W') : PS W0 W' bp vy O ni cO bo f:=⟨h.e.trans x,h.p.ext x,h.i.ext x,h.lo⟩
theorem PS.setI (h : PS W0 W bp vy O ni cO bo f) {k : Nat} (hk : k < ni) (v : Int) : PS W0 (W.setCell ⟨bo,k,none⟩ (.int .i64 v)) bp vy O ni cO bo (Qn f k v):=by
 obtain ⟨cs,h1,_⟩:=h.i.h Qb;refine ⟨h.e.setCell (p:=⟨bo,k,none⟩) (h.lo Qb) _,Wg h.p (Ne.symm (Xd h1 h.p zD)) _ _,(h.i.set hk _).congr fun x _ => ?_,h.lo⟩;by_cases e : x = k
 ·subst e;simp [Qn]
 ·simp [Qn,e]
theorem PS.setN (h : PS W0 W bp vy O ni cO bo f) {N : OA} {bn k : Nat} {g : Nat → Value} (hN : Qw W 4 N ni bn g) (hk : k < ni) (hl : W0.heap.size ≤ bn) (u : Value) : PS W0 (W.setCell ⟨bn,k,none⟩ u) bp vy O ni cO bo f:=by
 obtain ⟨cs,h1,_⟩:=hN.h Qb;exact ⟨h.e.setCell (p:=⟨bn,k,none⟩) hl _,Wg h.p (Ne.symm (Xd h1 h.p zD)) _ _,h.i.oth (fun hn => h.i.apart2 hN zD hn Qb) _ _,h.lo⟩
end
def FB (br : Nat) (W W' : World) : Prop:=∀ b t (cs : Array Value),Qa W b t cs → b ≠ br → Qa W' b t cs
theorem FB.refl (br : Nat) (W : World) : FB br W W:=fun _ _ _ h _ => h
theorem FB.ext {br : Nat} {W W1 W2 : World} (h : FB br W W1) (x : Qc W1 W2) : FB br W W2:=fun b t cs hb ht => (h b t cs hb ht).ext x
theorem FB.set {br : Nat} {W W1 : World} (h : FB br W W1) (j : Nat) (u : Value) : FB br W (W1.setCell ⟨br,j,none⟩ u):=fun b t cs hb ht => Wg (h b t cs hb ht) ht j u
theorem Qw.fb {br : Nat} {W W' : World} {t : TypeId} {A : OA} {n b : Nat} {g : Nat → Value} (h : Qw W t A n b g) (f : FB br W W') (hne : 0 < n → b ≠ br) : Qw W' t A n b g:=⟨h.a,fun hn => by
 obtain ⟨cs,h1,h2⟩:=h.h hn;exact ⟨cs,f _ _ _ h1 (hne hn),h2⟩⟩
structure TK (WB W : World) (bt ni : Nat) (fx : Nat → Bool) : Prop where
 e : Qc WB W
 a : Qw W 4 (some ⟨bt,0,none⟩) ni bt fun k => .bool (fx k)
theorem TK.ext {WB W W' : World} {bt ni : Nat} {fx : Nat → Bool} (h : TK WB W bt ni fx) (x : Qc W W') : TK WB W' bt ni fx:=⟨h.e.trans x,h.a.ext x⟩
theorem TK.set {WB W : World} {bt ni : Nat} {fx : Nat → Bool} (h : TK WB W bt ni fx) (hb : WB.heap.size ≤ bt) {k : Nat} (hk : k < ni) (b : Bool) : TK WB (W.setCell ⟨bt,k,none⟩ (.bool b)) bt ni (Qn fx k b):=⟨h.e.setCell (p:=⟨bt,k,none⟩) hb _,Dq h.a hk b⟩
theorem TK.grown {WB W W' : World} {bt ni : Nat} {fx : Nat → Bool} {v : Value} {n : Nat} {xs : List Value} (h : TK WB W bt ni fx) (ho : W.ownsRow WB.heap.size 35 4 v n xs) (hg : W.grownBy W' v.ownBlock) : TK WB W' bt ni fx :=
 ⟨h.e.grown hg (fun q hq => (Ut ho q hq).1),h.a.kept hg (fun hn => by obtain ⟨cs,h1,_⟩:=h.a.h hn;exact h1.not_row zD ho)⟩
def Vm (x : Zy) : List Value:=[.int .i64 (x.1 : Nat),.int .i64 (x.2.1 : Nat),.int .i64 (x.2.2 : Nat)]
theorem Qhb : (Tryz.prog.info? 47).map (fun i => (i.zero,i.size,i.bytes)) = some (some (.agg #[.int .i64 0,.int .i64 0,.int .i64 0]),3,24):=by kernel_rfl
theorem Bp (a b c : Int) : ∀ u ∈ [Value.int .i64 a,.int .i64 b,.int .i64 c],u.oneCell' = true:=by simp [Value.oneCell']
def Xn (W0 W : World) (v : Value) (L : List Zy) : Prop:=W.ownsRow W0.heap.size 47 3 v L.length (L.flatMap Vm)
theorem Xn.ext {W0 W W' : World} {v : Value} {L : List Zy} (h : Xn W0 W v L) (x : Qc W W') : Xn W0 W' v L:=Yi h x
theorem Xn.nil (W : World) : Xn W W (.slice none 0 0) []:=⟨rfl,.inl ⟨rfl,rfl⟩⟩
theorem Xn.snoc {W0 W : World} {v : Value} {L : List Zy} {x : Zy} (h : W.ownsRow W0.heap.size 47 3 v (L.length + 1) (L.flatMap Vm ++ Vm x)) : Xn W0 W v (L ++ [x]):=by
 unfold Xn;rw [List.length_append,List.flatMap_append,List.flatMap_singleton];exact h
theorem Hx (c : Qd) (l : List Pd) (m : List (Rf × Rf)) (i : Nat) : ∀ n,(c.isD l m i n).length ≤ n
 | 0 => Nat.le_refl _
 | n + 1 => by
  have:=Hx c l m i n;unfold Qd.isD;rw [List.length_append]
  split <;> simp <;> omega
theorem Sc (c : Qd) (l : List Pd) (i : Nat) : (c.isA l i).length ≤ 3:=by
 unfold Qd.isA
 split <;> split <;> split <;> simp
theorem Dz {c : Qd} {l : List Pd} {m : List (Rf × Rf)} (h : ∀ i,i < l.length → (l.getD i Qs).d.length ≤ 64) : ∀ n,n ≤ l.length → (c.audN l m n).length ≤ 67 * n
 | 0,_ => Nat.le_refl _
 | n + 1,hn => by
  have h1:=Dz (c:=c) (m:=m) h n Qb;have h2:=Hx c l m n (Qx l n).d.length;have h3:=Sc c l n;have h4 : (Qx l n).d.length ≤ 64:=h n Qb;unfold Qd.audN Qd.isP;rw [List.length_append,List.length_append];omega
end
end Go.Proofs.YtoflcheopfppoaaGreatDoor

/- Walks of the program's functions and plain facts, packed; proved: the lemmas below; no conditions but those that each states. -/
import Derived.Test.YtoflcheopfppoaaGreatDoorL5
import Derived.Test.YtoflcheopfppoaaGreatDoorL1
import Derived.Laws.EntriesVeiled
set_option maxRecDepth 100000
set_option maxHeartbeats 4000000
namespace Go.Proofs.YtoflcheopfppoaaGreatDoor
section
open Go Go.RowKit Go.Shelf
attribute [local go_sem] Z5
theorem sch_lo (c : Qf) (a b : Dt) : -9223372036854775808 ≤ c.schV a b:=by
 by_cases h : c.in2E a b = 0
 ·have hv : c.valid = true:=by
   rcases Ka c a b with ⟨_,hE⟩ | ⟨hv,_,_⟩ | ⟨hv,_,_⟩
   ·rw [hE] at h;exact absurd h (by decide)
   ·exact hv
   ·exact hv
  have hh : (c.has a && c.has b) = true:=by
   rcases Ka c a b with ⟨_,hE⟩ | ⟨_,_,hE⟩ | ⟨_,hh,_⟩
   ·rw [hE] at h;exact absurd h (by decide)
   ·rw [hE] at h;exact absurd h (by decide)
   ·exact hh
  obtain ⟨h1,h2⟩:=Bool.and_eq_true_iff.1 hh;rw [Hu hv h1 h2];have:=Vm hv h1;have:=Vm hv h2;omega
 ·unfold Qf.schV;rw [if_neg h];decide
theorem sch_hi (c : Qf) (a b : Dt) : c.schV a b ≤ 9223372036854775807:=by
 by_cases h : c.in2E a b = 0
 ·have hv : c.valid = true:=by
   rcases Ka c a b with ⟨_,hE⟩ | ⟨hv,_,_⟩ | ⟨hv,_,_⟩
   ·rw [hE] at h;exact absurd h (by decide)
   ·exact hv
   ·exact hv
  have hh : (c.has a && c.has b) = true:=by
   rcases Ka c a b with ⟨_,hE⟩ | ⟨_,_,hE⟩ | ⟨_,hh,_⟩
   ·rw [hE] at h;exact absurd h (by decide)
   ·rw [hE] at h;exact absurd h (by decide)
   ·exact hh
  obtain ⟨h1,h2⟩:=Bool.and_eq_true_iff.1 hh;rw [Hu hv h1 h2];have:=Vm hv h1;have:=Vm hv h2;omega
 ·unfold Qf.schV;rw [if_neg h];decide
theorem Gl (A A' : Option Addr) (ca cb : Nat) (c : Qf) (l : Ln) (hr : l.r.In) (X : Db) (hX : X.In) (fr tu : Dt) (bt bd bl bb bf be : Nat) (v0 w : World) (hv0 : Qb v0 w) (C : Q8 v0 A ca A' cb c) (Z : Z6 v0) (ht : Qa w bt 200 #[.func (.func 117) #[] #[.pointer (some ⟨be,0,none⟩)]]) (hd : Qa w bd 72 #[.int .i64 X.p.n,.int .i64 X.p.d,.int .i64 X.i.n,.int .i64 X.i.d,.int .i64 X.s.n,.int .i64 X.s.d]) (hl : Qa w bl 67 #[.int .i64 l.p.n,.int .i64 l.p.d,.int .i64 l.r.n,.int .i64 l.r.d,.int .i64 l.f.y,.int .i64 l.f.m,.bool l.f.s,.int .i64 l.f.d]) (hb : Qa w bb 130 #[.slice A c.nk ca,.slice A' c.ny cb]) (hf : Qa w bf 51 #[.int .i64 fr.y,.int .i64 fr.m,.bool fr.s,.int .i64 fr.d]) (he : Qa w be 29 #[.int .i64 0]) (g3 : v0.heap.size ≤ be) (n1 : bd ≠ bf) (n2 : bd ≠ be) (n3 : bf ≠ be) (n4 : bt ∉ [bd,bf,be]) (n5 : bl ∉ [bd,bf,be]) (n6 : bb ∉ [bd,bf,be]) :
  Calls Tryz.prog 118 #[.agg #[.int .i64 tu.y,.int .i64 tu.m,.bool tu.s,.int .i64 tu.d],.pointer (some ⟨bt,0,none⟩),.pointer (some ⟨bd,0,none⟩),.pointer (some ⟨bl,0,none⟩),.pointer (some ⟨bb,0,none⟩),.pointer (some ⟨bf,0,none⟩),.pointer (some ⟨be,0,none⟩)] w fun e w' => e = .returned (.tuple #[]) ∧ Q5 [bd,bf,be] w w' ∧ Qa w' bf 51 #[.int .i64 tu.y,.int .i64 tu.m,.bool tu.s,.int .i64 tu.d] ∧ Qa w' be 29 #[.int .i64 (Jj c l.r X fr tu).2] ∧ ∃ Y : Db,Y.In ∧ Qa w' bd 72 #[.int .i64 Y.p.n,.int .i64 Y.p.d,.int .i64 Y.i.n,.int .i64 Y.i.d,.int .i64 Y.s.n,.int .i64 Y.s.d] ∧ ((Jj c l.r X fr tu).2 = 0 → Y = (Jj c l.r X fr tu).1):=by
 have NI:=fun w z => Bq X.p l.r (c.schV fr tu) hX.p hr (sch_lo c fr tu) (sch_hi c fr tu) w z
 have HV : Hid (Jj c l.r X fr tu = if (Ju X.p l.r (c.schV fr tu)).2 ≠ 0 then (X,(Ju X.p l.r (c.schV fr tu)).2) else if (Zn X.i (Ju X.p l.r (c.schV fr tu)).1).2 ≠ 0 then (X,(Zn X.i (Ju X.p l.r (c.schV fr tu)).1).2) else (⟨X.p,(Zn X.i (Ju X.p l.r (c.schV fr tu)).1).1,X.s⟩,0)):=rfl;have hMi:=Qeu X.p l.r (c.schV fr tu);generalize Jj c l.r X fr tu = V at *;generalize Ju X.p l.r (c.schV fr tu) = M at *;obtain ⟨⟨Mn,Md⟩,Me⟩:=M;simp only [] at HV NI hMi
 go_enter Tryz.func118,Tryz.ntmps118
 go_upto_region 1 with (fail)
 obtain ⟨v,hv⟩:=Qg (w.alloc (.cells #[.int .i64 tu.y,.int .i64 tu.m,.bool tu.s,.int .i64 tu.d] 51));rw [← hv];have E : Qb w v:=by rw [hv];exact (Qb.refl _).alloc _
 have H7 : Qa v w.heap.size 51 #[.int .i64 tu.y,.int .i64 tu.m,.bool tu.s,.int .i64 tu.d]:=by rw [hv];exact (Qa.new _ _ _)
 clear hv;obtain ⟨b1,hb1⟩:=Qg (w.heap.size);rw [← hb1] at H7 ⊢;have hbr : w.heap.size ≤ b1:=by omega
 clear hb1;have n7 : b1 ≠ be:=by have:=he.lt;omega
 have n8 : b1 ≠ bd:=by have:=hd.lt;omega
 have HE:=hv0.trans E;have HO : Q5 [bd,bf,be] w v:=Q5.of_ext E;have Ht:=ht.ext E;have Hd:=hd.ext E;have Hl:=hl.ext E;have Hb:=hb.ext E;have Hf:=hf.ext E;have He:=he.ext E;clear E hv0;apply Vt (S:=fun w' b => Qb v0 w' ∧ w.heap.size ≤ b ∧ Q5 [bd,bf,be] w w' ∧ Qa w' bt 200 #[.func (.func 117) #[] #[.pointer (some ⟨be,0,none⟩)]] ∧ Qa w' bd 72 #[.int .i64 X.p.n,.int .i64 X.p.d,.int .i64 X.i.n,.int .i64 X.i.d,.int .i64 X.s.n,.int .i64 X.s.d] ∧ Qa w' bf 51 #[.int .i64 fr.y,.int .i64 fr.m,.bool fr.s,.int .i64 fr.d] ∧ Qa w' b1 51 #[.int .i64 tu.y,.int .i64 tu.m,.bool tu.s,.int .i64 tu.d] ∧ Qa w' be 29 #[.int .i64 Me] ∧ Qa w' b 65 #[.int .i64 Mn,.int .i64 Md] ∧ b1 ≠ b)
 ·refine Zb 15 [14] (fun x => Qb v0 x ∧ Qa x bt 200 #[.func (.func 117) #[] #[.pointer (some ⟨be,0,none⟩)]] ∧ Qa x bd 72 #[.int .i64 X.p.n,.int .i64 X.p.d,.int .i64 X.i.n,.int .i64 X.i.d,.int .i64 X.s.n,.int .i64 X.s.d] ∧ Qa x bl 67 #[.int .i64 l.p.n,.int .i64 l.p.d,.int .i64 l.r.n,.int .i64 l.r.d,.int .i64 l.f.y,.int .i64 l.f.m,.bool l.f.s,.int .i64 l.f.d] ∧ Qa x bb 130 #[.slice A c.nk ca,.slice A' c.ny cb] ∧ Qa x bf 51 #[.int .i64 fr.y,.int .i64 fr.m,.bool fr.s,.int .i64 fr.d] ∧ Qa x b1 51 #[.int .i64 tu.y,.int .i64 tu.m,.bool tu.s,.int .i64 tu.d]) Qo rfl ?_;intro vz hvz;replace HO:=HO.trans (Q5.of_ext hvz);replace HE:=HE.trans hvz;replace Ht:=Ht.ext hvz
  replace Hd:=Hd.ext hvz;replace Hl:=Hl.ext hvz;replace Hb:=Hb.ext hvz;replace Hf:=Hf.ext hvz;replace H7:=H7.ext hvz;replace He:=He.ext hvz;try replace Q:=Q.ext hvz
  clear hvz;refine Qs (g:=7) [0,1,2,3,4,5,6,7] [_,_,_,_,_,_,_,_] ⟨rfl,rfl,rfl,rfl,rfl,rfl,rfl,rfl,trivial⟩ (by kernel_rfl) (by kernel_rfl) ⟨HE,Ht,Hd,Hl,Hb,Hf,H7⟩ ?_;simp only [Qc,Qd,Qe];apply Exists.intro;refine ⟨fun u hu => ?_,?_⟩
  ·have t0:=hu.2.1.c1;have lt:=hu.2.1.lt;obtain ⟨d0,d1,d2,d3,d4,d5⟩:=hu.2.2.1.c6;have ld:=hu.2.2.1.lt;obtain ⟨p0,p1,p2,p3,p4,p5,p6,p7⟩:=hu.2.2.2.1.c8;have lp:=hu.2.2.2.1.lt;obtain ⟨k0,k1⟩:=hu.2.2.2.2.1.c2;have lk:=hu.2.2.2.2.1.lt;obtain ⟨f0,f1,f2,f3⟩:=hu.2.2.2.2.2.1.c4;have lf:=hu.2.2.2.2.2.1.lt;obtain ⟨s0,s1,s2,s3⟩:=hu.2.2.2.2.2.2.c4;have ls:=hu.2.2.2.2.2.2.lt;repeat (first | go_big_quiet_skip | (go_big_quiet_want;go_big_quiet_op;go_big_quiet_on))
   refine wpQuiet_nil ?_;rfl
  refine Zh 8 13 rfl rfl (by kernel_rfl) ?_ ?_
  ·simp only [Qc,Qd,Qe];go_wp2_with (go_at_call 92;(with_reducible refine Calls.mono (Mz A A' ca cb c fr tu _ (C.ext HE)) ?_);rintro e wa ⟨rfl,h4⟩);replace HO:=HO.trans (Q5.of_ext h4);replace HE:=HE.trans h4;replace Ht:=Ht.ext h4;replace Hd:=Hd.ext h4;replace Hl:=Hl.ext h4;replace Hb:=Hb.ext h4;replace Hf:=Hf.ext h4;replace H7:=H7.ext h4;replace He:=He.ext h4;try replace Q:=Q.ext h4
   clear h4;refine Qh ⟨HE,Ht,Hd,Hl,Hb,Hf,H7⟩ ?_;refine Zh 9 13 rfl rfl (by kernel_rfl) ?_ ?_
   ·simp only [Qc,Qd,Qe];go_wp2_with (go_at_call 28;(with_reducible refine Calls.mono (NI _ (Z.ext HE)) ?_);rintro e wc ⟨rfl,h4⟩);replace HO:=HO.trans (Q5.of_ext h4);replace HE:=HE.trans h4;replace Ht:=Ht.ext h4;replace Hd:=Hd.ext h4;replace Hl:=Hl.ext h4;replace Hb:=Hb.ext h4;replace Hf:=Hf.ext h4;replace H7:=H7.ext h4;replace He:=He.ext h4;try replace Q:=Q.ext h4
    clear h4;refine Qh ⟨HE,Ht,Hd,Hl,Hb,Hf,H7⟩ ?_;refine Qs (g:=3) [10,11] [_,_] ⟨rfl,rfl,trivial⟩ (by kernel_rfl) (by kernel_rfl) ⟨HE,Ht,Hd,Hl,Hb,Hf,H7⟩ ?_;simp only [Qc,Qd,Qe];apply Exists.intro;refine ⟨fun u hu => ?_,?_⟩
    ·have t0:=hu.2.1.c1;have lt:=hu.2.1.lt;obtain ⟨d0,d1,d2,d3,d4,d5⟩:=hu.2.2.1.c6;have ld:=hu.2.2.1.lt;obtain ⟨p0,p1,p2,p3,p4,p5,p6,p7⟩:=hu.2.2.2.1.c8;have lp:=hu.2.2.2.1.lt;obtain ⟨k0,k1⟩:=hu.2.2.2.2.1.c2;have lk:=hu.2.2.2.2.1.lt;obtain ⟨f0,f1,f2,f3⟩:=hu.2.2.2.2.2.1.c4;have lf:=hu.2.2.2.2.2.1.lt;obtain ⟨s0,s1,s2,s3⟩:=hu.2.2.2.2.2.2.c4;have ls:=hu.2.2.2.2.2.2.lt;repeat (first | go_big_quiet_skip | (go_big_quiet_want;go_big_quiet_op;go_big_quiet_on))
     refine wpQuiet_nil ?_;rfl
    refine Zh 12 13 rfl rfl (by kernel_rfl) ?_ ?_
    ·simp only [Qc,Qd,Qe];go_wp2_with (first | (go_at_call 117;(with_reducible refine Calls.mono (Xf ⟨Mn,Md⟩ Me 0 be _ He) ?_);rintro e we ⟨rfl,h5,He2⟩) | (go_at_fn 117;(with_reducible refine Calls.mono (Xf ⟨Mn,Md⟩ Me 0 be _ He) ?_);rintro e we ⟨rfl,h5,He2⟩));try rw [if_pos rfl] at He2
     have h5':=h5.mono (T:=[bd,bf,be]) (fun k hk => by rw [List.mem_singleton.1 hk];simp);replace HO:=HO.trans h5';replace HE:=h5.ext HE (fun k hk => by rw [List.mem_singleton.1 hk];exact g3);replace Ht:=h5.held Ht (by simp only [List.mem_singleton];exact fun e => n4 (by rw [e];simp));replace Hd:=h5.held Hd (by simp only [List.mem_singleton];exact n2);replace Hl:=h5.held Hl (by simp only [List.mem_singleton];exact fun e => n5 (by rw [e];simp));replace Hb:=h5.held Hb (by simp only [List.mem_singleton];exact fun e => n6 (by rw [e];simp));replace Hf:=h5.held Hf (by simp only [List.mem_singleton];exact n3);replace H7:=h5.held H7 (by simp only [List.mem_singleton];exact n7)
     try replace Q:=h5.held Q (by simp only [List.mem_singleton];have:=he.lt;omega)
     have He:=He2;clear h5 h5' He2;refine Qh ⟨HE,Ht,Hd,Hl,Hb,Hf,H7⟩ ?_;refine Ql 13 rfl (by kernel_rfl) ?_;simp only [Qc,Qd,Qe];go_wp2;obtain ⟨bq,hbq,Q,HE',hge⟩:=Xh HE 65 #[.int .i64 0,.int .i64 0];rw [← hbq];have hb1q : b1 ≠ bq:=by have:=H7.lt;omega
     have hwq : w.heap.size ≤ bq:=by have:=HO.size;omega
     have HO':=HO.trans (Q5.of_ext (S:=[bd,bf,be]) ((Qb.refl _).alloc (.cells #[.int .i64 0,.int .i64 0] 65)));clear hbq;replace Ht:=Ht.alloc (.cells #[.int .i64 0,.int .i64 0] 65);replace Hd:=Hd.alloc (.cells #[.int .i64 0,.int .i64 0] 65);replace Hl:=Hl.alloc (.cells #[.int .i64 0,.int .i64 0] 65);replace Hb:=Hb.alloc (.cells #[.int .i64 0,.int .i64 0] 65);replace Hf:=Hf.alloc (.cells #[.int .i64 0,.int .i64 0] 65);replace H7:=H7.alloc (.cells #[.int .i64 0,.int .i64 0] 65);replace He:=He.alloc (.cells #[.int .i64 0,.int .i64 0] 65);replace HE:=HE';replace HO:=HO';clear HE' HO';refine Qh ⟨HE,Ht,Hd,Hl,Hb,Hf,H7⟩ ?_;refine Qr 14 rfl (by kernel_rfl) ?_
     simp only [Qc,Qd,Qe];have z0:=Q.frozen 0;have z1:=Q.frozen 1;obtain ⟨x0,x1⟩:=Q.c2;have lx:=Q.lt;have Q2:=Qm Q (.int .i64 Mn) (.int .i64 Md);have hbq2 : ∀ b,b < w.heap.size → b ≠ bq:=fun b h => by omega
     have Ht':=Qi (Qi Ht (hbq2 _ ht.lt) 0 (.int .i64 Mn)) (hbq2 _ ht.lt) 1 (.int .i64 Md);have Hd':=Qi (Qi Hd (hbq2 _ hd.lt) 0 (.int .i64 Mn)) (hbq2 _ hd.lt) 1 (.int .i64 Md);have Hl':=Qi (Qi Hl (hbq2 _ hl.lt) 0 (.int .i64 Mn)) (hbq2 _ hl.lt) 1 (.int .i64 Md);have Hb':=Qi (Qi Hb (hbq2 _ hb.lt) 0 (.int .i64 Mn)) (hbq2 _ hb.lt) 1 (.int .i64 Md);have Hf':=Qi (Qi Hf (hbq2 _ hf.lt) 0 (.int .i64 Mn)) (hbq2 _ hf.lt) 1 (.int .i64 Md);have He':=Qi (Qi He (hbq2 _ he.lt) 0 (.int .i64 Mn)) (hbq2 _ he.lt) 1 (.int .i64 Md);have H7':=Qi (Qi H7 hb1q 0 (.int .i64 Mn)) hb1q 1 (.int .i64 Md);have HO2:=HO.far hwq 0 1 (.int .i64 Mn) (.int .i64 Md)
     have HE2:=(HE.setCell (p:=⟨bq,0,none⟩) hge (.int .i64 Mn)).setCell (p:=⟨bq,1,none⟩) hge (.int .i64 Md);go_wp2;refine Qq ?_;refine Qv (by kernel_rfl) ?_;exact Yc bq ⟨HE2,hwq,HO2,Ht',Hd',Hf',H7',He',Q2,hb1q⟩ rfl
    ·simp only [Qc, Qd, Qe];go_wp2;obtain ⟨bq, hbq, Q, HE', hge⟩ := Xh HE 65 #[.int .i64 0, .int .i64 0];rw [← hbq];have hb1q : b1 ≠ bq := by have := H7.lt; omega
     have hwq : w.heap.size ≤ bq:=by have:=HO.size;omega
     have HO':=HO.trans (Q5.of_ext (S:=[bd,bf,be]) ((Qb.refl _).alloc (.cells #[.int .i64 0,.int .i64 0] 65)));clear hbq;replace Ht:=Ht.alloc (.cells #[.int .i64 0,.int .i64 0] 65);replace Hd:=Hd.alloc (.cells #[.int .i64 0,.int .i64 0] 65);replace Hl:=Hl.alloc (.cells #[.int .i64 0,.int .i64 0] 65);replace Hb:=Hb.alloc (.cells #[.int .i64 0,.int .i64 0] 65);replace Hf:=Hf.alloc (.cells #[.int .i64 0,.int .i64 0] 65);replace H7:=H7.alloc (.cells #[.int .i64 0,.int .i64 0] 65);replace He:=He.alloc (.cells #[.int .i64 0,.int .i64 0] 65);replace HE:=HE';replace HO:=HO';clear HE' HO';refine Qh ⟨HE,Ht,Hd,Hl,Hb,Hf,H7⟩ ?_;refine Ql 12 rfl (by kernel_rfl) ?_
     simp only [Qc,Qd,Qe];go_wp2_with (first | (go_at_call 117;(with_reducible refine Calls.mono (Xf ⟨Mn,Md⟩ Me 0 be _ He) ?_);rintro e we ⟨rfl,h5,He2⟩) | (go_at_fn 117;(with_reducible refine Calls.mono (Xf ⟨Mn,Md⟩ Me 0 be _ He) ?_);rintro e we ⟨rfl,h5,He2⟩));try rw [if_pos rfl] at He2
     have h5':=h5.mono (T:=[bd,bf,be]) (fun k hk => by rw [List.mem_singleton.1 hk];simp);replace HO:=HO.trans h5';replace HE:=h5.ext HE (fun k hk => by rw [List.mem_singleton.1 hk];exact g3);replace Ht:=h5.held Ht (by simp only [List.mem_singleton];exact fun e => n4 (by rw [e];simp));replace Hd:=h5.held Hd (by simp only [List.mem_singleton];exact n2);replace Hl:=h5.held Hl (by simp only [List.mem_singleton];exact fun e => n5 (by rw [e];simp));replace Hb:=h5.held Hb (by simp only [List.mem_singleton];exact fun e => n6 (by rw [e];simp));replace Hf:=h5.held Hf (by simp only [List.mem_singleton];exact n3);replace H7:=h5.held H7 (by simp only [List.mem_singleton];exact n7)
     try replace Q:=h5.held Q (by simp only [List.mem_singleton];have:=he.lt;omega)
     have He:=He2;clear h5 h5' He2;refine Qh ⟨HE,Ht,Hd,Hl,Hb,Hf,H7⟩ ?_;refine Qr 14 rfl (by kernel_rfl) ?_;simp only [Qc,Qd,Qe];have z0:=Q.frozen 0;have z1:=Q.frozen 1;obtain ⟨x0,x1⟩:=Q.c2;have lx:=Q.lt;have Q2:=Qm Q (.int .i64 Mn) (.int .i64 Md);have hbq2 : ∀ b,b < w.heap.size → b ≠ bq:=fun b h => by omega
     have Ht':=Qi (Qi Ht (hbq2 _ ht.lt) 0 (.int .i64 Mn)) (hbq2 _ ht.lt) 1 (.int .i64 Md);have Hd':=Qi (Qi Hd (hbq2 _ hd.lt) 0 (.int .i64 Mn)) (hbq2 _ hd.lt) 1 (.int .i64 Md);have Hl':=Qi (Qi Hl (hbq2 _ hl.lt) 0 (.int .i64 Mn)) (hbq2 _ hl.lt) 1 (.int .i64 Md);have Hb':=Qi (Qi Hb (hbq2 _ hb.lt) 0 (.int .i64 Mn)) (hbq2 _ hb.lt) 1 (.int .i64 Md);have Hf':=Qi (Qi Hf (hbq2 _ hf.lt) 0 (.int .i64 Mn)) (hbq2 _ hf.lt) 1 (.int .i64 Md);have He':=Qi (Qi He (hbq2 _ he.lt) 0 (.int .i64 Mn)) (hbq2 _ he.lt) 1 (.int .i64 Md);have H7':=Qi (Qi H7 hb1q 0 (.int .i64 Mn)) hb1q 1 (.int .i64 Md);have HO2:=HO.far hwq 0 1 (.int .i64 Mn) (.int .i64 Md)
     have HE2:=(HE.setCell (p:=⟨bq,0,none⟩) hge (.int .i64 Mn)).setCell (p:=⟨bq,1,none⟩) hge (.int .i64 Md);go_wp2;refine Qq ?_;refine Qv (by kernel_rfl) ?_;exact Yc bq ⟨HE2,hwq,HO2,Ht',Hd',Hf',H7',He',Q2,hb1q⟩ rfl
   ·simp only [Qc, Qd, Qe];go_wp2;obtain ⟨bq, hbq, Q, HE', hge⟩ := Xh HE 65 #[.int .i64 0, .int .i64 0];rw [← hbq];have hb1q : b1 ≠ bq := by have := H7.lt; omega
    have hwq : w.heap.size ≤ bq:=by have:=HO.size;omega
    have HO':=HO.trans (Q5.of_ext (S:=[bd,bf,be]) ((Qb.refl _).alloc (.cells #[.int .i64 0,.int .i64 0] 65)));clear hbq;replace Ht:=Ht.alloc (.cells #[.int .i64 0,.int .i64 0] 65);replace Hd:=Hd.alloc (.cells #[.int .i64 0,.int .i64 0] 65);replace Hl:=Hl.alloc (.cells #[.int .i64 0,.int .i64 0] 65);replace Hb:=Hb.alloc (.cells #[.int .i64 0,.int .i64 0] 65);replace Hf:=Hf.alloc (.cells #[.int .i64 0,.int .i64 0] 65);replace H7:=H7.alloc (.cells #[.int .i64 0,.int .i64 0] 65);replace He:=He.alloc (.cells #[.int .i64 0,.int .i64 0] 65);replace HE:=HE';replace HO:=HO';clear HE' HO';refine Qh ⟨HE,Ht,Hd,Hl,Hb,Hf,H7⟩ ?_;refine Ql 9 rfl (by kernel_rfl) ?_
    simp only [Qc,Qd,Qe];go_wp2_with (go_at_call 28;(with_reducible refine Calls.mono (NI _ (Z.ext HE)) ?_);rintro e wc ⟨rfl,h4⟩);replace HO:=HO.trans (Q5.of_ext h4);replace HE:=HE.trans h4;replace Ht:=Ht.ext h4;replace Hd:=Hd.ext h4;replace Hl:=Hl.ext h4;replace Hb:=Hb.ext h4;replace Hf:=Hf.ext h4;replace H7:=H7.ext h4;replace He:=He.ext h4;try replace Q:=Q.ext h4
    clear h4;refine Qh ⟨HE,Ht,Hd,Hl,Hb,Hf,H7⟩ ?_;refine Qs (g:=2) [10,11] [_,_] ⟨rfl,rfl,trivial⟩ (by kernel_rfl) (by kernel_rfl) ⟨HE,Ht,Hd,Hl,Hb,Hf,H7⟩ ?_;simp only [Qc,Qd,Qe];apply Exists.intro;refine ⟨fun u hu => ?_,?_⟩
    ·have t0:=hu.2.1.c1;have lt:=hu.2.1.lt;obtain ⟨d0,d1,d2,d3,d4,d5⟩:=hu.2.2.1.c6;have ld:=hu.2.2.1.lt;obtain ⟨p0,p1,p2,p3,p4,p5,p6,p7⟩:=hu.2.2.2.1.c8;have lp:=hu.2.2.2.1.lt;obtain ⟨k0,k1⟩:=hu.2.2.2.2.1.c2;have lk:=hu.2.2.2.2.1.lt;obtain ⟨f0,f1,f2,f3⟩:=hu.2.2.2.2.2.1.c4;have lf:=hu.2.2.2.2.2.1.lt;obtain ⟨s0,s1,s2,s3⟩:=hu.2.2.2.2.2.2.c4;have ls:=hu.2.2.2.2.2.2.lt;repeat (first | go_big_quiet_skip | (go_big_quiet_want;go_big_quiet_op;go_big_quiet_on))
     refine wpQuiet_nil ?_;rfl
    refine Ql 12 rfl (by kernel_rfl) ?_;simp only [Qc,Qd,Qe];go_wp2_with (first | (go_at_call 117;(with_reducible refine Calls.mono (Xf ⟨Mn,Md⟩ Me 0 be _ He) ?_);rintro e we ⟨rfl,h5,He2⟩) | (go_at_fn 117;(with_reducible refine Calls.mono (Xf ⟨Mn,Md⟩ Me 0 be _ He) ?_);rintro e we ⟨rfl,h5,He2⟩));try rw [if_pos rfl] at He2
    have h5':=h5.mono (T:=[bd,bf,be]) (fun k hk => by rw [List.mem_singleton.1 hk];simp);replace HO:=HO.trans h5';replace HE:=h5.ext HE (fun k hk => by rw [List.mem_singleton.1 hk];exact g3);replace Ht:=h5.held Ht (by simp only [List.mem_singleton];exact fun e => n4 (by rw [e];simp));replace Hd:=h5.held Hd (by simp only [List.mem_singleton];exact n2);replace Hl:=h5.held Hl (by simp only [List.mem_singleton];exact fun e => n5 (by rw [e];simp));replace Hb:=h5.held Hb (by simp only [List.mem_singleton];exact fun e => n6 (by rw [e];simp));replace Hf:=h5.held Hf (by simp only [List.mem_singleton];exact n3);replace H7:=h5.held H7 (by simp only [List.mem_singleton];exact n7)
    try replace Q:=h5.held Q (by simp only [List.mem_singleton];have:=he.lt;omega)
    have He:=He2;clear h5 h5' He2;refine Qh ⟨HE,Ht,Hd,Hl,Hb,Hf,H7⟩ ?_;refine Qr 14 rfl (by kernel_rfl) ?_;simp only [Qc,Qd,Qe];have z0:=Q.frozen 0;have z1:=Q.frozen 1;obtain ⟨x0,x1⟩:=Q.c2;have lx:=Q.lt;have Q2:=Qm Q (.int .i64 Mn) (.int .i64 Md);have hbq2 : ∀ b,b < w.heap.size → b ≠ bq:=fun b h => by omega
    have Ht':=Qi (Qi Ht (hbq2 _ ht.lt) 0 (.int .i64 Mn)) (hbq2 _ ht.lt) 1 (.int .i64 Md);have Hd':=Qi (Qi Hd (hbq2 _ hd.lt) 0 (.int .i64 Mn)) (hbq2 _ hd.lt) 1 (.int .i64 Md);have Hl':=Qi (Qi Hl (hbq2 _ hl.lt) 0 (.int .i64 Mn)) (hbq2 _ hl.lt) 1 (.int .i64 Md);have Hb':=Qi (Qi Hb (hbq2 _ hb.lt) 0 (.int .i64 Mn)) (hbq2 _ hb.lt) 1 (.int .i64 Md);have Hf':=Qi (Qi Hf (hbq2 _ hf.lt) 0 (.int .i64 Mn)) (hbq2 _ hf.lt) 1 (.int .i64 Md);have He':=Qi (Qi He (hbq2 _ he.lt) 0 (.int .i64 Mn)) (hbq2 _ he.lt) 1 (.int .i64 Md);have H7':=Qi (Qi H7 hb1q 0 (.int .i64 Mn)) hb1q 1 (.int .i64 Md);have HO2:=HO.far hwq 0 1 (.int .i64 Mn) (.int .i64 Md)
    have HE2:=(HE.setCell (p:=⟨bq,0,none⟩) hge (.int .i64 Mn)).setCell (p:=⟨bq,1,none⟩) hge (.int .i64 Md);go_wp2;refine Qq ?_;refine Qv (by kernel_rfl) ?_;exact Yc bq ⟨HE2,hwq,HO2,Ht',Hd',Hf',H7',He',Q2,hb1q⟩ rfl
  ·simp only [Qc, Qd, Qe];go_wp2;obtain ⟨bq, hbq, Q, HE', hge⟩ := Xh HE 65 #[.int .i64 0, .int .i64 0];rw [← hbq];have hb1q : b1 ≠ bq := by have := H7.lt; omega
   have hwq : w.heap.size ≤ bq:=by have:=HO.size;omega
   have HO':=HO.trans (Q5.of_ext (S:=[bd,bf,be]) ((Qb.refl _).alloc (.cells #[.int .i64 0,.int .i64 0] 65)));clear hbq;replace Ht:=Ht.alloc (.cells #[.int .i64 0,.int .i64 0] 65);replace Hd:=Hd.alloc (.cells #[.int .i64 0,.int .i64 0] 65);replace Hl:=Hl.alloc (.cells #[.int .i64 0,.int .i64 0] 65);replace Hb:=Hb.alloc (.cells #[.int .i64 0,.int .i64 0] 65);replace Hf:=Hf.alloc (.cells #[.int .i64 0,.int .i64 0] 65);replace H7:=H7.alloc (.cells #[.int .i64 0,.int .i64 0] 65);replace He:=He.alloc (.cells #[.int .i64 0,.int .i64 0] 65);replace HE:=HE';replace HO:=HO';clear HE' HO';refine Qh ⟨HE,Ht,Hd,Hl,Hb,Hf,H7⟩ ?_;refine Ql 8 rfl (by kernel_rfl) ?_
   simp only [Qc,Qd,Qe];go_wp2_with (go_at_call 92;(with_reducible refine Calls.mono (Mz A A' ca cb c fr tu _ (C.ext HE)) ?_);rintro e wa ⟨rfl,h4⟩);replace HO:=HO.trans (Q5.of_ext h4);replace HE:=HE.trans h4;replace Ht:=Ht.ext h4;replace Hd:=Hd.ext h4;replace Hl:=Hl.ext h4;replace Hb:=Hb.ext h4;replace Hf:=Hf.ext h4;replace H7:=H7.ext h4;replace He:=He.ext h4;try replace Q:=Q.ext h4
   clear h4;refine Qh ⟨HE,Ht,Hd,Hl,Hb,Hf,H7⟩ ?_;refine Ql 9 rfl (by kernel_rfl) ?_;simp only [Qc,Qd,Qe];go_wp2_with (go_at_call 28;(with_reducible refine Calls.mono (NI _ (Z.ext HE)) ?_);rintro e wc ⟨rfl,h4⟩);replace HO:=HO.trans (Q5.of_ext h4);replace HE:=HE.trans h4;replace Ht:=Ht.ext h4;replace Hd:=Hd.ext h4;replace Hl:=Hl.ext h4;replace Hb:=Hb.ext h4;replace Hf:=Hf.ext h4;replace H7:=H7.ext h4;replace He:=He.ext h4;try replace Q:=Q.ext h4
   clear h4;refine Qh ⟨HE,Ht,Hd,Hl,Hb,Hf,H7⟩ ?_;refine Qs (g:=2) [10,11] [_,_] ⟨rfl,rfl,trivial⟩ (by kernel_rfl) (by kernel_rfl) ⟨HE,Ht,Hd,Hl,Hb,Hf,H7⟩ ?_;simp only [Qc,Qd,Qe];apply Exists.intro;refine ⟨fun u hu => ?_,?_⟩
   ·have t0:=hu.2.1.c1;have lt:=hu.2.1.lt;obtain ⟨d0,d1,d2,d3,d4,d5⟩:=hu.2.2.1.c6;have ld:=hu.2.2.1.lt;obtain ⟨p0,p1,p2,p3,p4,p5,p6,p7⟩:=hu.2.2.2.1.c8;have lp:=hu.2.2.2.1.lt;obtain ⟨k0,k1⟩:=hu.2.2.2.2.1.c2;have lk:=hu.2.2.2.2.1.lt;obtain ⟨f0,f1,f2,f3⟩:=hu.2.2.2.2.2.1.c4;have lf:=hu.2.2.2.2.2.1.lt;obtain ⟨s0,s1,s2,s3⟩:=hu.2.2.2.2.2.2.c4;have ls:=hu.2.2.2.2.2.2.lt;repeat (first | go_big_quiet_skip | (go_big_quiet_want;go_big_quiet_op;go_big_quiet_on))
    refine wpQuiet_nil ?_;rfl
   refine Ql 12 rfl (by kernel_rfl) ?_;simp only [Qc,Qd,Qe];go_wp2_with (first | (go_at_call 117;(with_reducible refine Calls.mono (Xf ⟨Mn,Md⟩ Me 0 be _ He) ?_);rintro e we ⟨rfl,h5,He2⟩) | (go_at_fn 117;(with_reducible refine Calls.mono (Xf ⟨Mn,Md⟩ Me 0 be _ He) ?_);rintro e we ⟨rfl,h5,He2⟩));try rw [if_pos rfl] at He2
   have h5':=h5.mono (T:=[bd,bf,be]) (fun k hk => by rw [List.mem_singleton.1 hk];simp);replace HO:=HO.trans h5';replace HE:=h5.ext HE (fun k hk => by rw [List.mem_singleton.1 hk];exact g3);replace Ht:=h5.held Ht (by simp only [List.mem_singleton];exact fun e => n4 (by rw [e];simp));replace Hd:=h5.held Hd (by simp only [List.mem_singleton];exact n2);replace Hl:=h5.held Hl (by simp only [List.mem_singleton];exact fun e => n5 (by rw [e];simp));replace Hb:=h5.held Hb (by simp only [List.mem_singleton];exact fun e => n6 (by rw [e];simp));replace Hf:=h5.held Hf (by simp only [List.mem_singleton];exact n3);replace H7:=h5.held H7 (by simp only [List.mem_singleton];exact n7)
   try replace Q:=h5.held Q (by simp only [List.mem_singleton];have:=he.lt;omega)
   have He:=He2;clear h5 h5' He2;refine Qh ⟨HE,Ht,Hd,Hl,Hb,Hf,H7⟩ ?_;refine Qr 14 rfl (by kernel_rfl) ?_;simp only [Qc,Qd,Qe];have z0:=Q.frozen 0;have z1:=Q.frozen 1;obtain ⟨x0,x1⟩:=Q.c2;have lx:=Q.lt;have Q2:=Qm Q (.int .i64 Mn) (.int .i64 Md);have hbq2 : ∀ b,b < w.heap.size → b ≠ bq:=fun b h => by omega
   have Ht':=Qi (Qi Ht (hbq2 _ ht.lt) 0 (.int .i64 Mn)) (hbq2 _ ht.lt) 1 (.int .i64 Md);have Hd':=Qi (Qi Hd (hbq2 _ hd.lt) 0 (.int .i64 Mn)) (hbq2 _ hd.lt) 1 (.int .i64 Md);have Hl':=Qi (Qi Hl (hbq2 _ hl.lt) 0 (.int .i64 Mn)) (hbq2 _ hl.lt) 1 (.int .i64 Md);have Hb':=Qi (Qi Hb (hbq2 _ hb.lt) 0 (.int .i64 Mn)) (hbq2 _ hb.lt) 1 (.int .i64 Md);have Hf':=Qi (Qi Hf (hbq2 _ hf.lt) 0 (.int .i64 Mn)) (hbq2 _ hf.lt) 1 (.int .i64 Md);have He':=Qi (Qi He (hbq2 _ he.lt) 0 (.int .i64 Mn)) (hbq2 _ he.lt) 1 (.int .i64 Md);have H7':=Qi (Qi H7 hb1q 0 (.int .i64 Mn)) hb1q 1 (.int .i64 Md);have HO2:=HO.far hwq 0 1 (.int .i64 Mn) (.int .i64 Md)
   have HE2:=(HE.setCell (p:=⟨bq,0,none⟩) hge (.int .i64 Mn)).setCell (p:=⟨bq,1,none⟩) hge (.int .i64 Md);go_wp2;refine Qq ?_;refine Qv (by kernel_rfl) ?_;exact Yc bq ⟨HE2,hwq,HO2,Ht',Hd',Hf',H7',He',Q2,hb1q⟩ rfl
 rintro b8 w3 ⟨HE3,hw8,HO3,Ht3,Hd3,Hf3,H73,He3,Q,n9⟩;clear HE HO Ht Hd Hf He H7 Hl Hb NI;have HE:=HE3;have HO:=HO3;have Ht:=Ht3;have Hd:=Hd3;have Hf:=Hf3;have H7:=H73;have He:=He3;clear HE3 HO3 Ht3 Hd3 Hf3 H73 He3;have e0:=He.c1;have le:=He.lt;by_cases h0 : Me = 0
 ·subst h0;have NA:=fun w z => Lk X.i ⟨Mn,Md⟩ hX.i hMi w z
  have hSi:=Vz X.i ⟨Mn,Md⟩;have hV:=HV.out;rw [if_neg (by simp)] at hV;generalize Zn X.i ⟨Mn,Md⟩ = S at *;obtain ⟨⟨Sn,Sd⟩,Se⟩:=S
  have hV2 : V.2 = Se ∧ (Se = 0 → V.1 = ⟨X.p,⟨Sn,Sd⟩,X.s⟩):=by
   rw [hV];by_cases hs : Se = 0
   ·rw [if_neg (by simpa using hs)];exact ⟨hs.symm,fun _ => rfl⟩
   ·rw [if_pos hs];exact ⟨rfl,fun h => absurd h hs⟩
  replace hV2:=Lib.hid hV2;clear HV hV;go_upto_region 3 with (fail)
  clear e0 le;refine Zb 10 [9] (fun x => Qb v0 x ∧ Qa x bt 200 #[.func (.func 117) #[] #[.pointer (some ⟨be,0,none⟩)]] ∧ Qa x bd 72 #[.int .i64 X.p.n,.int .i64 X.p.d,.int .i64 X.i.n,.int .i64 X.i.d,.int .i64 X.s.n,.int .i64 X.s.d] ∧ Qa x b8 65 #[.int .i64 Mn,.int .i64 Md] ∧ True) Qo rfl ?_;intro vz hvz;replace HO:=HO.trans (Q5.of_ext hvz);replace HE:=HE.trans hvz;replace Ht:=Ht.ext hvz;replace Hd:=Hd.ext hvz;replace Hf:=Hf.ext hvz;replace H7:=H7.ext hvz;replace He:=He.ext hvz;replace Q:=Q.ext hvz;clear hvz;refine Qs (g:=6) [0,1,2,3] [_,_,_,_] ⟨rfl,rfl,rfl,rfl,trivial⟩ (by kernel_rfl) (by kernel_rfl) ⟨HE,Ht,Hd,Q,trivial⟩ ?_;simp only [Qc,Qd,Qe]
  apply Exists.intro;refine ⟨fun u hu => ?_,?_⟩
  ·have t0:=hu.2.1.c1;have lt:=hu.2.1.lt;obtain ⟨d0,d1,d2,d3,d4,d5⟩:=hu.2.2.1.c6;have ld:=hu.2.2.1.lt;obtain ⟨r0,r1⟩:=hu.2.2.2.1.c2;have lr:=hu.2.2.2.1.lt;repeat (first | go_big_quiet_skip | (go_big_quiet_want;go_big_quiet_op;go_big_quiet_on))
   refine wpQuiet_nil ?_;rfl
  refine Ql 4 rfl (by kernel_rfl) ?_;simp only [Qc,Qd,Qe];go_wp2_with (go_at_call 86;(with_reducible refine Calls.mono (NA _ (Z.ext HE)) ?_);rintro e wc ⟨rfl,h4⟩);replace HO:=HO.trans (Q5.of_ext h4);replace HE:=HE.trans h4;replace Ht:=Ht.ext h4;replace Hd:=Hd.ext h4;replace Hf:=Hf.ext h4;replace H7:=H7.ext h4;replace He:=He.ext h4;replace Q:=Q.ext h4;clear h4;refine Qh ⟨HE,Ht,Hd,Q,trivial⟩ ?_;refine Qs (g:=3) [5,6] [_,_] ⟨rfl,rfl,trivial⟩ (by kernel_rfl) (by kernel_rfl) ⟨HE,Ht,Hd,Q,trivial⟩ ?_;simp only [Qc,Qd,Qe];apply Exists.intro;refine ⟨fun u hu => ?_,?_⟩
  ·have t0:=hu.2.1.c1;have lt:=hu.2.1.lt;obtain ⟨d0,d1,d2,d3,d4,d5⟩:=hu.2.2.1.c6;have ld:=hu.2.2.1.lt;obtain ⟨r0,r1⟩:=hu.2.2.2.1.c2;have lr:=hu.2.2.2.1.lt;repeat (first | go_big_quiet_skip | (go_big_quiet_want;go_big_quiet_op;go_big_quiet_on))
   refine wpQuiet_nil ?_;rfl
  refine Ql 7 rfl (by kernel_rfl) ?_;simp only [Qc,Qd,Qe];go_wp2_with (first | (go_at_call 117;(with_reducible refine Calls.mono (Xf ⟨Sn,Sd⟩ Se 0 be _ He) ?_);rintro e we ⟨rfl,h5,He2⟩) | (go_at_fn 117;(with_reducible refine Calls.mono (Xf ⟨Sn,Sd⟩ Se 0 be _ He) ?_);rintro e we ⟨rfl,h5,He2⟩));try rw [if_pos rfl] at He2
  have h5':=h5.mono (T:=[bd,bf,be]) (fun k hk => by rw [List.mem_singleton.1 hk];simp);replace HO:=HO.trans h5';replace HE:=h5.ext HE (fun k hk => by rw [List.mem_singleton.1 hk];exact g3);replace Ht:=h5.held Ht (by simp only [List.mem_singleton];exact fun e => n4 (by rw [e];simp));replace Hd:=h5.held Hd (by simp only [List.mem_singleton];exact n2);replace Hf:=h5.held Hf (by simp only [List.mem_singleton];exact n3);replace H7:=h5.held H7 (by simp only [List.mem_singleton];exact n7);replace Q:=h5.held Q (by simp only [List.mem_singleton];have:=he.lt;omega);have He:=He2;clear h5 h5' He2;refine Qh ⟨HE,Ht,Hd,Q,trivial⟩ ?_;refine Qs (g:=1) [8] [_] ⟨rfl,trivial⟩ (by kernel_rfl) (by kernel_rfl) ⟨HE,Ht,Hd,Q,trivial⟩ ?_
  simp only [Qc,Qd,Qe];apply Exists.intro;refine ⟨fun u hu => ?_,?_⟩
  ·have t0:=hu.2.1.c1;have lt:=hu.2.1.lt;obtain ⟨d0,d1,d2,d3,d4,d5⟩:=hu.2.2.1.c6;have ld:=hu.2.2.1.lt;obtain ⟨r0,r1⟩:=hu.2.2.2.1.c2;have lr:=hu.2.2.2.1.lt;repeat (first | go_big_quiet_skip | (go_big_quiet_want;go_big_quiet_op;go_big_quiet_on))
   refine wpQuiet_nil ?_;rfl
  refine Qr 9 rfl (by kernel_rfl) ?_;simp only [Qc,Qd,Qe];have z2:=Hd.frozen 2;have z3:=Hd.frozen 3;obtain ⟨x0,x1,x2,x3,x4,x5⟩:=Hd.c6;have lx:=Hd.lt;have Hd2:=Nt Hd (.int .i64 Sn) (.int .i64 Sd);have Hf:=Qi (Qi Hf (Ne.symm n1) 2 (.int .i64 Sn)) (Ne.symm n1) 3 (.int .i64 Sd);have He:=Qi (Qi He (Ne.symm n2) 2 (.int .i64 Sn)) (Ne.symm n2) 3 (.int .i64 Sd);have H7:=Qi (Qi H7 (n8) 2 (.int .i64 Sn)) (n8) 3 (.int .i64 Sd);have HO:=(HO.trans (Q5.set _ (by simp : bd ∈ [bd,bf,be]) 2 (.int .i64 Sn))).trans (Q5.set _ (by simp : bd ∈ [bd,bf,be]) 3 (.int .i64 Sd));go_wp2;refine Qq ?_;refine Qv (by kernel_rfl) ?_;have Hd:=Hd2
  generalize World.setCell _ _ _ = wq at *;clear z2 z3 x0 x1 x2 x3 x4 x5 lx
  have YY : ∃ Y : Db,Y.In ∧ Qa (World.setCell (World.setCell (World.setCell (World.setCell wq ⟨bf,0,none⟩ (.int .i64 tu.y)) ⟨bf,1,none⟩ (.int .i64 tu.m)) ⟨bf,2,none⟩ (.bool tu.s)) ⟨bf,3,none⟩ (.int .i64 tu.d)) bd 72 #[.int .i64 Y.p.n,.int .i64 Y.p.d,.int .i64 Y.i.n,.int .i64 Y.i.d,.int .i64 Y.s.n,.int .i64 Y.s.d] ∧ (V.2 = 0 → Y = V.1) :=
   ⟨⟨X.p,⟨Sn,Sd⟩,X.s⟩,⟨hX.p,hSi,hX.s⟩,Qi (Qi (Qi (Qi Hd n1 0 (.int .i64 tu.y)) n1 1 (.int .i64 tu.m)) n1 2 (.bool tu.s)) n1 3 (.int .i64 tu.d),fun h => (hV2.out.2 (hV2.out.1.symm.trans h)).symm⟩
  have hVe:=Lib.hid hV2.out.1;obtain ⟨s0,s1,s2,s3⟩:=H7.c4;have ls:=H7.lt;obtain ⟨f0,f1,f2,f3⟩:=Hf.c4;have lf:=Hf.lt;have z0:=Hf.frozen 0;have z1:=Hf.frozen 1;have z2:=Hf.frozen 2;have z3:=Hf.frozen 3;have Hf2:=Bj Hf (.int .i64 tu.y) (.int .i64 tu.m) (.bool tu.s) (.int .i64 tu.d);have He2:=Qi (Qi (Qi (Qi He (Ne.symm n3) 0 (.int .i64 tu.y)) (Ne.symm n3) 1 (.int .i64 tu.m)) (Ne.symm n3) 2 (.bool tu.s)) (Ne.symm n3) 3 (.int .i64 tu.d);have Hd2:=Qi (Qi (Qi (Qi Hd n1 0 (.int .i64 tu.y)) n1 1 (.int .i64 tu.m)) n1 2 (.bool tu.s)) n1 3 (.int .i64 tu.d);have OF:=(((HO.trans (Q5.set _ (by simp : bf ∈ [bd,bf,be]) 0 (.int .i64 tu.y))).trans (Q5.set _ (by simp : bf ∈ [bd,bf,be]) 1 (.int .i64 tu.m))).trans (Q5.set _ (by simp : bf ∈ [bd,bf,be]) 2 (.bool tu.s))).trans (Q5.set _ (by simp : bf ∈ [bd,bf,be]) 3 (.int .i64 tu.d))
  go_wp2
  (try simp only [Exit.inBlock,Exit.then])
  refine bodyPost_end (results_none rfl _ _ _) rfl ⟨rfl,OF,Hf2,by rw [hVe.out];exact He2,YY⟩
 ·have g0 : (Me == 0) = false:=beq_eq_false_iff_ne.2 h0;have hV:=HV.out;rw [if_pos h0] at hV
  have YY : ∃ Y : Db,Y.In ∧ Qa (World.setCell (World.setCell (World.setCell (World.setCell w3 ⟨bf,0,none⟩ (.int .i64 tu.y)) ⟨bf,1,none⟩ (.int .i64 tu.m)) ⟨bf,2,none⟩ (.bool tu.s)) ⟨bf,3,none⟩ (.int .i64 tu.d)) bd 72 #[.int .i64 Y.p.n,.int .i64 Y.p.d,.int .i64 Y.i.n,.int .i64 Y.i.d,.int .i64 Y.s.n,.int .i64 Y.s.d] ∧ (V.2 = 0 → Y = V.1) :=
   ⟨X,hX,Qi (Qi (Qi (Qi Hd n1 0 (.int .i64 tu.y)) n1 1 (.int .i64 tu.m)) n1 2 (.bool tu.s)) n1 3 (.int .i64 tu.d),fun h => by rw [hV]⟩
  have hVe : V.2 = Me:=by rw [hV]
  clear HV hV h0;replace hVe:=Lib.hid hVe;obtain ⟨s0,s1,s2,s3⟩:=H7.c4;have ls:=H7.lt;obtain ⟨f0,f1,f2,f3⟩:=Hf.c4;have lf:=Hf.lt;have z0:=Hf.frozen 0;have z1:=Hf.frozen 1;have z2:=Hf.frozen 2;have z3:=Hf.frozen 3;have Hf2:=Bj Hf (.int .i64 tu.y) (.int .i64 tu.m) (.bool tu.s) (.int .i64 tu.d);have He2:=Qi (Qi (Qi (Qi He (Ne.symm n3) 0 (.int .i64 tu.y)) (Ne.symm n3) 1 (.int .i64 tu.m)) (Ne.symm n3) 2 (.bool tu.s)) (Ne.symm n3) 3 (.int .i64 tu.d);have Hd2:=Qi (Qi (Qi (Qi Hd n1 0 (.int .i64 tu.y)) n1 1 (.int .i64 tu.m)) n1 2 (.bool tu.s)) n1 3 (.int .i64 tu.d);have OF:=(((HO.trans (Q5.set _ (by simp : bf ∈ [bd,bf,be]) 0 (.int .i64 tu.y))).trans (Q5.set _ (by simp : bf ∈ [bd,bf,be]) 1 (.int .i64 tu.m))).trans (Q5.set _ (by simp : bf ∈ [bd,bf,be]) 2 (.bool tu.s))).trans (Q5.set _ (by simp : bf ∈ [bd,bf,be]) 3 (.int .i64 tu.d))
  go_wp2
  (try simp only [Exit.inBlock,Exit.then])
  refine bodyPost_end (results_none rfl _ _ _) rfl ⟨rfl,OF,Hf2,by rw [hVe.out];exact He2,YY⟩
end
section
def Ux (v : Db × Int) : Db × Int:=if v.2 ≠ 0 then (J0,v.2) else v
def Yb (c : Qf) (r : Rt) (f : Nat → Jz) (on : Dt) (i m : Nat) (x : Db) (a : Dt) : Db × Int:=Ux (Wy c r f on i m x a)
def Hi (c : Qf) (r : Rt) (f : Nat → Jz) (on : Dt) (i m : Nat) (x : Db) (lf : Rt) : Db × Int:=if (Zn x.s lf).2 ≠ 0 then (J0,(Zn x.s lf).2) else Yb c r f on (i + 1) m ⟨x.p,x.i,(Zn x.s lf).1⟩ (f i).on
def Hg (c : Qf) (r : Rt) (f : Nat → Jz) (on : Dt) (i m : Nat) (x : Db) (lf : Rt) : Db × Int:=if (Zk x.p lf).2 ≠ 0 then (J0,(Zk x.p lf).2) else Hi c r f on i m ⟨(Zk x.p lf).1.1,x.i,x.s⟩ (Zk x.p lf).1.2
def Hc (c : Qf) (r : Rt) (f : Nat → Jz) (on : Dt) (i m : Nat) (x : Db) (lf : Rt) : Db × Int:=if (Zk x.i lf).2 ≠ 0 then (J0,(Zk x.i lf).2) else Hg c r f on i m ⟨x.p,(Zk x.i lf).1.1,x.s⟩ (Zk x.i lf).1.2
theorem K2 {v : Db × Int} (h : v.2 ≠ 0) : Ux v = (J0,v.2):=by unfold Ux;rw [if_pos h]
theorem Au {v : Db × Int} (h : v.2 = 0) : Ux v = v:=by unfold Ux;rw [if_neg (by simpa using h)]
theorem Qh0 {c : Qf} {r : Rt} {f : Nat → Jz} {on : Dt} {i m : Nat} {x : Db} {a : Dt} (h : c.numV on < c.numV (f i).on) : Yb c r f on i (m + 1) x a = Ux (Jj c r x a on):=by
 unfold Yb;rw [Wy,if_pos h]
theorem Qhy {c : Qf} {r : Rt} {f : Nat → Jz} {on : Dt} {i m : Nat} {x : Db} {a : Dt} (h : ¬ c.numV on < c.numV (f i).on) (h2 : (Jj c r x a (f i).on).2 ≠ 0) : Yb c r f on i (m + 1) x a = (J0,(Jj c r x a (f i).on).2):=by
 unfold Yb;rw [Wy,if_neg h,if_pos h2];exact K2 h2
theorem Qhz {c : Qf} {r : Rt} {f : Nat → Jz} {on : Dt} {i m : Nat} {x : Db} {a : Dt} (h : ¬ c.numV on < c.numV (f i).on) (h2 : (Jj c r x a (f i).on).2 = 0) : Yb c r f on i (m + 1) x a = Hc c r f on i m (Jj c r x a (f i).on).1 (f i).n:=by
 unfold Yb;rw [Wy,if_neg h,if_neg (by simpa using h2)];generalize (Jj c r x a (f i).on).1 = X;generalize (f i).n = n;unfold K4 Hc Hg Hi Yb;by_cases e1 : (Zk X.i n).2 ≠ 0
 ·rw [if_pos e1,if_pos e1,if_pos e1];exact K2 e1
 ·rw [if_neg e1,if_neg e1]
  simp only
  by_cases e2 : (Zk X.p (Zk X.i n).1.2).2 ≠ 0
  ·rw [if_pos e2,if_pos e2,if_pos e2];exact K2 e2
  ·rw [if_neg e2,if_neg e2];by_cases e3 : (Zn X.s (Zk X.p (Zk X.i n).1.2).1.2).2 ≠ 0
   ·rw [if_pos e3,if_pos e3,if_pos e3];exact K2 e3
   ·rw [if_neg e3,if_neg e3]
    simp
theorem Qgy {c : Qf} {l : Ln} {f : Nat → Jz} {n : Nat} {on : Dt} (h1 : c.loanE l f n = 0) (h2 : c.numV on ≠ 0) (h3 : ¬ c.numV on < c.numV l.f) : c.owedV l f n on = Yb c l.r f on 0 n (start l) l.f:=by
 unfold Qf.owedV Yb Ux;rw [if_neg (by rw [h1];decide),if_neg h2,if_neg h3];by_cases e : (Wy c l.r f on 0 n (start l) l.f).2 ≠ 0
 ·rw [if_pos e,if_pos e]
 ·rw [if_neg e,if_neg e];have e':=Decidable.not_not.1 e;exact Prod.ext rfl e'.symm
end
section
open Go Go.RowKit Go.Shelf
attribute [local go_sem] Z5
section
variable {W w : World} {b : Nat} {t : TypeId} {v0 v1 v2 v3 v4 v5 : Value}
theorem Yz (h : Qa W b t #[v0,v1,v2,v3,v4,v5]) (u0 u1 u2 u3 u4 u5 : Value) : Qa ((((((W.setCell ⟨b,0,none⟩ u0).setCell ⟨b,1,none⟩ u1).setCell ⟨b,2,none⟩ u2).setCell ⟨b,3,none⟩ u3).setCell ⟨b,4,none⟩ u4).setCell ⟨b,5,none⟩ u5) b t #[u0,u1,u2,u3,u4,u5]:=by unfold Qa at h ⊢;simp [World.setCell,Array.getElem?_modify,h]
theorem Yy (h : Qb w W) (hb : w.heap.size ≤ b) (u0 u1 u2 u3 u4 u5 : Value) : Qb w ((((((W.setCell ⟨b,0,none⟩ u0).setCell ⟨b,1,none⟩ u1).setCell ⟨b,2,none⟩ u2).setCell ⟨b,3,none⟩ u3).setCell ⟨b,4,none⟩ u4).setCell ⟨b,5,none⟩ u5) :=
 (((((h.setCell (p:=⟨b,0,none⟩) hb u0).setCell (p:=⟨b,1,none⟩) hb u1).setCell (p:=⟨b,2,none⟩) hb u2).setCell (p:=⟨b,3,none⟩) hb u3).setCell (p:=⟨b,4,none⟩) hb u4).setCell (p:=⟨b,5,none⟩) hb u5
theorem Ot {b' : Nat} {cs : Array Value} (h : Qa W b t cs) (hne : b ≠ b') (u0 u1 u2 u3 u4 u5 : Value) : Qa ((((((W.setCell ⟨b',0,none⟩ u0).setCell ⟨b',1,none⟩ u1).setCell ⟨b',2,none⟩ u2).setCell ⟨b',3,none⟩ u3).setCell ⟨b',4,none⟩ u4).setCell ⟨b',5,none⟩ u5) b t cs :=
 Qi (Qi (Qi (Qi (Qi (Qi h hne 0 u0) hne 1 u1) hne 2 u2) hne 3 u3) hne 4 u4) hne 5 u5
end
structure X4 (W : World) (b : Nat) (t : TypeId) (cs : Array Value) : Prop where
 out : Qa W b t cs
def cut0 (A : Act) (S : World → Prop) : Exit → Act → World → Prop:=fun e a' w' => e = .normal ∧ S w' ∧ a' = A
theorem Gf {P : Program} {c : Code} {Q : Exit → Act → World → Prop} {a : Act} {w : World} {A : Act} (S : World → Prop) (h1 : c.wp P (cut0 A S) a w) (h2 : ∀ w',S w' → Q .normal A w') : c.wp P Q a w :=
 Code.wp_mono (fun e a' w' ⟨he,hs,ha⟩ => by subst he;subst ha;exact h2 w' hs) h1
def restJ (c : Qf) (r : Rt) (f : Nat → Jz) (on : Dt) (k m : Nat) : Nat → Db → Rt → Db × Int
 | 0,X,lf => Hc c r f on k m X lf
 | 1,X,lf => Hg c r f on k m X lf
 | _,X,lf => Hi c r f on k m X lf
theorem Qgz (A A' : Option Addr) (ca cb : Nat) (c : Qf) (B : Option Addr) (n cap : Nat) (l : Ln) (f : Nat → Jz) (hp : l.p.In) (hr : l.r.In) (hin : ∀ i,i < n → (f i).n.In) (w : World) (hC : Q8 w A ca A' cb c) (hB : Qp w B n 6 (Yg f)) (hn : n ≤ 9223372036854775807) (hZ : Z6 w) (on : Dt) :
  Calls Tryz.prog 66 #[.agg #[.slice A c.nk ca,.slice A' c.ny cb],.agg #[.int .i64 l.p.n,.int .i64 l.p.d,.int .i64 l.r.n,.int .i64 l.r.d,.int .i64 l.f.y,.int .i64 l.f.m,.bool l.f.s,.int .i64 l.f.d],.slice B n cap,.agg #[.int .i64 on.y,.int .i64 on.m,.bool on.s,.int .i64 on.d]] w fun e w' => e = .returned (.tuple #[.agg #[.int .i64 (Yb c l.r f on 0 n (start l) l.f).1.p.n,.int .i64 (Yb c l.r f on 0 n (start l) l.f).1.p.d,.int .i64 (Yb c l.r f on 0 n (start l) l.f).1.i.n,.int .i64 (Yb c l.r f on 0 n (start l) l.f).1.i.d,.int .i64 (Yb c l.r f on 0 n (start l) l.f).1.s.n,.int .i64 (Yb c l.r f on 0 n (start l) l.f).1.s.d],.int .i64 (Yb c l.r f on 0 n (start l) l.f).2]) ∧ Qb w w':=by
 obtain ⟨V,hV0⟩:=Qg (Yb c l.r f on 0 n (start l) l.f);rw [← hV0];replace hV0:=Lib.hid hV0
 go_enter Tryz.func66,Tryz.ntmps66
 go_upto_region 1 with (fail)
 obtain ⟨v,hv⟩:=Qg ((((w.alloc (.cells #[.slice A c.nk ca,.slice A' c.ny cb] 130)).alloc (.cells #[.int .i64 l.p.n,.int .i64 l.p.d,.int .i64 l.r.n,.int .i64 l.r.d,.int .i64 l.f.y,.int .i64 l.f.m,.bool l.f.s,.int .i64 l.f.d] 67)).alloc (.cells #[.int .i64 on.y,.int .i64 on.m,.bool on.s,.int .i64 on.d] 51)).alloc (.cells #[.int .i64 0,.int .i64 0,.int .i64 0,.int .i64 0,.int .i64 0,.int .i64 0] 72));rw [← hv];have E : Qb w v:=by rw [hv];exact ((((Qb.refl _).alloc _).alloc _).alloc _).alloc _
 have B1 : Qa v w.heap.size 130 #[.slice A c.nk ca,.slice A' c.ny cb]:=by rw [hv];exact (((Qa.new _ _ _).alloc _).alloc _).alloc _
 have B2 : Qa v (w.heap.size + 1) 67 #[.int .i64 l.p.n,.int .i64 l.p.d,.int .i64 l.r.n,.int .i64 l.r.d,.int .i64 l.f.y,.int .i64 l.f.m,.bool l.f.s,.int .i64 l.f.d]:=by rw [hv];exact ((Qa.at _ _ _ _ (by simp)).alloc _).alloc _
 have B3 : Qa v (w.heap.size + 1 + 1) 51 #[.int .i64 on.y,.int .i64 on.m,.bool on.s,.int .i64 on.d]:=by rw [hv];exact (Qa.at _ _ _ _ (by simp)).alloc _
 have B4 : Qa v (w.heap.size + 1 + 1 + 1) 72 #[.int .i64 0,.int .i64 0,.int .i64 0,.int .i64 0,.int .i64 0,.int .i64 0]:=by rw [hv];exact Qa.at _ _ _ _ (by simp)
 clear hv;obtain ⟨b4,hb4⟩:=Qg (w.heap.size + 1 + 1 + 1);rw [← hb4] at B4 ⊢;obtain ⟨b3,hb3⟩:=Qg (w.heap.size + 1 + 1);rw [← hb3] at B3 ⊢;obtain ⟨b2,hb2⟩:=Qg (w.heap.size + 1);rw [← hb2] at B2 ⊢;obtain ⟨b1,hb1⟩:=Qg (w.heap.size);rw [← hb1] at B1 ⊢;have hbr : w.heap.size ≤ b4:=by omega
 have hbr1 : w.heap.size ≤ b1:=by omega
 have hbr2 : w.heap.size ≤ b2:=by omega
 have hbr3 : w.heap.size ≤ b3:=by omega
 have hn21 : b2 ≠ b1:=by omega
 have hn31 : b3 ≠ b1:=by omega
 have hn32 : b3 ≠ b2:=by omega
 have hn41 : b4 ≠ b1:=by omega
 have hn42 : b4 ≠ b2:=by omega
 have hn43 : b4 ≠ b3:=by omega
 clear hb1 hb2 hb3 hb4;have C:=hC.ext E;have RB:=hB.ext E;have Z0:=hZ.ext E;clear hC hB hZ;have hv4:=B4.lt;apply Vt (S:=fun w' b => Qb v w' ∧ v.heap.size ≤ b ∧ Qa w' b 72 #[.int .i64 l.p.n,.int .i64 l.p.d,.int .i64 0,.int .i64 1,.int .i64 0,.int .i64 1])
 ·refine Zb 7 [6] (fun x => Qb v x) Qo rfl ?_;intro vz hvz;have HC:=hvz;refine Qs (g:=5) [0,1] [_,_] ⟨rfl,rfl,trivial⟩ (by kernel_rfl) (by kernel_rfl) HC ?_;simp only [Qc,Qd,Qe];apply Exists.intro;refine ⟨fun u hu => ?_,?_⟩
  ·obtain ⟨p0,p1,p2,p3,p4,p5,p6,p7⟩:=(B2.ext hu).c8;have lp:=(B2.ext hu).lt;repeat (first | go_big_quiet_skip | (go_big_quiet_want;go_big_quiet_op;go_big_quiet_on))
   refine wpQuiet_nil ?_;rfl
  refine Zh 2 5 rfl rfl (by kernel_rfl) ?_ ?_
  ·simp only [Qc,Qd,Qe];go_wp2_with (go_at_call 72;(with_reducible refine Calls.mono (Xt _ _) ?_);rintro e wa ⟨rfl,h4⟩);replace HC:=HC.trans h4;try replace Q:=Q.ext h4
   clear h4;refine Qh HC ?_;refine Zh 3 5 rfl rfl (by kernel_rfl) ?_ ?_
   ·simp only [Qc,Qd,Qe];go_wp2_with (go_at_call 72;(with_reducible refine Calls.mono (Xt _ _) ?_);rintro e wa ⟨rfl,h4⟩);replace HC:=HC.trans h4;try replace Q:=Q.ext h4
    clear h4;refine Qh HC ?_;refine Qs (g:=2) [4] [_] ⟨rfl,trivial⟩ (by kernel_rfl) (by kernel_rfl) HC ?_;simp only [Qc,Qd,Qe];apply Exists.intro;refine ⟨fun u hu => ?_,?_⟩
    ·obtain ⟨p0,p1,p2,p3,p4,p5,p6,p7⟩:=(B2.ext hu).c8;have lp:=(B2.ext hu).lt;repeat (first | go_big_quiet_skip | (go_big_quiet_want;go_big_quiet_op;go_big_quiet_on))
     refine wpQuiet_nil ?_;rfl
    refine Ql 5 rfl (by kernel_rfl) ?_;simp only [Qc,Qd,Qe];go_wp2;obtain ⟨bq,hbq,Q,HC',hge⟩:=Xh HC 72 #[.int .i64 0,.int .i64 0,.int .i64 0,.int .i64 0,.int .i64 0,.int .i64 0];rw [← hbq];clear hbq;replace HC:=HC';clear HC';refine Qh HC ?_;refine Qr 6 rfl (by kernel_rfl) ?_;simp only [Qc,Qd,Qe];have z0:=Q.frozen 0;have z1:=Q.frozen 1;have z2:=Q.frozen 2;have z3:=Q.frozen 3;have z4:=Q.frozen 4;have z5:=Q.frozen 5;obtain ⟨x0,x1,x2,x3,x4,x5⟩:=Q.c6;have lx:=Q.lt;have Q2:=Yz Q (.int .i64 l.p.n) (.int .i64 l.p.d) (.int .i64 0) (.int .i64 1) (.int .i64 0) (.int .i64 1);have HE2:=Yy HC hge (.int .i64 l.p.n) (.int .i64 l.p.d) (.int .i64 0) (.int .i64 1) (.int .i64 0) (.int .i64 1)
    go_wp2;refine Qq ?_;refine Qv (by kernel_rfl) ?_;exact Yc bq ⟨HE2,hge,Q2⟩ rfl
   ·simp only [Qc,Qd,Qe];go_wp2;obtain ⟨bq,hbq,Q,HC',hge⟩:=Xh HC 72 #[.int .i64 0,.int .i64 0,.int .i64 0,.int .i64 0,.int .i64 0,.int .i64 0];rw [← hbq];clear hbq;replace HC:=HC';clear HC';refine Qh HC ?_;refine Ql 3 rfl (by kernel_rfl) ?_;simp only [Qc,Qd,Qe];go_wp2_with (go_at_call 72;(with_reducible refine Calls.mono (Xt _ _) ?_);rintro e wa ⟨rfl,h4⟩);replace HC:=HC.trans h4;try replace Q:=Q.ext h4
    clear h4;refine Qh HC ?_;refine Qs (g:=1) [4] [_] ⟨rfl,trivial⟩ (by kernel_rfl) (by kernel_rfl) HC ?_;simp only [Qc,Qd,Qe];apply Exists.intro;refine ⟨fun u hu => ?_,?_⟩
    ·obtain ⟨p0,p1,p2,p3,p4,p5,p6,p7⟩:=(B2.ext hu).c8;have lp:=(B2.ext hu).lt;repeat (first | go_big_quiet_skip | (go_big_quiet_want;go_big_quiet_op;go_big_quiet_on))
     refine wpQuiet_nil ?_;rfl
    refine Qr 6 rfl (by kernel_rfl) ?_;simp only [Qc,Qd,Qe];have z0:=Q.frozen 0;have z1:=Q.frozen 1;have z2:=Q.frozen 2;have z3:=Q.frozen 3;have z4:=Q.frozen 4;have z5:=Q.frozen 5;obtain ⟨x0,x1,x2,x3,x4,x5⟩:=Q.c6;have lx:=Q.lt;have Q2:=Yz Q (.int .i64 l.p.n) (.int .i64 l.p.d) (.int .i64 0) (.int .i64 1) (.int .i64 0) (.int .i64 1);have HE2:=Yy HC hge (.int .i64 l.p.n) (.int .i64 l.p.d) (.int .i64 0) (.int .i64 1) (.int .i64 0) (.int .i64 1);go_wp2;refine Qq ?_;refine Qv (by kernel_rfl) ?_;exact Yc bq ⟨HE2,hge,Q2⟩ rfl
  ·simp only [Qc,Qd,Qe];go_wp2;obtain ⟨bq,hbq,Q,HC',hge⟩:=Xh HC 72 #[.int .i64 0,.int .i64 0,.int .i64 0,.int .i64 0,.int .i64 0,.int .i64 0];rw [← hbq];clear hbq;replace HC:=HC';clear HC';refine Qh HC ?_;refine Ql 2 rfl (by kernel_rfl) ?_;simp only [Qc,Qd,Qe];go_wp2_with (go_at_call 72;(with_reducible refine Calls.mono (Xt _ _) ?_);rintro e wa ⟨rfl,h4⟩);replace HC:=HC.trans h4;try replace Q:=Q.ext h4
   clear h4;refine Qh HC ?_;refine Ql 3 rfl (by kernel_rfl) ?_;simp only [Qc,Qd,Qe];go_wp2_with (go_at_call 72;(with_reducible refine Calls.mono (Xt _ _) ?_);rintro e wa ⟨rfl,h4⟩);replace HC:=HC.trans h4;try replace Q:=Q.ext h4
   clear h4;refine Qh HC ?_;refine Qs (g:=1) [4] [_] ⟨rfl,trivial⟩ (by kernel_rfl) (by kernel_rfl) HC ?_;simp only [Qc,Qd,Qe];apply Exists.intro;refine ⟨fun u hu => ?_,?_⟩
   ·obtain ⟨p0,p1,p2,p3,p4,p5,p6,p7⟩:=(B2.ext hu).c8;have lp:=(B2.ext hu).lt;repeat (first | go_big_quiet_skip | (go_big_quiet_want;go_big_quiet_op;go_big_quiet_on))
    refine wpQuiet_nil ?_;rfl
   refine Qr 6 rfl (by kernel_rfl) ?_;simp only [Qc,Qd,Qe];have z0:=Q.frozen 0;have z1:=Q.frozen 1;have z2:=Q.frozen 2;have z3:=Q.frozen 3;have z4:=Q.frozen 4;have z5:=Q.frozen 5;obtain ⟨x0,x1,x2,x3,x4,x5⟩:=Q.c6;have lx:=Q.lt;have Q2:=Yz Q (.int .i64 l.p.n) (.int .i64 l.p.d) (.int .i64 0) (.int .i64 1) (.int .i64 0) (.int .i64 1);have HE2:=Yy HC hge (.int .i64 l.p.n) (.int .i64 l.p.d) (.int .i64 0) (.int .i64 1) (.int .i64 0) (.int .i64 1);go_wp2;refine Qq ?_;refine Qv (by kernel_rfl) ?_;exact Yc bq ⟨HE2,hge,Q2⟩ rfl
 rintro bd w1 ⟨HE,gd,Hd⟩;obtain ⟨p0,p1,p2,p3,p4,p5,p6,p7⟩:=(B2.ext HE).c8;have lp:=(B2.ext HE).lt;go_upto_region 6 with (fail)
 obtain ⟨w2,hw2⟩:=Qg (((w1.alloc (.cells #[.int .i64 l.f.y,.int .i64 l.f.m,.bool l.f.s,.int .i64 l.f.d] 51)).alloc (.cells #[.int .i64 0] 29)).alloc (.cells #[.func (.func 117) #[] #[.pointer (some ⟨w1.heap.size + 1,0,none⟩)]] 200));rw [← hw2];have h12 : Qb w1 w2:=by rw [hw2];exact (((Qb.refl _).alloc _).alloc _).alloc _
 have Hf : Qa w2 w1.heap.size 51 #[.int .i64 l.f.y,.int .i64 l.f.m,.bool l.f.s,.int .i64 l.f.d]:=by rw [hw2];exact ((Qa.new _ _ _).alloc _).alloc _
 have He : Qa w2 (w1.heap.size + 1) 29 #[.int .i64 0]:=by rw [hw2];exact (Qa.at _ _ _ _ (by simp)).alloc _
 have Ht : Qa w2 (w1.heap.size + 1 + 1) 200 #[.func (.func 117) #[] #[.pointer (some ⟨w1.heap.size + 1,0,none⟩)]]:=by rw [hw2];exact Qa.at _ _ _ _ (by simp)
 clear hw2 p0 p1 p2 p3 p4 p5 p6 p7 lp;have hw1:=HE.size;have hdw:=Hd.lt;replace Hd:=Hd.ext h12;replace HE:=HE.trans h12;clear h12;obtain ⟨bt,hbt⟩:=Qg (w1.heap.size + 1 + 1);rw [← hbt] at Ht ⊢;obtain ⟨be,hbe⟩:=Qg (w1.heap.size + 1);rw [← hbe] at Ht He ⊢;obtain ⟨bf,hbf⟩:=Qg (w1.heap.size);rw [← hbf] at Hf ⊢;have g2 : v.heap.size ≤ bf:=by omega
 have g3 : v.heap.size ≤ be:=by omega
 have n1 : bd ≠ bf:=by omega
 have n2 : bd ≠ be:=by omega
 have n3 : bf ≠ be:=by omega
 have n4 : bt ∉ [bd,bf,be]:=by simp;omega
 have hb1v:=B1.lt;have hb2v:=B2.lt;have n5 : b2 ∉ [bd,bf,be]:=by simp;omega
 have n6 : b1 ∉ [bd,bf,be]:=by simp;omega
 have hbe4 : be ≠ b4:=by omega
 have ntd : bt ≠ bd:=by omega
 have gS : ∀ k,k ∈ [bd,bf,be] → v.heap.size ≤ k:=fun k hk => by simp at hk;omega
 clear hbt hbe hbf hw1 hdw;replace gS:=Lib.hid gS;replace n4:=Lib.hid n4;replace n5:=Lib.hid n5;replace n6:=Lib.hid n6;obtain ⟨k0,k1⟩:=(B1.ext HE).c2;have lk:=(B1.ext HE).lt;obtain ⟨o0,o1,o2,o3⟩:=(B3.ext HE).c4;have lo:=(B3.ext HE).lt;have ND:=fun d w h => Wq A A' ca cb c d w h
 go_upto_region 8 with (go_at_call 48;(with_reducible refine Calls.mono (ND on _ (C.ext HE)) ?_);rintro e w3 ⟨rfl,h4⟩)
 replace HE:=HE.trans h4;replace Hd:=Hd.ext h4;replace Hf:=Hf.ext h4;replace He:=He.ext h4;replace Ht:=Ht.ext h4;clear h4 k0 k1 lk o0 o1 o2 o3 lo;obtain ⟨L0,hL0⟩:=Qg (c.numV on);rw [← hL0];replace hL0:=Lib.hid hL0;have hX0 : (start l).In:=⟨hp,Ui,Ui⟩
 go_loopw [35] (fun iv wr => ∃ k : Nat,k ≤ n ∧ iv = .int .i64 (k : Int) ∧ ∃ X fr ee,Db.In X ∧ Qb v wr ∧ Qa wr bt 200 #[.func (.func 117) #[] #[.pointer (some ⟨be,0,none⟩)]] ∧ Qa wr bd 72 #[.int .i64 X.p.n,.int .i64 X.p.d,.int .i64 X.i.n,.int .i64 X.i.d,.int .i64 X.s.n,.int .i64 X.s.d] ∧ Qa wr bf 51 #[.int .i64 fr.y,.int .i64 fr.m,.bool fr.s,.int .i64 fr.d] ∧ Qa wr be 29 #[.int .i64 ee] ∧ Hid (ee = 0 → V = Yb c l.r f on k (n - k) X fr) ∧ Hid (ee ≠ 0 → V = (J0,ee))) (fun iv _ => n - (intOf iv).toNat)
 case atStart => exact ⟨0,Nat.zero_le _,rfl,start l,l.f,0,hX0,HE,Ht,Hd,Hf,He,fun _ => hV0.out,fun h => absurd rfl h⟩
 case round =>
  clear HE Ht Hd Hf He hX0 hV0;obtain ⟨k,hk,rfl,X,fr,ee,hX,HE,Ht,Hd,Hf,He,h1,h2⟩:=hrel;obtain ⟨wo,rfl⟩:=Qg wr;by_cases hlt : k < n
  ·obtain ⟨m, hm⟩ : ∃ m, n - k = m + 1 := ⟨n - k - 1, by omega⟩;have hm2 : n - (k + 1) = m := by omega
   rw [hm] at h1;obtain ⟨b,off,rfl,hb,hc⟩:=(RB.ext HE) (by omega);have c0 : wo.cell? ⟨b,off + k * 6,none⟩ = some (.int .i64 (f k).on.y):=by simpa [Yg] using hc k 0 _ hlt rfl
   have c1 : wo.cell? ⟨b,off + k * 6 + 1,none⟩ = some (.int .i64 (f k).on.m):=by simpa [Yg] using hc k 1 _ hlt rfl
   have c2 : wo.cell? ⟨b,off + k * 6 + 2,none⟩ = some (.bool (f k).on.s):=by simpa [Yg] using hc k 2 _ hlt rfl
   have c3 : wo.cell? ⟨b,off + k * 6 + 3,none⟩ = some (.int .i64 (f k).on.d):=by simpa [Yg] using hc k 3 _ hlt rfl
   have c4 : wo.cell? ⟨b,off + k * 6 + 4,none⟩ = some (.int .i64 (f k).n.n):=by simpa [Yg] using hc k 4 _ hlt rfl
   have c5 : wo.cell? ⟨b,off + k * 6 + 5,none⟩ = some (.int .i64 (f k).n.d):=by simpa [Yg] using hc k 5 _ hlt rfl
   have hfin:=hin k hlt;clear hc RB hin hm;go_upto_region 10 with (fail)
   obtain ⟨v3,hv⟩:=Qg (wo.alloc (.cells #[.int .i64 (f k).on.y,.int .i64 (f k).on.m,.bool (f k).on.s,.int .i64 (f k).on.d,.int .i64 (f k).n.n,.int .i64 (f k).n.d] 78));rw [← hv];have E3 : Qb wo v3:=by rw [hv];exact (Qb.refl _).alloc _
   have H3 : Qa v3 wo.heap.size 78 #[.int .i64 (f k).on.y,.int .i64 (f k).on.m,.bool (f k).on.s,.int .i64 (f k).on.d,.int .i64 (f k).n.n,.int .i64 (f k).n.d]:=by rw [hv];exact Qa.new _ _ _
   clear hv c0 c1 c2 c3 c4 c5 hb;have h17v : wo.heap.size < v3.heap.size:=H3.lt;have ht17:=Ht.lt;have hd17:=Hd.lt;have hf17:=Hf.lt;have he17:=He.lt;obtain ⟨b17,hb17⟩:=Qg (wo.heap.size);rw [← hb17] at H3 ⊢;have n17 : b17 ∉ [bd,bf,be]:=by simp;omega
   replace n17:=Lib.hid n17;clear hb17 ht17 hd17 hf17 he17 h17v;replace HE:=HE.trans E3;replace Ht:=Ht.ext E3;replace Hd:=Hd.ext E3;replace Hf:=Hf.ext E3;replace He:=He.ext E3;clear E3;by_cases h0 : ee = 0;rotate_left
   ·have g0 : (ee == 0) = false := beq_eq_false_iff_ne.2 h0;have hV := Lib.hid (h2.out h0);clear h1 h2 h0;have g0n : (ee != 0) = true := by rw [bne, g0]; rfl
    have e0:=He.c1;have le:=He.lt;go_upto_region 25 with (fail)
    clear e0 le;apply Gf (S:=fun w' => Qb w w' ∧ Qa w' b4 72 #[.int .i64 0,.int .i64 0,.int .i64 0,.int .i64 0,.int .i64 0,.int .i64 0])
    ·refine Zb 4 [3] (fun x => X4 x be 29 #[.int .i64 ee]) Qo rfl ?_;intro vz hvz;replace He:=He.ext hvz;replace HE:=HE.trans hvz;clear hvz;refine Qs (g:=2) [0,1] [_,_] ⟨rfl,rfl,trivial⟩ (by kernel_rfl) (by kernel_rfl) (X4.mk He) ?_;simp only [Qc,Qd,Qe];apply Exists.intro;refine ⟨fun u hu => ?_,?_⟩
     ·have e0:=hu.out.c1;have le:=hu.out.lt;repeat (first | go_big_quiet_skip | (go_big_quiet_want;go_big_quiet_op;go_big_quiet_on))
      refine wpQuiet_nil ?_;rfl
     refine Ql 2 rfl (by kernel_rfl) ?_;simp only [Qc,Qd,Qe];have R4:=B4.ext HE;have z0:=R4.frozen 0;have z1:=R4.frozen 1;have z2:=R4.frozen 2;have z3:=R4.frozen 3;have z4:=R4.frozen 4;have z5:=R4.frozen 5;obtain ⟨x0,x1,x2,x3,x4,x5⟩:=R4.c6;have lx:=R4.lt;go_wp2;have R6:=Yz R4 (.int .i64 0) (.int .i64 0) (.int .i64 0) (.int .i64 0) (.int .i64 0) (.int .i64 0);have EF:=Yy (E.trans HE) hbr (.int .i64 0) (.int .i64 0) (.int .i64 0) (.int .i64 0) (.int .i64 0) (.int .i64 0);replace He:=Ot He hbe4 (.int .i64 0) (.int .i64 0) (.int .i64 0) (.int .i64 0) (.int .i64 0) (.int .i64 0);clear z0 z1 z2 z3 z4 z5 x0 x1 x2 x3 x4 x5 lx R4;generalize World.setCell _ _ _ = wq at *
     refine Qh (X4.mk He) ?_;refine Qr 3 rfl (by kernel_rfl) ?_;simp only [Qc,Qd,Qe];go_wp2;refine Qq ?_;refine Qv (by kernel_rfl) ?_;exact ⟨rfl,⟨EF,R6⟩,rfl⟩
    rintro w9 ⟨EF,R6⟩;obtain ⟨y0,y1,y2,y3,y4,y5⟩:=R6.c6;go_wp2;refine bodyPost_ret (v:=.tuple #[.agg #[.int .i64 0,.int .i64 0,.int .i64 0,.int .i64 0,.int .i64 0,.int .i64 0],.int .i64 ee]) (by simp [results,Tryz.results66,go_sem,y0,y1,y2,y3,y4,y5]) rfl ⟨by rw [hV.out];rfl,EF⟩
   subst h0;have e0:=He.c1;have le:=He.lt;obtain ⟨k0,k1⟩:=(B1.ext HE).c2;have lk:=(B1.ext HE).lt;obtain ⟨q0,q1,q2,q3,q4,q5⟩:=H3.c6;have lq:=H3.lt;have h1':=Lib.hid (h1.out rfl);clear h1 h2;have hdd:=fun w h => Wq A A' ca cb c (f k).on w h
   by_cases hday : L0 < c.numV (f k).on
   ·have gd1 : decide (L0 < c.numV (f k).on) = true := decide_eq_true hday;have hVA : Hid (V = Ux (Jj c l.r X fr on)) := by unfold Hid; rw [h1'.out, Qh0 (by rw [← hL0.out]; exact hday)]
    clear h1' hday;generalize c.numV (f k).on = L1 at *;go_upto_region 22 with (go_at_call 48;(with_reducible refine Calls.mono (hdd _ (C.ext HE)) ?_);rintro e w5 ⟨rfl,h4⟩)
    replace HE:=HE.trans h4;replace Ht:=Ht.ext h4;replace Hd:=Hd.ext h4;replace Hf:=Hf.ext h4;replace He:=He.ext h4;clear h4 e0 le k0 k1 lk q0 q1 q2 q3 q4 q5 lq H3 hdd;have e0:=He.c1;have le:=He.lt;have B3e:=B3.ext HE;obtain ⟨o0,o1,o2,o3⟩:=B3e.c4;have lo:=B3e.lt;have NA:=Gl A A' ca cb c l hr X hX fr on bt bd b2 b1 bf be v _ HE C Z0 Ht Hd (B2.ext HE) (B1.ext HE) Hf He g3 n1 n2 n3 n4.out n5.out n6.out;go_upto_region 24 with (first | (go_at_call 118;(with_reducible refine Calls.mono (NA) ?_);rintro e wk ⟨rfl,hO,hf,he,Y,hYin,hd,hY⟩) | (go_at_fn 118;(with_reducible refine Calls.mono (NA) ?_);rintro e wk ⟨rfl,hO,hf,he,Y,hYin,hd,hY⟩))
    replace HE:=hO.ext HE gS.out;replace Ht:=hO.held Ht n4.out;clear hO Hd Hf He NA;have Hd:=hd;have Hf:=hf;have He:=he;clear hd hf he;clear e0 le o0 o1 o2 o3 lo B3e;generalize Jj c l.r X fr on = a at *;obtain ⟨aX,ae⟩:=a;simp only [] at He hY hVA;by_cases h0 : ae = 0
    ·subst h0;have hy := hY rfl;subst hy;have hV : Hid (V = (Y, 0)) := by unfold Hid; rw [hVA.out]; exact Au rfl
     clear hVA hY;have e0:=He.c1;have le:=He.lt;have R4:=B4.ext HE;obtain ⟨d0,d1,d2,d3,d4,d5⟩:=Hd.c6;have ld:=Hd.lt;have z0:=R4.frozen 0;have z1:=R4.frozen 1;have z2:=R4.frozen 2;have z3:=R4.frozen 3;have z4:=R4.frozen 4;have z5:=R4.frozen 5;obtain ⟨x0,x1,x2,x3,x4,x5⟩:=R4.c6;have lx:=R4.lt;have R6:=Yz R4 (.int .i64 Y.p.n) (.int .i64 Y.p.d) (.int .i64 Y.i.n) (.int .i64 Y.i.d) (.int .i64 Y.s.n) (.int .i64 Y.s.d);have EF:=Yy (E.trans HE) hbr (.int .i64 Y.p.n) (.int .i64 Y.p.d) (.int .i64 Y.i.n) (.int .i64 Y.i.d) (.int .i64 Y.s.n) (.int .i64 Y.s.d);obtain ⟨y0,y1,y2,y3,y4,y5⟩:=R6.c6;go_wp2;refine bodyPost_ret (v:=.tuple #[.agg #[.int .i64 Y.p.n,.int .i64 Y.p.d,.int .i64 Y.i.n,.int .i64 Y.i.d,.int .i64 Y.s.n,.int .i64 Y.s.d],.int .i64 0]) (by simp [results,Tryz.results66,go_sem,y0,y1,y2,y3,y4,y5]) rfl ⟨by rw [hV.out],EF⟩
    ·have g0 : (ae == 0) = false := beq_eq_false_iff_ne.2 h0;have hV : Hid (V = (J0, ae)) := by unfold Hid; rw [hVA.out]; exact K2 h0
     clear hVA hY h0;have g0n : (ae != 0) = true:=by rw [bne,g0];rfl
     have e0:=He.c1;have le:=He.lt;go_upto_region 25 with (fail)
     clear e0 le;apply Gf (S:=fun w' => Qb w w' ∧ Qa w' b4 72 #[.int .i64 0,.int .i64 0,.int .i64 0,.int .i64 0,.int .i64 0,.int .i64 0])
     ·refine Zb 4 [3] (fun x => X4 x be 29 #[.int .i64 ae]) Qo rfl ?_;intro vz hvz;replace He:=He.ext hvz;replace HE:=HE.trans hvz;clear hvz;refine Qs (g:=2) [0,1] [_,_] ⟨rfl,rfl,trivial⟩ (by kernel_rfl) (by kernel_rfl) (X4.mk He) ?_;simp only [Qc,Qd,Qe];apply Exists.intro;refine ⟨fun u hu => ?_,?_⟩
      ·have e0:=hu.out.c1;have le:=hu.out.lt;repeat (first | go_big_quiet_skip | (go_big_quiet_want;go_big_quiet_op;go_big_quiet_on))
       refine wpQuiet_nil ?_;rfl
      refine Ql 2 rfl (by kernel_rfl) ?_;simp only [Qc,Qd,Qe];have R4:=B4.ext HE;have z0:=R4.frozen 0;have z1:=R4.frozen 1;have z2:=R4.frozen 2;have z3:=R4.frozen 3;have z4:=R4.frozen 4;have z5:=R4.frozen 5;obtain ⟨x0,x1,x2,x3,x4,x5⟩:=R4.c6;have lx:=R4.lt;go_wp2;have R6:=Yz R4 (.int .i64 0) (.int .i64 0) (.int .i64 0) (.int .i64 0) (.int .i64 0) (.int .i64 0);have EF:=Yy (E.trans HE) hbr (.int .i64 0) (.int .i64 0) (.int .i64 0) (.int .i64 0) (.int .i64 0) (.int .i64 0);replace He:=Ot He hbe4 (.int .i64 0) (.int .i64 0) (.int .i64 0) (.int .i64 0) (.int .i64 0) (.int .i64 0);clear z0 z1 z2 z3 z4 z5 x0 x1 x2 x3 x4 x5 lx R4;generalize World.setCell _ _ _ = wq at *
      refine Qh (X4.mk He) ?_;refine Qr 3 rfl (by kernel_rfl) ?_;simp only [Qc,Qd,Qe];go_wp2;refine Qq ?_;refine Qv (by kernel_rfl) ?_;exact ⟨rfl,⟨EF,R6⟩,rfl⟩
     rintro w9 ⟨EF,R6⟩;obtain ⟨y0,y1,y2,y3,y4,y5⟩:=R6.c6;go_wp2;refine bodyPost_ret (v:=.tuple #[.agg #[.int .i64 0,.int .i64 0,.int .i64 0,.int .i64 0,.int .i64 0,.int .i64 0],.int .i64 ae]) (by simp [results,Tryz.results66,go_sem,y0,y1,y2,y3,y4,y5]) rfl ⟨by rw [hV.out];rfl,EF⟩
   ·have gd1 : decide (L0 < c.numV (f k).on) = false := decide_eq_false hday;have hE1 : Hid ((Jj c l.r X fr (f k).on).2 ≠ 0 → V = (J0, (Jj c l.r X fr (f k).on).2)) := fun h => by rw [h1'.out, Qhy (by rw [← hL0.out]; exact hday) h]
    have hE2 : Hid ((Jj c l.r X fr (f k).on).2 = 0 → V = Hc c l.r f on k m (Jj c l.r X fr (f k).on).1 (f k).n):=fun h => by rw [h1'.out,Qhz (by rw [← hL0.out];exact hday) h]
    clear h1' hday;generalize c.numV (f k).on = L1 at *;go_upto_region 11 with (go_at_call 48;(with_reducible refine Calls.mono (hdd _ (C.ext HE)) ?_);rintro e w5 ⟨rfl,h4⟩)
    replace HE:=HE.trans h4;replace Ht:=Ht.ext h4;replace Hd:=Hd.ext h4;replace Hf:=Hf.ext h4;replace He:=He.ext h4;replace H3:=H3.ext h4;clear h4 e0 le k0 k1 lk q0 q1 q2 q3 q4 q5 lq hdd;obtain ⟨q0,q1,q2,q3,q4,q5⟩:=H3.c6;have lq:=H3.lt;have NA:=Gl A A' ca cb c l hr X hX fr (f k).on bt bd b2 b1 bf be v _ HE C Z0 Ht Hd (B2.ext HE) (B1.ext HE) Hf He g3 n1 n2 n3 n4.out n5.out n6.out;go_upto_region 12 with (first | (go_at_call 118;(with_reducible refine Calls.mono (NA) ?_);rintro e wk ⟨rfl,hO,hf,he,Y,hYin,hd,hY⟩) | (go_at_fn 118;(with_reducible refine Calls.mono (NA) ?_);rintro e wk ⟨rfl,hO,hf,he,Y,hYin,hd,hY⟩))
    replace HE:=hO.ext HE gS.out;replace Ht:=hO.held Ht n4.out;replace H3:=hO.held H3 (n17.out);clear hO Hd Hf He NA;have Hd:=hd;have Hf:=hf;have He:=he;clear hd hf he;clear q0 q1 q2 q3 q4 q5 lq hX;generalize Jj c l.r X fr (f k).on = a at *;obtain ⟨aX,ae⟩:=a;simp only [] at He hY hE1 hE2;obtain ⟨q0,q1,q2,q3,q4,q5⟩:=H3.c6;have lq:=H3.lt;go_upto_region 14 with (fail)
    obtain ⟨v4,hv⟩:=Qg ((wk.alloc (.cells #[.int .i64 (f k).n.n,.int .i64 (f k).n.d] 65)).alloc (.cells #[.pointer (some ⟨bd,2,none⟩),.pointer (some ⟨bd,0,none⟩)] 202));rw [← hv];have E4 : Qb wk v4:=by rw [hv];exact ((Qb.refl _).alloc _).alloc _
    have H8 : Qa v4 wk.heap.size 65 #[.int .i64 (f k).n.n,.int .i64 (f k).n.d]:=by rw [hv];exact (Qa.new _ _ _).alloc _
    have Hs : Qa v4 (wk.heap.size + 1) 202 #[.pointer (some ⟨bd,2,none⟩),.pointer (some ⟨bd,0,none⟩)]:=by rw [hv];exact Qa.at _ _ _ _ (by simp)
    clear hv q0 q1 q2 q3 q4 q5 lq H3 n17;obtain ⟨bs,hbs⟩:=Qg (wk.heap.size + 1);rw [← hbs] at Hs ⊢;obtain ⟨b18,hb18⟩:=Qg (wk.heap.size);rw [← hb18] at H8 ⊢;have hl1:=Ht.lt;have hl2:=Hd.lt;have hl3:=Hf.lt;have hl4:=He.lt;have hl5:=HE.size;have n8 : b18 ≠ be:=by omega
    have n8d : b18 ≠ bd:=by omega
    have ns : bs ≠ be:=by omega
    have nsd : bs ≠ bd:=by omega
    have nt8 : bt ≠ b18:=by omega
    have nf8 : bf ≠ b18:=by omega
    have ns8 : bs ≠ b18:=by omega
    have g18 : v.heap.size ≤ b18:=by omega
    clear hl1 hl2 hl3 hl4 hl5 hbs hb18;replace HE:=HE.trans E4;replace Ht:=Ht.ext E4;replace Hd:=Hd.ext E4;replace Hf:=Hf.ext E4;replace He:=He.ext E4;clear E4
    go_loopw [59] (fun jv wr => ∃ j : Nat,j ≤ 2 ∧ jv = .int .i64 (j : Int) ∧ ∃ X lf ee,Db.In X ∧ Rt.In lf ∧ Qb v wr ∧ Qa wr bt 200 #[.func (.func 117) #[] #[.pointer (some ⟨be,0,none⟩)]] ∧ Qa wr bd 72 #[.int .i64 X.p.n,.int .i64 X.p.d,.int .i64 X.i.n,.int .i64 X.i.d,.int .i64 X.s.n,.int .i64 X.s.d] ∧ Qa wr bf 51 #[.int .i64 (f k).on.y,.int .i64 (f k).on.m,.bool (f k).on.s,.int .i64 (f k).on.d] ∧ Qa wr be 29 #[.int .i64 ee] ∧ Qa wr b18 65 #[.int .i64 lf.n,.int .i64 lf.d] ∧ Qa wr bs 202 #[.pointer (some ⟨bd,2,none⟩),.pointer (some ⟨bd,0,none⟩)] ∧ Hid (ee = 0 → V = restJ c l.r f on k m j X lf) ∧ Hid (ee ≠ 0 → V = (J0,ee))) (fun jv _ => 2 - (intOf jv).toNat)
    case atStart => exact ⟨0,by decide,rfl,Y,(f k).n,ae,hYin,hfin,HE,Ht,Hd,Hf,He,H8,Hs,fun h => by rw [hE2.out h,← hY h];rfl,fun h => hE1.out h⟩
    case round =>
     clear HE Ht Hd Hf He H8 Hs hE1 hE2 hY hYin hfin;obtain ⟨j,hj,rfl,X,lf,ee,hX,hlf,HE,Ht,Hd,Hf,He,H8,Hs,h1,h2⟩:=hrel;obtain ⟨wi,rfl⟩:=Qg wr;have e0:=He.c1;have le:=He.lt;by_cases hj2 : j < 2
     ·obtain ⟨s0,s1⟩:=Hs.c2;have ls:=Hs.lt;by_cases h0 : ee = 0
      ·subst h0;have hj3 : j = 0 ∨ j = 1 := by omega
       rcases hj3 with rfl | rfl
       ·skip
        have NP:=fun w h z => Qg4 X lf hX.i hlf bd w h z
        have hpin:=Ox (x:=X.i) (n:=lf);have hpV : Hid (V = if (Zk X.i lf).2 ≠ 0 then (J0,(Zk X.i lf).2) else Hg c l.r f on k m ⟨X.p,(Zk X.i lf).1.1,X.s⟩ (Zk X.i lf).1.2):=h1.out rfl;clear h1 h2;generalize Zk X.i lf = P at *;obtain ⟨⟨⟨Pn,Pd⟩,⟨Ln,Ld⟩⟩,Le⟩:=P;simp only [] at hpin hpV NP;go_upto_region 17 with (fail)
        clear e0 le s0 s1 ls;refine Zb 8 [7] (fun x => Qa x bt 200 #[.func (.func 117) #[] #[.pointer (some ⟨be,0,none⟩)]] ∧ Qa x b18 65 #[.int .i64 lf.n,.int .i64 lf.d]) Qo rfl ?_;intro vz hvz;replace HE:=HE.trans hvz;replace Ht:=Ht.ext hvz;replace Hd:=Hd.ext hvz;replace Hf:=Hf.ext hvz;replace He:=He.ext hvz;replace H8:=H8.ext hvz;replace Hs:=Hs.ext hvz;clear hvz;refine Qs (g:=5) [0,1,2] [_,_,_] ⟨rfl,rfl,rfl,trivial⟩ (by kernel_rfl) (by kernel_rfl) ⟨Ht,H8⟩ ?_;simp only [Qc,Qd,Qe];apply Exists.intro;refine ⟨fun u hu => ?_,?_⟩
        ·have t0:=hu.1.c1;have lt:=hu.1.lt;obtain ⟨r0,r1⟩:=hu.2.c2;have lr:=hu.2.lt;repeat (first | go_big_quiet_skip | (go_big_quiet_want;go_big_quiet_op;go_big_quiet_on))
         refine wpQuiet_nil ?_;rfl
        refine Ql 3 rfl (by kernel_rfl) ?_;simp only [Qc,Qd,Qe];go_wp2_with (go_at_call 119;(with_reducible refine Calls.mono (NP _ Hd (Z0.ext HE)) ?_);rintro e wp ⟨rfl,hO,hd⟩);replace HE:=hO.ext HE (fun k hk => by rw [List.mem_singleton.1 hk];exact gd);replace Ht:=hO.held Ht (by simp only [List.mem_singleton];exact fun e => n4.out (by rw [e];simp));replace Hf:=hO.held Hf (by simp only [List.mem_singleton];exact Ne.symm n1);replace He:=hO.held He (by simp only [List.mem_singleton];exact Ne.symm n2);replace H8:=hO.held H8 (by simp only [List.mem_singleton];exact n8d);replace Hs:=hO.held Hs (by simp only [List.mem_singleton];exact nsd);clear hO Hd;have Hd:=hd;clear hd
        refine Qh ⟨Ht,H8⟩ ?_;refine Qs (g:=2) [4,5] [_,_] ⟨rfl,rfl,trivial⟩ (by kernel_rfl) (by kernel_rfl) ⟨Ht,H8⟩ ?_;simp only [Qc,Qd,Qe];apply Exists.intro;refine ⟨fun u hu => ?_,?_⟩
        ·have t0:=hu.1.c1;have lt:=hu.1.lt;obtain ⟨r0,r1⟩:=hu.2.c2;have lr:=hu.2.lt;repeat (first | go_big_quiet_skip | (go_big_quiet_want;go_big_quiet_op;go_big_quiet_on))
         refine wpQuiet_nil ?_;rfl
        refine Ql 6 rfl (by kernel_rfl) ?_;simp only [Qc,Qd,Qe];go_wp2_with (first | (go_at_call 117;(with_reducible refine Calls.mono (Xf ⟨Ln,Ld⟩ Le 0 be _ He) ?_);rintro e we ⟨rfl,h5,He2⟩) | (go_at_fn 117;(with_reducible refine Calls.mono (Xf ⟨Ln,Ld⟩ Le 0 be _ He) ?_);rintro e we ⟨rfl,h5,He2⟩));try rw [if_pos rfl] at He2
        replace HE:=h5.ext HE (fun k hk => by rw [List.mem_singleton.1 hk];exact g3);replace Ht:=h5.held Ht (by simp only [List.mem_singleton];exact fun e => n4.out (by rw [e];simp));replace Hf:=h5.held Hf (by simp only [List.mem_singleton];exact n3);replace H8:=h5.held H8 (by simp only [List.mem_singleton];exact n8);replace Hs:=h5.held Hs (by simp only [List.mem_singleton];exact ns);replace Hd:=h5.held Hd (by simp only [List.mem_singleton];exact n2);have He:=He2;clear h5 He2;refine Qh ⟨Ht,H8⟩ ?_;refine Qr 7 rfl (by kernel_rfl) ?_;simp only [Qc,Qd,Qe];have z0:=H8.frozen 0;have z1:=H8.frozen 1;obtain ⟨x0,x1⟩:=H8.c2;have lx:=H8.lt;have HE:=(HE.setCell (p:=⟨b18,0,none⟩) g18 (.int .i64 Ln)).setCell (p:=⟨b18,1,none⟩) g18 (.int .i64 Ld)
        have H82:=Qm H8 (.int .i64 Ln) (.int .i64 Ld);have Ht:=Qi (Qi Ht nt8 0 (.int .i64 Ln)) nt8 1 (.int .i64 Ld);have Hd:=Qi (Qi Hd (Ne.symm n8d) 0 (.int .i64 Ln)) (Ne.symm n8d) 1 (.int .i64 Ld);have Hf:=Qi (Qi Hf nf8 0 (.int .i64 Ln)) nf8 1 (.int .i64 Ld);have He:=Qi (Qi He (Ne.symm n8) 0 (.int .i64 Ln)) (Ne.symm n8) 1 (.int .i64 Ld);have Hs:=Qi (Qi Hs ns8 0 (.int .i64 Ln)) ns8 1 (.int .i64 Ld);have H8:=H82;go_wp2;refine Qq ?_;refine Qv (by kernel_rfl) ?_;generalize World.setCell _ _ _ = wq at *;clear z0 z1 x0 x1 lx H82;go_wp2;exact ⟨⟨1,by decide,by rfl,⟨X.p,⟨Pn,Pd⟩,X.s⟩,⟨Ln,Ld⟩,Le,⟨hX.p,hpin.1,hX.s⟩,hpin.2,HE,Ht,Hd,Hf,He,H8,Hs,fun h => by rw [hpV.out,if_neg (by simpa using h)];rfl,fun h => by rw [hpV.out,if_pos h]⟩,by simp [intOf]⟩
       ·skip
        have NP:=fun w h z => Qg5 X lf hX.p hlf bd w h z
        have hpin:=Ox (x:=X.p) (n:=lf);have hpV : Hid (V = if (Zk X.p lf).2 ≠ 0 then (J0,(Zk X.p lf).2) else Hi c l.r f on k m ⟨(Zk X.p lf).1.1,X.i,X.s⟩ (Zk X.p lf).1.2):=h1.out rfl;clear h1 h2;generalize Zk X.p lf = P at *;obtain ⟨⟨⟨Pn,Pd⟩,⟨Ln,Ld⟩⟩,Le⟩:=P;simp only [] at hpin hpV NP;go_upto_region 17 with (fail)
        clear e0 le s0 s1 ls;refine Zb 8 [7] (fun x => Qa x bt 200 #[.func (.func 117) #[] #[.pointer (some ⟨be,0,none⟩)]] ∧ Qa x b18 65 #[.int .i64 lf.n,.int .i64 lf.d]) Qo rfl ?_;intro vz hvz;replace HE:=HE.trans hvz;replace Ht:=Ht.ext hvz;replace Hd:=Hd.ext hvz;replace Hf:=Hf.ext hvz;replace He:=He.ext hvz;replace H8:=H8.ext hvz;replace Hs:=Hs.ext hvz;clear hvz;refine Qs (g:=5) [0,1,2] [_,_,_] ⟨rfl,rfl,rfl,trivial⟩ (by kernel_rfl) (by kernel_rfl) ⟨Ht,H8⟩ ?_;simp only [Qc,Qd,Qe];apply Exists.intro;refine ⟨fun u hu => ?_,?_⟩
        ·have t0:=hu.1.c1;have lt:=hu.1.lt;obtain ⟨r0,r1⟩:=hu.2.c2;have lr:=hu.2.lt;repeat (first | go_big_quiet_skip | (go_big_quiet_want;go_big_quiet_op;go_big_quiet_on))
         refine wpQuiet_nil ?_;rfl
        refine Ql 3 rfl (by kernel_rfl) ?_;simp only [Qc,Qd,Qe];go_wp2_with (go_at_call 119;(with_reducible refine Calls.mono (NP _ Hd (Z0.ext HE)) ?_);rintro e wp ⟨rfl,hO,hd⟩);replace HE:=hO.ext HE (fun k hk => by rw [List.mem_singleton.1 hk];exact gd);replace Ht:=hO.held Ht (by simp only [List.mem_singleton];exact fun e => n4.out (by rw [e];simp));replace Hf:=hO.held Hf (by simp only [List.mem_singleton];exact Ne.symm n1);replace He:=hO.held He (by simp only [List.mem_singleton];exact Ne.symm n2);replace H8:=hO.held H8 (by simp only [List.mem_singleton];exact n8d);replace Hs:=hO.held Hs (by simp only [List.mem_singleton];exact nsd);clear hO Hd;have Hd:=hd;clear hd
        refine Qh ⟨Ht,H8⟩ ?_;refine Qs (g:=2) [4,5] [_,_] ⟨rfl,rfl,trivial⟩ (by kernel_rfl) (by kernel_rfl) ⟨Ht,H8⟩ ?_;simp only [Qc,Qd,Qe];apply Exists.intro;refine ⟨fun u hu => ?_,?_⟩
        ·have t0:=hu.1.c1;have lt:=hu.1.lt;obtain ⟨r0,r1⟩:=hu.2.c2;have lr:=hu.2.lt;repeat (first | go_big_quiet_skip | (go_big_quiet_want;go_big_quiet_op;go_big_quiet_on))
         refine wpQuiet_nil ?_;rfl
        refine Ql 6 rfl (by kernel_rfl) ?_;simp only [Qc,Qd,Qe];go_wp2_with (first | (go_at_call 117;(with_reducible refine Calls.mono (Xf ⟨Ln,Ld⟩ Le 0 be _ He) ?_);rintro e we ⟨rfl,h5,He2⟩) | (go_at_fn 117;(with_reducible refine Calls.mono (Xf ⟨Ln,Ld⟩ Le 0 be _ He) ?_);rintro e we ⟨rfl,h5,He2⟩));try rw [if_pos rfl] at He2
        replace HE:=h5.ext HE (fun k hk => by rw [List.mem_singleton.1 hk];exact g3);replace Ht:=h5.held Ht (by simp only [List.mem_singleton];exact fun e => n4.out (by rw [e];simp));replace Hf:=h5.held Hf (by simp only [List.mem_singleton];exact n3);replace H8:=h5.held H8 (by simp only [List.mem_singleton];exact n8);replace Hs:=h5.held Hs (by simp only [List.mem_singleton];exact ns);replace Hd:=h5.held Hd (by simp only [List.mem_singleton];exact n2);have He:=He2;clear h5 He2;refine Qh ⟨Ht,H8⟩ ?_;refine Qr 7 rfl (by kernel_rfl) ?_;simp only [Qc,Qd,Qe];have z0:=H8.frozen 0;have z1:=H8.frozen 1;obtain ⟨x0,x1⟩:=H8.c2;have lx:=H8.lt;have HE:=(HE.setCell (p:=⟨b18,0,none⟩) g18 (.int .i64 Ln)).setCell (p:=⟨b18,1,none⟩) g18 (.int .i64 Ld)
        have H82:=Qm H8 (.int .i64 Ln) (.int .i64 Ld);have Ht:=Qi (Qi Ht nt8 0 (.int .i64 Ln)) nt8 1 (.int .i64 Ld);have Hd:=Qi (Qi Hd (Ne.symm n8d) 0 (.int .i64 Ln)) (Ne.symm n8d) 1 (.int .i64 Ld);have Hf:=Qi (Qi Hf nf8 0 (.int .i64 Ln)) nf8 1 (.int .i64 Ld);have He:=Qi (Qi He (Ne.symm n8) 0 (.int .i64 Ln)) (Ne.symm n8) 1 (.int .i64 Ld);have Hs:=Qi (Qi Hs ns8 0 (.int .i64 Ln)) ns8 1 (.int .i64 Ld);have H8:=H82;go_wp2;refine Qq ?_;refine Qv (by kernel_rfl) ?_;generalize World.setCell _ _ _ = wq at *;clear z0 z1 x0 x1 lx H82;go_wp2;exact ⟨⟨2,by decide,by rfl,⟨⟨Pn,Pd⟩,X.i,X.s⟩,⟨Ln,Ld⟩,Le,⟨hpin.1,hX.i,hX.s⟩,hpin.2,HE,Ht,Hd,Hf,He,H8,Hs,fun h => by rw [hpV.out,if_neg (by simpa using h)];rfl,fun h => by rw [hpV.out,if_pos h]⟩,by simp [intOf]⟩
      ·have g0 : (ee == 0) = false := beq_eq_false_iff_ne.2 h0;have hj3 : j = 0 ∨ j = 1 := by omega
       rcases hj3 with rfl | rfl
       ·go_wp2;exact ⟨⟨1,by decide,rfl,X,lf,ee,hX,hlf,HE,Ht,Hd,Hf,He,H8,Hs,fun h => absurd h h0,h2⟩,by simp [intOf]⟩
       ·go_wp2;exact ⟨⟨2,by decide,rfl,X,lf,ee,hX,hlf,HE,Ht,Hd,Hf,He,H8,Hs,fun h => absurd h h0,h2⟩,by simp [intOf]⟩
     ·obtain rfl : j = 2 := by omega
      by_cases h0 : ee = 0
      ·subst h0;have NA:=fun w z => Lk X.s lf hX.s hlf w z
       have hSin:=Vz X.s lf;have hpV : Hid (V = if (Zn X.s lf).2 ≠ 0 then (J0,(Zn X.s lf).2) else Yb c l.r f on (k + 1) m ⟨X.p,X.i,(Zn X.s lf).1⟩ (f k).on):=h1.out rfl;clear h1 h2;generalize Zn X.s lf = S at *;obtain ⟨⟨Sn,Sd⟩,Se⟩:=S;simp only [] at hSin hpV NA;go_upto_region 20 with (fail)
       clear e0 le;refine Zb 10 [9] (fun x => Qa x bt 200 #[.func (.func 117) #[] #[.pointer (some ⟨be,0,none⟩)]] ∧ Qa x bd 72 #[.int .i64 X.p.n,.int .i64 X.p.d,.int .i64 X.i.n,.int .i64 X.i.d,.int .i64 X.s.n,.int .i64 X.s.d] ∧ Qa x b18 65 #[.int .i64 lf.n,.int .i64 lf.d]) Qo rfl ?_;intro vz hvz;replace HE:=HE.trans hvz;replace Ht:=Ht.ext hvz;replace Hd:=Hd.ext hvz;replace Hf:=Hf.ext hvz;replace He:=He.ext hvz;replace H8:=H8.ext hvz;clear hvz;refine Qs (g:=6) [0,1,2,3] [_,_,_,_] ⟨rfl,rfl,rfl,rfl,trivial⟩ (by kernel_rfl) (by kernel_rfl) ⟨Ht,Hd,H8⟩ ?_;simp only [Qc,Qd,Qe];apply Exists.intro;refine ⟨fun u hu => ?_,?_⟩
       ·have t0:=hu.1.c1;have lt:=hu.1.lt;obtain ⟨d0,d1,d2,d3,d4,d5⟩:=hu.2.1.c6;have ld:=hu.2.1.lt;obtain ⟨r0,r1⟩:=hu.2.2.c2;have lr:=hu.2.2.lt;repeat (first | go_big_quiet_skip | (go_big_quiet_want;go_big_quiet_op;go_big_quiet_on))
        refine wpQuiet_nil ?_;rfl
       refine Ql 4 rfl (by kernel_rfl) ?_;simp only [Qc,Qd,Qe];go_wp2_with (go_at_call 86;(with_reducible refine Calls.mono (NA _ (Z0.ext HE)) ?_);rintro e wc ⟨rfl,h4⟩);replace HE:=HE.trans h4;replace Ht:=Ht.ext h4;replace Hd:=Hd.ext h4;replace Hf:=Hf.ext h4;replace He:=He.ext h4;replace H8:=H8.ext h4;clear h4;refine Qh ⟨Ht,Hd,H8⟩ ?_;refine Qs (g:=3) [5,6] [_,_] ⟨rfl,rfl,trivial⟩ (by kernel_rfl) (by kernel_rfl) ⟨Ht,Hd,H8⟩ ?_;simp only [Qc,Qd,Qe];apply Exists.intro;refine ⟨fun u hu => ?_,?_⟩
       ·have t0:=hu.1.c1;have lt:=hu.1.lt;obtain ⟨d0,d1,d2,d3,d4,d5⟩:=hu.2.1.c6;have ld:=hu.2.1.lt;obtain ⟨r0,r1⟩:=hu.2.2.c2;have lr:=hu.2.2.lt;repeat (first | go_big_quiet_skip | (go_big_quiet_want;go_big_quiet_op;go_big_quiet_on))
        refine wpQuiet_nil ?_;rfl
       refine Ql 7 rfl (by kernel_rfl) ?_;simp only [Qc,Qd,Qe];go_wp2_with (first | (go_at_call 117;(with_reducible refine Calls.mono (Xf ⟨Sn,Sd⟩ Se 0 be _ He) ?_);rintro e we ⟨rfl,h5,He2⟩) | (go_at_fn 117;(with_reducible refine Calls.mono (Xf ⟨Sn,Sd⟩ Se 0 be _ He) ?_);rintro e we ⟨rfl,h5,He2⟩));try rw [if_pos rfl] at He2
       replace HE:=h5.ext HE (fun k hk => by rw [List.mem_singleton.1 hk];exact g3);replace Ht:=h5.held Ht (by simp only [List.mem_singleton];exact fun e => n4.out (by rw [e];simp));replace Hf:=h5.held Hf (by simp only [List.mem_singleton];exact n3);replace H8:=h5.held H8 (by simp only [List.mem_singleton];exact n8);replace Hd:=h5.held Hd (by simp only [List.mem_singleton];exact n2);have He:=He2;clear h5 He2;refine Qh ⟨Ht,Hd,H8⟩ ?_;refine Qs (g:=1) [8] [_] ⟨rfl,trivial⟩ (by kernel_rfl) (by kernel_rfl) ⟨Ht,Hd,H8⟩ ?_;simp only [Qc,Qd,Qe];apply Exists.intro;refine ⟨fun u hu => ?_,?_⟩
       ·have t0:=hu.1.c1;have lt:=hu.1.lt;obtain ⟨d0,d1,d2,d3,d4,d5⟩:=hu.2.1.c6;have ld:=hu.2.1.lt;obtain ⟨r0,r1⟩:=hu.2.2.c2;have lr:=hu.2.2.lt;repeat (first | go_big_quiet_skip | (go_big_quiet_want;go_big_quiet_op;go_big_quiet_on))
        refine wpQuiet_nil ?_;rfl
       refine Qr 9 rfl (by kernel_rfl) ?_;simp only [Qc,Qd,Qe];have z4:=Hd.frozen 4;have z5:=Hd.frozen 5;obtain ⟨x0,x1,x2,x3,x4,x5⟩:=Hd.c6;have lx:=Hd.lt;have HE:=(HE.setCell (p:=⟨bd,4,none⟩) gd (.int .i64 Sn)).setCell (p:=⟨bd,5,none⟩) gd (.int .i64 Sd);have Hd2:=Qef Hd (.int .i64 Sn) (.int .i64 Sd);have Ht:=Qi (Qi Ht ntd 4 (.int .i64 Sn)) ntd 5 (.int .i64 Sd);have Hf:=Qi (Qi Hf (Ne.symm n1) 4 (.int .i64 Sn)) (Ne.symm n1) 5 (.int .i64 Sd);have He:=Qi (Qi He (Ne.symm n2) 4 (.int .i64 Sn)) (Ne.symm n2) 5 (.int .i64 Sd);have Hd:=Hd2;go_wp2;refine Qq ?_;refine Qv (by kernel_rfl) ?_;generalize World.setCell _ _ _ = wq at *
       clear z4 z5 x0 x1 x2 x3 x4 x5 lx Hd2;go_wp2;exact ⟨⟨k + 1,by omega,by go_num,⟨X.p,X.i,⟨Sn,Sd⟩⟩,(f k).on,Se,⟨hX.p,hX.i,hSin⟩,HE,Ht,Hd,Hf,He,fun h => by rw [hpV.out,if_neg (by simpa using h),hm2],fun h => by rw [hpV.out,if_pos h]⟩,by simp [intOf];omega⟩
      ·have g0 : (ee == 0) = false:=beq_eq_false_iff_ne.2 h0;go_wp2;exact ⟨⟨k + 1,by omega,by go_num,X,(f k).on,ee,hX,HE,Ht,Hd,Hf,He,fun h => absurd h h0,h2⟩,by simp [intOf];omega⟩
  ·obtain rfl : k = n := by omega
   by_cases h0 : ee = 0
   ·subst h0
    have hVA : Hid (V = Ux (Jj c l.r X fr on)):=by
     have:=h1.out rfl;rw [Nat.sub_self] at this;exact this
    clear h1 h2;have e0:=He.c1;have le:=He.lt;have B3e:=B3.ext HE;obtain ⟨o0,o1,o2,o3⟩:=B3e.c4;have lo:=B3e.lt;have NA:=Gl A A' ca cb c l hr X hX fr on bt bd b2 b1 bf be v _ HE C Z0 Ht Hd (B2.ext HE) (B1.ext HE) Hf He g3 n1 n2 n3 n4.out n5.out n6.out;go_upto_region 24 with (first | (go_at_call 118;(with_reducible refine Calls.mono (NA) ?_);rintro e wk ⟨rfl,hO,hf,he,Y,hYin,hd,hY⟩) | (go_at_fn 118;(with_reducible refine Calls.mono (NA) ?_);rintro e wk ⟨rfl,hO,hf,he,Y,hYin,hd,hY⟩))
    replace HE:=hO.ext HE gS.out;replace Ht:=hO.held Ht n4.out;clear hO Hd Hf He NA;have Hd:=hd;have Hf:=hf;have He:=he;clear hd hf he;clear e0 le o0 o1 o2 o3 lo B3e;generalize Jj c l.r X fr on = a at *;obtain ⟨aX,ae⟩:=a;simp only [] at He hY hVA;by_cases h0 : ae = 0
    ·subst h0;have hy := hY rfl;subst hy;have hV : Hid (V = (Y, 0)) := by unfold Hid; rw [hVA.out]; exact Au rfl
     clear hVA hY;have e0:=He.c1;have le:=He.lt;have R4:=B4.ext HE;obtain ⟨d0,d1,d2,d3,d4,d5⟩:=Hd.c6;have ld:=Hd.lt;have z0:=R4.frozen 0;have z1:=R4.frozen 1;have z2:=R4.frozen 2;have z3:=R4.frozen 3;have z4:=R4.frozen 4;have z5:=R4.frozen 5;obtain ⟨x0,x1,x2,x3,x4,x5⟩:=R4.c6;have lx:=R4.lt;have R6:=Yz R4 (.int .i64 Y.p.n) (.int .i64 Y.p.d) (.int .i64 Y.i.n) (.int .i64 Y.i.d) (.int .i64 Y.s.n) (.int .i64 Y.s.d);have EF:=Yy (E.trans HE) hbr (.int .i64 Y.p.n) (.int .i64 Y.p.d) (.int .i64 Y.i.n) (.int .i64 Y.i.d) (.int .i64 Y.s.n) (.int .i64 Y.s.d);obtain ⟨y0,y1,y2,y3,y4,y5⟩:=R6.c6;go_wp2;refine bodyPost_ret (v:=.tuple #[.agg #[.int .i64 Y.p.n,.int .i64 Y.p.d,.int .i64 Y.i.n,.int .i64 Y.i.d,.int .i64 Y.s.n,.int .i64 Y.s.d],.int .i64 0]) (by simp [results,Tryz.results66,go_sem,y0,y1,y2,y3,y4,y5]) rfl ⟨by rw [hV.out],EF⟩
    ·have g0 : (ae == 0) = false := beq_eq_false_iff_ne.2 h0;have hV : Hid (V = (J0, ae)) := by unfold Hid; rw [hVA.out]; exact K2 h0
     clear hVA hY h0;have g0n : (ae != 0) = true:=by rw [bne,g0];rfl
     have e0:=He.c1;have le:=He.lt;go_upto_region 25 with (fail)
     clear e0 le;apply Gf (S:=fun w' => Qb w w' ∧ Qa w' b4 72 #[.int .i64 0,.int .i64 0,.int .i64 0,.int .i64 0,.int .i64 0,.int .i64 0])
     ·refine Zb 4 [3] (fun x => X4 x be 29 #[.int .i64 ae]) Qo rfl ?_;intro vz hvz;replace He:=He.ext hvz;replace HE:=HE.trans hvz;clear hvz;refine Qs (g:=2) [0,1] [_,_] ⟨rfl,rfl,trivial⟩ (by kernel_rfl) (by kernel_rfl) (X4.mk He) ?_;simp only [Qc,Qd,Qe];apply Exists.intro;refine ⟨fun u hu => ?_,?_⟩
      ·have e0:=hu.out.c1;have le:=hu.out.lt;repeat (first | go_big_quiet_skip | (go_big_quiet_want;go_big_quiet_op;go_big_quiet_on))
       refine wpQuiet_nil ?_;rfl
      refine Ql 2 rfl (by kernel_rfl) ?_;simp only [Qc,Qd,Qe];have R4:=B4.ext HE;have z0:=R4.frozen 0;have z1:=R4.frozen 1;have z2:=R4.frozen 2;have z3:=R4.frozen 3;have z4:=R4.frozen 4;have z5:=R4.frozen 5;obtain ⟨x0,x1,x2,x3,x4,x5⟩:=R4.c6;have lx:=R4.lt;go_wp2;have R6:=Yz R4 (.int .i64 0) (.int .i64 0) (.int .i64 0) (.int .i64 0) (.int .i64 0) (.int .i64 0);have EF:=Yy (E.trans HE) hbr (.int .i64 0) (.int .i64 0) (.int .i64 0) (.int .i64 0) (.int .i64 0) (.int .i64 0);replace He:=Ot He hbe4 (.int .i64 0) (.int .i64 0) (.int .i64 0) (.int .i64 0) (.int .i64 0) (.int .i64 0);clear z0 z1 z2 z3 z4 z5 x0 x1 x2 x3 x4 x5 lx R4;generalize World.setCell _ _ _ = wq at *
      refine Qh (X4.mk He) ?_;refine Qr 3 rfl (by kernel_rfl) ?_;simp only [Qc,Qd,Qe];go_wp2;refine Qq ?_;refine Qv (by kernel_rfl) ?_;exact ⟨rfl,⟨EF,R6⟩,rfl⟩
     rintro w9 ⟨EF,R6⟩;obtain ⟨y0,y1,y2,y3,y4,y5⟩:=R6.c6;go_wp2;refine bodyPost_ret (v:=.tuple #[.agg #[.int .i64 0,.int .i64 0,.int .i64 0,.int .i64 0,.int .i64 0,.int .i64 0],.int .i64 ae]) (by simp [results,Tryz.results66,go_sem,y0,y1,y2,y3,y4,y5]) rfl ⟨by rw [hV.out];rfl,EF⟩
   ·have g0 : (ee == 0) = false := beq_eq_false_iff_ne.2 h0;have hV := Lib.hid (h2.out h0);clear h1 h2 h0;have g0n : (ee != 0) = true := by rw [bne, g0]; rfl
    have e0:=He.c1;have le:=He.lt;go_upto_region 25 with (fail)
    clear e0 le;apply Gf (S:=fun w' => Qb w w' ∧ Qa w' b4 72 #[.int .i64 0,.int .i64 0,.int .i64 0,.int .i64 0,.int .i64 0,.int .i64 0])
    ·refine Zb 4 [3] (fun x => X4 x be 29 #[.int .i64 ee]) Qo rfl ?_;intro vz hvz;replace He:=He.ext hvz;replace HE:=HE.trans hvz;clear hvz;refine Qs (g:=2) [0,1] [_,_] ⟨rfl,rfl,trivial⟩ (by kernel_rfl) (by kernel_rfl) (X4.mk He) ?_;simp only [Qc,Qd,Qe];apply Exists.intro;refine ⟨fun u hu => ?_,?_⟩
     ·have e0:=hu.out.c1;have le:=hu.out.lt;repeat (first | go_big_quiet_skip | (go_big_quiet_want;go_big_quiet_op;go_big_quiet_on))
      refine wpQuiet_nil ?_;rfl
     refine Ql 2 rfl (by kernel_rfl) ?_;simp only [Qc,Qd,Qe];have R4:=B4.ext HE;have z0:=R4.frozen 0;have z1:=R4.frozen 1;have z2:=R4.frozen 2;have z3:=R4.frozen 3;have z4:=R4.frozen 4;have z5:=R4.frozen 5;obtain ⟨x0,x1,x2,x3,x4,x5⟩:=R4.c6;have lx:=R4.lt;go_wp2;have R6:=Yz R4 (.int .i64 0) (.int .i64 0) (.int .i64 0) (.int .i64 0) (.int .i64 0) (.int .i64 0);have EF:=Yy (E.trans HE) hbr (.int .i64 0) (.int .i64 0) (.int .i64 0) (.int .i64 0) (.int .i64 0) (.int .i64 0);replace He:=Ot He hbe4 (.int .i64 0) (.int .i64 0) (.int .i64 0) (.int .i64 0) (.int .i64 0) (.int .i64 0);clear z0 z1 z2 z3 z4 z5 x0 x1 x2 x3 x4 x5 lx R4;generalize World.setCell _ _ _ = wq at *
     refine Qh (X4.mk He) ?_;refine Qr 3 rfl (by kernel_rfl) ?_;simp only [Qc,Qd,Qe];go_wp2;refine Qq ?_;refine Qv (by kernel_rfl) ?_;exact ⟨rfl,⟨EF,R6⟩,rfl⟩
    rintro w9 ⟨EF,R6⟩;obtain ⟨y0,y1,y2,y3,y4,y5⟩:=R6.c6;go_wp2;refine bodyPost_ret (v:=.tuple #[.agg #[.int .i64 0,.int .i64 0,.int .i64 0,.int .i64 0,.int .i64 0,.int .i64 0],.int .i64 ee]) (by simp [results,Tryz.results66,go_sem,y0,y1,y2,y3,y4,y5]) rfl ⟨by rw [hV.out];rfl,EF⟩
end
end Go.Proofs.YtoflcheopfppoaaGreatDoor

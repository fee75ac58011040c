/- Walks of the program's functions and plain facts, packed; proved: the lemmas below; no conditions but those that each states. -/
import Derived.Test.YtoflcheopfppoaaGreatDoorI4
import Derived.Test.YtoflcheopfppoaaGreatDoorI1
import Derived.Laws.EntriesVeiled
import Derived.Sort.Walk0
set_option maxRecDepth 100000
set_option maxHeartbeats 4000000
namespace Go.Proofs.YtoflcheopfppoaaGreatDoor
section
open Go Go.RowKit Go.Shelf
attribute [local go_sem] Zx
theorem sch_lo (c : Qd) (a b : Dt) : -9223372036854775808 ≤ c.schV a b:=by
 by_cases h : c.in2E a b = 0
 ·have hv : c.valid = true:=by
   rcases Lu c a b with ⟨_,hE⟩ | ⟨hv,_,_⟩ | ⟨hv,_,_⟩
   ·rw [hE] at h;exact absurd h (by decide)
   ·exact hv
   ·exact hv
  have hh : (c.has a && c.has b) = true:=by
   rcases Lu c a b with ⟨_,hE⟩ | ⟨_,_,hE⟩ | ⟨_,hh,_⟩
   ·rw [hE] at h;exact absurd h (by decide)
   ·rw [hE] at h;exact absurd h (by decide)
   ·exact hh
  obtain ⟨h1,h2⟩:=Bool.and_eq_true_iff.1 hh;rw [Rk hv h1 h2];have:=Kx hv h1;have:=Kx hv h2;omega
 ·unfold Qd.schV;rw [if_neg h];decide
theorem sch_hi (c : Qd) (a b : Dt) : c.schV a b ≤ 9223372036854775807:=by
 by_cases h : c.in2E a b = 0
 ·have hv : c.valid = true:=by
   rcases Lu c a b with ⟨_,hE⟩ | ⟨hv,_,_⟩ | ⟨hv,_,_⟩
   ·rw [hE] at h;exact absurd h (by decide)
   ·exact hv
   ·exact hv
  have hh : (c.has a && c.has b) = true:=by
   rcases Lu c a b with ⟨_,hE⟩ | ⟨_,_,hE⟩ | ⟨_,hh,_⟩
   ·rw [hE] at h;exact absurd h (by decide)
   ·rw [hE] at h;exact absurd h (by decide)
   ·exact hh
  obtain ⟨h1,h2⟩:=Bool.and_eq_true_iff.1 hh;rw [Rk hv h1 h2];have:=Kx hv h1;have:=Kx hv h2;omega
 ·unfold Qd.schV;rw [if_neg h];decide
theorem Tc (A A' : Option Addr) (ca cb : Nat) (c : Qd) (l : Ln) (hr : l.r.In) (X : Db) (hX : X.In) (fr tu : Dt) (bt bd bl bb bf be : Nat) (v0 w : World) (hv0 : Qb v0 w) (C : Zg v0 A ca A' cb c) (Z : Z6 v0) (ht : Qc w bt 200 #[.func (.func 117) #[] #[.pointer (some ⟨be,0,none⟩)]]) (hd : Qc w bd 72 #[.int .i64 X.p.n,.int .i64 X.p.d,.int .i64 X.i.n,.int .i64 X.i.d,.int .i64 X.s.n,.int .i64 X.s.d]) (hl : Qc w bl 67 #[.int .i64 l.p.n,.int .i64 l.p.d,.int .i64 l.r.n,.int .i64 l.r.d,.int .i64 l.f.y,.int .i64 l.f.m,.bool l.f.s,.int .i64 l.f.d]) (hb : Qc w bb 130 #[.slice A c.nk ca,.slice A' c.ny cb]) (hf : Qc w bf 51 #[.int .i64 fr.y,.int .i64 fr.m,.bool fr.s,.int .i64 fr.d]) (he : Qc w be 29 #[.int .i64 0]) (g3 : v0.heap.size ≤ be) (n1 : bd ≠ bf) (n2 : bd ≠ be) (n3 : bf ≠ be) (n4 : bt ∉ [bd,bf,be]) (n5 : bl ∉ [bd,bf,be]) (n6 : bb ∉ [bd,bf,be]) :
  Calls Tryz.prog 118 #[.agg #[.int .i64 tu.y,.int .i64 tu.m,.bool tu.s,.int .i64 tu.d],.pointer (some ⟨bt,0,none⟩),.pointer (some ⟨bd,0,none⟩),.pointer (some ⟨bl,0,none⟩),.pointer (some ⟨bb,0,none⟩),.pointer (some ⟨bf,0,none⟩),.pointer (some ⟨be,0,none⟩)] w fun e w' => e = .returned (.tuple #[]) ∧ Q3 [bd,bf,be] w w' ∧ Qc w' bf 51 #[.int .i64 tu.y,.int .i64 tu.m,.bool tu.s,.int .i64 tu.d] ∧ Qc w' be 29 #[.int .i64 (Jl c l.r X fr tu).2] ∧ ∃ Y : Db,Y.In ∧ Qc w' bd 72 #[.int .i64 Y.p.n,.int .i64 Y.p.d,.int .i64 Y.i.n,.int .i64 Y.i.d,.int .i64 Y.s.n,.int .i64 Y.s.d] ∧ ((Jl c l.r X fr tu).2 = 0 → Y = (Jl c l.r X fr tu).1):=by
 have NI:=fun w z => Ir X.p l.r (c.schV fr tu) hX.p hr (sch_lo c fr tu) (sch_hi c fr tu) w z
 have HV : Hid (Jl c l.r X fr tu = if (J3 X.p l.r (c.schV fr tu)).2 ≠ 0 then (X,(J3 X.p l.r (c.schV fr tu)).2) else if (Zm X.i (J3 X.p l.r (c.schV fr tu)).1).2 ≠ 0 then (X,(Zm X.i (J3 X.p l.r (c.schV fr tu)).1).2) else (⟨X.p,(Zm X.i (J3 X.p l.r (c.schV fr tu)).1).1,X.s⟩,0)):=rfl;have hMi:=Qi2 X.p l.r (c.schV fr tu);generalize Jl c l.r X fr tu = V at *;generalize J3 X.p l.r (c.schV fr tu) = M at *;obtain ⟨⟨Mn,Md⟩,Me⟩:=M;simp only [] at HV NI hMi
 go_enter Tryz.func118,Tryz.ntmps118
 go_upto_region 1 with (fail)
 obtain ⟨v,b1,E,H7,hbr,hv,hb1⟩:=Yi w 51 #[.int .i64 tu.y,.int .i64 tu.m,.bool tu.s,.int .i64 tu.d];rw [← hv,← hb1];clear hv hb1;have n7 : b1 ≠ be:=by have:=he.lt;omega
 have n8 : b1 ≠ bd:=by have:=hd.lt;omega
 have HE:=hv0.trans E;have HO : Q3 [bd,bf,be] w v:=Q3.of_ext E;have Ht:=ht.ext E;have Hd:=hd.ext E;have Hl:=hl.ext E;have Hb:=hb.ext E;have Hf:=hf.ext E;have He:=he.ext E;clear E hv0;apply K5 (S:=fun w' b => Qb v0 w' ∧ w.heap.size ≤ b ∧ Q3 [bd,bf,be] w w' ∧ Qc w' bt 200 #[.func (.func 117) #[] #[.pointer (some ⟨be,0,none⟩)]] ∧ Qc w' bd 72 #[.int .i64 X.p.n,.int .i64 X.p.d,.int .i64 X.i.n,.int .i64 X.i.d,.int .i64 X.s.n,.int .i64 X.s.d] ∧ Qc w' bf 51 #[.int .i64 fr.y,.int .i64 fr.m,.bool fr.s,.int .i64 fr.d] ∧ Qc w' b1 51 #[.int .i64 tu.y,.int .i64 tu.m,.bool tu.s,.int .i64 tu.d] ∧ Qc w' be 29 #[.int .i64 Me] ∧ Qc w' b 65 #[.int .i64 Mn,.int .i64 Md] ∧ b1 ≠ b)
 ·refine Q5 15 [14] (fun x => Qb v0 x ∧ Qc x bt 200 #[.func (.func 117) #[] #[.pointer (some ⟨be,0,none⟩)]] ∧ Qc x bd 72 #[.int .i64 X.p.n,.int .i64 X.p.d,.int .i64 X.i.n,.int .i64 X.i.d,.int .i64 X.s.n,.int .i64 X.s.d] ∧ Qc x bl 67 #[.int .i64 l.p.n,.int .i64 l.p.d,.int .i64 l.r.n,.int .i64 l.r.d,.int .i64 l.f.y,.int .i64 l.f.m,.bool l.f.s,.int .i64 l.f.d] ∧ Qc x bb 130 #[.slice A c.nk ca,.slice A' c.ny cb] ∧ Qc x bf 51 #[.int .i64 fr.y,.int .i64 fr.m,.bool fr.s,.int .i64 fr.d] ∧ Qc x b1 51 #[.int .i64 tu.y,.int .i64 tu.m,.bool tu.s,.int .i64 tu.d]) mixed rfl ?_;intro vz hvz;replace HO:=HO.trans (Q3.of_ext hvz);replace HE:=HE.trans hvz;replace Ht:=Ht.ext hvz
  replace Hd:=Hd.ext hvz;replace Hl:=Hl.ext hvz;replace Hb:=Hb.ext hvz;replace Hf:=Hf.ext hvz;replace H7:=H7.ext hvz;replace He:=He.ext hvz;try replace Q:=Q.ext hvz
  clear hvz;refine Qr (g:=7) [0,1,2,3,4,5,6,7] ⟨HE,Ht,Hd,Hl,Hb,Hf,H7⟩ ?_
  constructor
  refine ⟨fun u hu => ?_,?_⟩
  ·have t0:=hu.2.1.c1;have lt:=hu.2.1.lt;obtain ⟨d0,d1,d2,d3,d4,d5⟩:=hu.2.2.1.c6;have ld:=hu.2.2.1.lt;obtain ⟨p0,p1,p2,p3,p4,p5,p6,p7⟩:=hu.2.2.2.1.c8;have lp:=hu.2.2.2.1.lt;obtain ⟨k0,k1⟩:=hu.2.2.2.2.1.c2;have lk:=hu.2.2.2.2.1.lt;obtain ⟨f0,f1,f2,f3⟩:=hu.2.2.2.2.2.1.c4;have lf:=hu.2.2.2.2.2.1.lt;obtain ⟨s0,s1,s2,s3⟩:=hu.2.2.2.2.2.2.c4;have ls:=hu.2.2.2.2.2.2.lt;exact Qj
  refine Zp 8 13 ?_ ?_
  ·go_wp2_with (go_at_call 92;(with_reducible refine zc (Gg A A' ca cb c fr tu _ (C.ext HE)) ?_);rintro e wa ⟨rfl,h4⟩);replace HO:=HO.trans (Q3.of_ext h4);replace HE:=HE.trans h4;replace Ht:=Ht.ext h4;replace Hd:=Hd.ext h4;replace Hl:=Hl.ext h4;replace Hb:=Hb.ext h4;replace Hf:=Hf.ext h4;replace H7:=H7.ext h4;replace He:=He.ext h4;try replace Q:=Q.ext h4
   clear h4;refine Qe ⟨HE,Ht,Hd,Hl,Hb,Hf,H7⟩ ?_;refine Zp 9 13 ?_ ?_
   ·go_wp2_with (go_at_call 28;(with_reducible refine zc (NI _ (Z.ext HE)) ?_);rintro e wc ⟨rfl,h4⟩);replace HO:=HO.trans (Q3.of_ext h4);replace HE:=HE.trans h4;replace Ht:=Ht.ext h4;replace Hd:=Hd.ext h4;replace Hl:=Hl.ext h4;replace Hb:=Hb.ext h4;replace Hf:=Hf.ext h4;replace H7:=H7.ext h4;replace He:=He.ext h4;try replace Q:=Q.ext h4
    clear h4;refine Qe ⟨HE,Ht,Hd,Hl,Hb,Hf,H7⟩ ?_;refine Qr (g:=3) [10,11] ⟨HE,Ht,Hd,Hl,Hb,Hf,H7⟩ ?_
    constructor
    refine ⟨fun u hu => ?_,?_⟩
    ·have t0:=hu.2.1.c1;have lt:=hu.2.1.lt;obtain ⟨d0,d1,d2,d3,d4,d5⟩:=hu.2.2.1.c6;have ld:=hu.2.2.1.lt;obtain ⟨p0,p1,p2,p3,p4,p5,p6,p7⟩:=hu.2.2.2.1.c8;have lp:=hu.2.2.2.1.lt;obtain ⟨k0,k1⟩:=hu.2.2.2.2.1.c2;have lk:=hu.2.2.2.2.1.lt;obtain ⟨f0,f1,f2,f3⟩:=hu.2.2.2.2.2.1.c4;have lf:=hu.2.2.2.2.2.1.lt;obtain ⟨s0,s1,s2,s3⟩:=hu.2.2.2.2.2.2.c4;have ls:=hu.2.2.2.2.2.2.lt;exact Qj
    refine Zp 12 13 ?_ ?_
    ·go_wp2_with (first | (go_at_call 117;(with_reducible refine zc (Xw ⟨Mn,Md⟩ Me 0 be _ He) ?_);rintro e we ⟨rfl,h5,He2⟩) | (go_at_fn 117;(with_reducible refine zc (Xw ⟨Mn,Md⟩ Me 0 be _ He) ?_);rintro e we ⟨rfl,h5,He2⟩));try rw [if_pos rfl] at He2
     have h5':=h5.mono (T:=[bd,bf,be]) (fun k hk => by rw [List.mem_singleton.1 hk];simp);replace HO:=HO.trans h5';replace HE:=h5.ext HE (fun k hk => by rw [List.mem_singleton.1 hk];exact g3);replace Ht:=h5.held Ht (by simp only [List.mem_singleton];exact fun e => n4 (by rw [e];simp));replace Hd:=h5.held Hd (by simp only [List.mem_singleton];exact n2);replace Hl:=h5.held Hl (by simp only [List.mem_singleton];exact fun e => n5 (by rw [e];simp));replace Hb:=h5.held Hb (by simp only [List.mem_singleton];exact fun e => n6 (by rw [e];simp));replace Hf:=h5.held Hf (by simp only [List.mem_singleton];exact n3);replace H7:=h5.held H7 (by simp only [List.mem_singleton];exact n7)
     try replace Q:=h5.held Q (by simp only [List.mem_singleton];have:=he.lt;omega)
     have He:=He2;clear h5 h5' He2;refine Qe ⟨HE,Ht,Hd,Hl,Hb,Hf,H7⟩ ?_;refine Qk 13 ?_;go_wp2;obtain ⟨bq,hbq,Q,HE',hge⟩:=X0 HE 65 #[.int .i64 0,.int .i64 0];rw [← hbq];have hb1q : b1 ≠ bq:=by have:=H7.lt;omega
     have hwq : w.heap.size ≤ bq:=by have:=HO.size;omega
     have HO':=HO.trans (Q3.of_ext (S:=[bd,bf,be]) ((Qb.refl _).alloc (.cells #[.int .i64 0,.int .i64 0] 65)));clear hbq;replace Ht:=Ht.alloc (.cells #[.int .i64 0,.int .i64 0] 65);replace Hd:=Hd.alloc (.cells #[.int .i64 0,.int .i64 0] 65);replace Hl:=Hl.alloc (.cells #[.int .i64 0,.int .i64 0] 65);replace Hb:=Hb.alloc (.cells #[.int .i64 0,.int .i64 0] 65);replace Hf:=Hf.alloc (.cells #[.int .i64 0,.int .i64 0] 65);replace H7:=H7.alloc (.cells #[.int .i64 0,.int .i64 0] 65);replace He:=He.alloc (.cells #[.int .i64 0,.int .i64 0] 65);replace HE:=HE';replace HO:=HO';clear HE' HO';refine Qe ⟨HE,Ht,Hd,Hl,Hb,Hf,H7⟩ ?_;refine Qn 14 ?_;have z0:=Q.frozen 0
     have z1:=Q.frozen 1;obtain ⟨x0,x1⟩:=Q.c2;have lx:=Q.lt;have Q2:=Qo Q (.int .i64 Mn) (.int .i64 Md);have hbq2 : ∀ b,b < w.heap.size → b ≠ bq:=fun b h => by omega
     have Ht':=Qg (Qg Ht (hbq2 _ ht.lt) 0 (.int .i64 Mn)) (hbq2 _ ht.lt) 1 (.int .i64 Md);have Hd':=Qg (Qg Hd (hbq2 _ hd.lt) 0 (.int .i64 Mn)) (hbq2 _ hd.lt) 1 (.int .i64 Md);have Hl':=Qg (Qg Hl (hbq2 _ hl.lt) 0 (.int .i64 Mn)) (hbq2 _ hl.lt) 1 (.int .i64 Md);have Hb':=Qg (Qg Hb (hbq2 _ hb.lt) 0 (.int .i64 Mn)) (hbq2 _ hb.lt) 1 (.int .i64 Md);have Hf':=Qg (Qg Hf (hbq2 _ hf.lt) 0 (.int .i64 Mn)) (hbq2 _ hf.lt) 1 (.int .i64 Md);have He':=Qg (Qg He (hbq2 _ he.lt) 0 (.int .i64 Mn)) (hbq2 _ he.lt) 1 (.int .i64 Md);have H7':=Qg (Qg H7 hb1q 0 (.int .i64 Mn)) hb1q 1 (.int .i64 Md);have HO2:=HO.far hwq 0 1 (.int .i64 Mn) (.int .i64 Md)
     have HE2:=(HE.setCell (p:=⟨bq,0,none⟩) hge (.int .i64 Mn)).setCell (p:=⟨bq,1,none⟩) hge (.int .i64 Md);go_wp2;refine Qm ?_;refine Qt ?_;exact Yj bq ⟨HE2,hwq,HO2,Ht',Hd',Hf',H7',He',Q2,hb1q⟩ rfl
    ·go_wp2;obtain ⟨bq, hbq, Q, HE', hge⟩ := X0 HE 65 #[.int .i64 0, .int .i64 0];rw [← hbq];have hb1q : b1 ≠ bq := by have := H7.lt; omega
     have hwq : w.heap.size ≤ bq:=by have:=HO.size;omega
     have HO':=HO.trans (Q3.of_ext (S:=[bd,bf,be]) ((Qb.refl _).alloc (.cells #[.int .i64 0,.int .i64 0] 65)));clear hbq;replace Ht:=Ht.alloc (.cells #[.int .i64 0,.int .i64 0] 65);replace Hd:=Hd.alloc (.cells #[.int .i64 0,.int .i64 0] 65);replace Hl:=Hl.alloc (.cells #[.int .i64 0,.int .i64 0] 65);replace Hb:=Hb.alloc (.cells #[.int .i64 0,.int .i64 0] 65);replace Hf:=Hf.alloc (.cells #[.int .i64 0,.int .i64 0] 65);replace H7:=H7.alloc (.cells #[.int .i64 0,.int .i64 0] 65);replace He:=He.alloc (.cells #[.int .i64 0,.int .i64 0] 65);replace HE:=HE';replace HO:=HO';clear HE' HO';refine Qe ⟨HE,Ht,Hd,Hl,Hb,Hf,H7⟩ ?_;refine Qk 12 ?_;go_wp2_with (first | (go_at_call 117;(with_reducible refine zc (Xw ⟨Mn,Md⟩ Me 0 be _ He) ?_);rintro e we ⟨rfl,h5,He2⟩) | (go_at_fn 117;(with_reducible refine zc (Xw ⟨Mn,Md⟩ Me 0 be _ He) ?_);rintro e we ⟨rfl,h5,He2⟩))
     try rw [if_pos rfl] at He2
     have h5':=h5.mono (T:=[bd,bf,be]) (fun k hk => by rw [List.mem_singleton.1 hk];simp);replace HO:=HO.trans h5';replace HE:=h5.ext HE (fun k hk => by rw [List.mem_singleton.1 hk];exact g3);replace Ht:=h5.held Ht (by simp only [List.mem_singleton];exact fun e => n4 (by rw [e];simp));replace Hd:=h5.held Hd (by simp only [List.mem_singleton];exact n2);replace Hl:=h5.held Hl (by simp only [List.mem_singleton];exact fun e => n5 (by rw [e];simp));replace Hb:=h5.held Hb (by simp only [List.mem_singleton];exact fun e => n6 (by rw [e];simp));replace Hf:=h5.held Hf (by simp only [List.mem_singleton];exact n3);replace H7:=h5.held H7 (by simp only [List.mem_singleton];exact n7)
     try replace Q:=h5.held Q (by simp only [List.mem_singleton];have:=he.lt;omega)
     have He:=He2;clear h5 h5' He2;refine Qe ⟨HE,Ht,Hd,Hl,Hb,Hf,H7⟩ ?_;refine Qn 14 ?_;have z0:=Q.frozen 0;have z1:=Q.frozen 1;obtain ⟨x0,x1⟩:=Q.c2;have lx:=Q.lt;have Q2:=Qo Q (.int .i64 Mn) (.int .i64 Md);have hbq2 : ∀ b,b < w.heap.size → b ≠ bq:=fun b h => by omega
     have Ht':=Qg (Qg Ht (hbq2 _ ht.lt) 0 (.int .i64 Mn)) (hbq2 _ ht.lt) 1 (.int .i64 Md);have Hd':=Qg (Qg Hd (hbq2 _ hd.lt) 0 (.int .i64 Mn)) (hbq2 _ hd.lt) 1 (.int .i64 Md);have Hl':=Qg (Qg Hl (hbq2 _ hl.lt) 0 (.int .i64 Mn)) (hbq2 _ hl.lt) 1 (.int .i64 Md);have Hb':=Qg (Qg Hb (hbq2 _ hb.lt) 0 (.int .i64 Mn)) (hbq2 _ hb.lt) 1 (.int .i64 Md);have Hf':=Qg (Qg Hf (hbq2 _ hf.lt) 0 (.int .i64 Mn)) (hbq2 _ hf.lt) 1 (.int .i64 Md);have He':=Qg (Qg He (hbq2 _ he.lt) 0 (.int .i64 Mn)) (hbq2 _ he.lt) 1 (.int .i64 Md);have H7':=Qg (Qg H7 hb1q 0 (.int .i64 Mn)) hb1q 1 (.int .i64 Md);have HO2:=HO.far hwq 0 1 (.int .i64 Mn) (.int .i64 Md)
     have HE2:=(HE.setCell (p:=⟨bq,0,none⟩) hge (.int .i64 Mn)).setCell (p:=⟨bq,1,none⟩) hge (.int .i64 Md);go_wp2;refine Qm ?_;refine Qt ?_;exact Yj bq ⟨HE2,hwq,HO2,Ht',Hd',Hf',H7',He',Q2,hb1q⟩ rfl
   ·go_wp2;obtain ⟨bq, hbq, Q, HE', hge⟩ := X0 HE 65 #[.int .i64 0, .int .i64 0];rw [← hbq];have hb1q : b1 ≠ bq := by have := H7.lt; omega
    have hwq : w.heap.size ≤ bq:=by have:=HO.size;omega
    have HO':=HO.trans (Q3.of_ext (S:=[bd,bf,be]) ((Qb.refl _).alloc (.cells #[.int .i64 0,.int .i64 0] 65)));clear hbq;replace Ht:=Ht.alloc (.cells #[.int .i64 0,.int .i64 0] 65);replace Hd:=Hd.alloc (.cells #[.int .i64 0,.int .i64 0] 65);replace Hl:=Hl.alloc (.cells #[.int .i64 0,.int .i64 0] 65);replace Hb:=Hb.alloc (.cells #[.int .i64 0,.int .i64 0] 65);replace Hf:=Hf.alloc (.cells #[.int .i64 0,.int .i64 0] 65);replace H7:=H7.alloc (.cells #[.int .i64 0,.int .i64 0] 65);replace He:=He.alloc (.cells #[.int .i64 0,.int .i64 0] 65);replace HE:=HE';replace HO:=HO';clear HE' HO';refine Qe ⟨HE,Ht,Hd,Hl,Hb,Hf,H7⟩ ?_;refine Qk 9 ?_;go_wp2_with (go_at_call 28;(with_reducible refine zc (NI _ (Z.ext HE)) ?_);rintro e wc ⟨rfl,h4⟩)
    replace HO:=HO.trans (Q3.of_ext h4);replace HE:=HE.trans h4;replace Ht:=Ht.ext h4;replace Hd:=Hd.ext h4;replace Hl:=Hl.ext h4;replace Hb:=Hb.ext h4;replace Hf:=Hf.ext h4;replace H7:=H7.ext h4;replace He:=He.ext h4;try replace Q:=Q.ext h4
    clear h4;refine Qe ⟨HE,Ht,Hd,Hl,Hb,Hf,H7⟩ ?_;refine Qr (g:=2) [10,11] ⟨HE,Ht,Hd,Hl,Hb,Hf,H7⟩ ?_
    constructor
    refine ⟨fun u hu => ?_,?_⟩
    ·have t0:=hu.2.1.c1;have lt:=hu.2.1.lt;obtain ⟨d0,d1,d2,d3,d4,d5⟩:=hu.2.2.1.c6;have ld:=hu.2.2.1.lt;obtain ⟨p0,p1,p2,p3,p4,p5,p6,p7⟩:=hu.2.2.2.1.c8;have lp:=hu.2.2.2.1.lt;obtain ⟨k0,k1⟩:=hu.2.2.2.2.1.c2;have lk:=hu.2.2.2.2.1.lt;obtain ⟨f0,f1,f2,f3⟩:=hu.2.2.2.2.2.1.c4;have lf:=hu.2.2.2.2.2.1.lt;obtain ⟨s0,s1,s2,s3⟩:=hu.2.2.2.2.2.2.c4;have ls:=hu.2.2.2.2.2.2.lt;exact Qj
    refine Qk 12 ?_;go_wp2_with (first | (go_at_call 117;(with_reducible refine zc (Xw ⟨Mn,Md⟩ Me 0 be _ He) ?_);rintro e we ⟨rfl,h5,He2⟩) | (go_at_fn 117;(with_reducible refine zc (Xw ⟨Mn,Md⟩ Me 0 be _ He) ?_);rintro e we ⟨rfl,h5,He2⟩));try rw [if_pos rfl] at He2
    have h5':=h5.mono (T:=[bd,bf,be]) (fun k hk => by rw [List.mem_singleton.1 hk];simp);replace HO:=HO.trans h5';replace HE:=h5.ext HE (fun k hk => by rw [List.mem_singleton.1 hk];exact g3);replace Ht:=h5.held Ht (by simp only [List.mem_singleton];exact fun e => n4 (by rw [e];simp));replace Hd:=h5.held Hd (by simp only [List.mem_singleton];exact n2);replace Hl:=h5.held Hl (by simp only [List.mem_singleton];exact fun e => n5 (by rw [e];simp));replace Hb:=h5.held Hb (by simp only [List.mem_singleton];exact fun e => n6 (by rw [e];simp));replace Hf:=h5.held Hf (by simp only [List.mem_singleton];exact n3);replace H7:=h5.held H7 (by simp only [List.mem_singleton];exact n7)
    try replace Q:=h5.held Q (by simp only [List.mem_singleton];have:=he.lt;omega)
    have He:=He2;clear h5 h5' He2;refine Qe ⟨HE,Ht,Hd,Hl,Hb,Hf,H7⟩ ?_;refine Qn 14 ?_;have z0:=Q.frozen 0;have z1:=Q.frozen 1;obtain ⟨x0,x1⟩:=Q.c2;have lx:=Q.lt;have Q2:=Qo Q (.int .i64 Mn) (.int .i64 Md);have hbq2 : ∀ b,b < w.heap.size → b ≠ bq:=fun b h => by omega
    have Ht':=Qg (Qg Ht (hbq2 _ ht.lt) 0 (.int .i64 Mn)) (hbq2 _ ht.lt) 1 (.int .i64 Md);have Hd':=Qg (Qg Hd (hbq2 _ hd.lt) 0 (.int .i64 Mn)) (hbq2 _ hd.lt) 1 (.int .i64 Md);have Hl':=Qg (Qg Hl (hbq2 _ hl.lt) 0 (.int .i64 Mn)) (hbq2 _ hl.lt) 1 (.int .i64 Md);have Hb':=Qg (Qg Hb (hbq2 _ hb.lt) 0 (.int .i64 Mn)) (hbq2 _ hb.lt) 1 (.int .i64 Md);have Hf':=Qg (Qg Hf (hbq2 _ hf.lt) 0 (.int .i64 Mn)) (hbq2 _ hf.lt) 1 (.int .i64 Md);have He':=Qg (Qg He (hbq2 _ he.lt) 0 (.int .i64 Mn)) (hbq2 _ he.lt) 1 (.int .i64 Md);have H7':=Qg (Qg H7 hb1q 0 (.int .i64 Mn)) hb1q 1 (.int .i64 Md);have HO2:=HO.far hwq 0 1 (.int .i64 Mn) (.int .i64 Md)
    have HE2:=(HE.setCell (p:=⟨bq,0,none⟩) hge (.int .i64 Mn)).setCell (p:=⟨bq,1,none⟩) hge (.int .i64 Md);go_wp2;refine Qm ?_;refine Qt ?_;exact Yj bq ⟨HE2,hwq,HO2,Ht',Hd',Hf',H7',He',Q2,hb1q⟩ rfl
  ·go_wp2;obtain ⟨bq, hbq, Q, HE', hge⟩ := X0 HE 65 #[.int .i64 0, .int .i64 0];rw [← hbq];have hb1q : b1 ≠ bq := by have := H7.lt; omega
   have hwq : w.heap.size ≤ bq:=by have:=HO.size;omega
   have HO':=HO.trans (Q3.of_ext (S:=[bd,bf,be]) ((Qb.refl _).alloc (.cells #[.int .i64 0,.int .i64 0] 65)));clear hbq;replace Ht:=Ht.alloc (.cells #[.int .i64 0,.int .i64 0] 65);replace Hd:=Hd.alloc (.cells #[.int .i64 0,.int .i64 0] 65);replace Hl:=Hl.alloc (.cells #[.int .i64 0,.int .i64 0] 65);replace Hb:=Hb.alloc (.cells #[.int .i64 0,.int .i64 0] 65);replace Hf:=Hf.alloc (.cells #[.int .i64 0,.int .i64 0] 65);replace H7:=H7.alloc (.cells #[.int .i64 0,.int .i64 0] 65);replace He:=He.alloc (.cells #[.int .i64 0,.int .i64 0] 65);replace HE:=HE';replace HO:=HO';clear HE' HO';refine Qe ⟨HE,Ht,Hd,Hl,Hb,Hf,H7⟩ ?_;refine Qk 8 ?_;go_wp2_with (go_at_call 92;(with_reducible refine zc (Gg A A' ca cb c fr tu _ (C.ext HE)) ?_);rintro e wa ⟨rfl,h4⟩)
   replace HO:=HO.trans (Q3.of_ext h4);replace HE:=HE.trans h4;replace Ht:=Ht.ext h4;replace Hd:=Hd.ext h4;replace Hl:=Hl.ext h4;replace Hb:=Hb.ext h4;replace Hf:=Hf.ext h4;replace H7:=H7.ext h4;replace He:=He.ext h4;try replace Q:=Q.ext h4
   clear h4;refine Qe ⟨HE,Ht,Hd,Hl,Hb,Hf,H7⟩ ?_;refine Qk 9 ?_;go_wp2_with (go_at_call 28;(with_reducible refine zc (NI _ (Z.ext HE)) ?_);rintro e wc ⟨rfl,h4⟩);replace HO:=HO.trans (Q3.of_ext h4);replace HE:=HE.trans h4;replace Ht:=Ht.ext h4;replace Hd:=Hd.ext h4;replace Hl:=Hl.ext h4;replace Hb:=Hb.ext h4;replace Hf:=Hf.ext h4;replace H7:=H7.ext h4;replace He:=He.ext h4;try replace Q:=Q.ext h4
   clear h4;refine Qe ⟨HE,Ht,Hd,Hl,Hb,Hf,H7⟩ ?_;refine Qr (g:=2) [10,11] ⟨HE,Ht,Hd,Hl,Hb,Hf,H7⟩ ?_
   constructor
   refine ⟨fun u hu => ?_,?_⟩
   ·have t0:=hu.2.1.c1;have lt:=hu.2.1.lt;obtain ⟨d0,d1,d2,d3,d4,d5⟩:=hu.2.2.1.c6;have ld:=hu.2.2.1.lt;obtain ⟨p0,p1,p2,p3,p4,p5,p6,p7⟩:=hu.2.2.2.1.c8;have lp:=hu.2.2.2.1.lt;obtain ⟨k0,k1⟩:=hu.2.2.2.2.1.c2;have lk:=hu.2.2.2.2.1.lt;obtain ⟨f0,f1,f2,f3⟩:=hu.2.2.2.2.2.1.c4;have lf:=hu.2.2.2.2.2.1.lt;obtain ⟨s0,s1,s2,s3⟩:=hu.2.2.2.2.2.2.c4;have ls:=hu.2.2.2.2.2.2.lt;exact Qj
   refine Qk 12 ?_;go_wp2_with (first | (go_at_call 117;(with_reducible refine zc (Xw ⟨Mn,Md⟩ Me 0 be _ He) ?_);rintro e we ⟨rfl,h5,He2⟩) | (go_at_fn 117;(with_reducible refine zc (Xw ⟨Mn,Md⟩ Me 0 be _ He) ?_);rintro e we ⟨rfl,h5,He2⟩));try rw [if_pos rfl] at He2
   have h5':=h5.mono (T:=[bd,bf,be]) (fun k hk => by rw [List.mem_singleton.1 hk];simp);replace HO:=HO.trans h5';replace HE:=h5.ext HE (fun k hk => by rw [List.mem_singleton.1 hk];exact g3);replace Ht:=h5.held Ht (by simp only [List.mem_singleton];exact fun e => n4 (by rw [e];simp));replace Hd:=h5.held Hd (by simp only [List.mem_singleton];exact n2);replace Hl:=h5.held Hl (by simp only [List.mem_singleton];exact fun e => n5 (by rw [e];simp));replace Hb:=h5.held Hb (by simp only [List.mem_singleton];exact fun e => n6 (by rw [e];simp));replace Hf:=h5.held Hf (by simp only [List.mem_singleton];exact n3);replace H7:=h5.held H7 (by simp only [List.mem_singleton];exact n7)
   try replace Q:=h5.held Q (by simp only [List.mem_singleton];have:=he.lt;omega)
   have He:=He2;clear h5 h5' He2;refine Qe ⟨HE,Ht,Hd,Hl,Hb,Hf,H7⟩ ?_;refine Qn 14 ?_;have z0:=Q.frozen 0;have z1:=Q.frozen 1;obtain ⟨x0,x1⟩:=Q.c2;have lx:=Q.lt;have Q2:=Qo Q (.int .i64 Mn) (.int .i64 Md);have hbq2 : ∀ b,b < w.heap.size → b ≠ bq:=fun b h => by omega
   have Ht':=Qg (Qg Ht (hbq2 _ ht.lt) 0 (.int .i64 Mn)) (hbq2 _ ht.lt) 1 (.int .i64 Md);have Hd':=Qg (Qg Hd (hbq2 _ hd.lt) 0 (.int .i64 Mn)) (hbq2 _ hd.lt) 1 (.int .i64 Md);have Hl':=Qg (Qg Hl (hbq2 _ hl.lt) 0 (.int .i64 Mn)) (hbq2 _ hl.lt) 1 (.int .i64 Md);have Hb':=Qg (Qg Hb (hbq2 _ hb.lt) 0 (.int .i64 Mn)) (hbq2 _ hb.lt) 1 (.int .i64 Md);have Hf':=Qg (Qg Hf (hbq2 _ hf.lt) 0 (.int .i64 Mn)) (hbq2 _ hf.lt) 1 (.int .i64 Md);have He':=Qg (Qg He (hbq2 _ he.lt) 0 (.int .i64 Mn)) (hbq2 _ he.lt) 1 (.int .i64 Md);have H7':=Qg (Qg H7 hb1q 0 (.int .i64 Mn)) hb1q 1 (.int .i64 Md);have HO2:=HO.far hwq 0 1 (.int .i64 Mn) (.int .i64 Md)
   have HE2:=(HE.setCell (p:=⟨bq,0,none⟩) hge (.int .i64 Mn)).setCell (p:=⟨bq,1,none⟩) hge (.int .i64 Md);go_wp2;refine Qm ?_;refine Qt ?_;exact Yj bq ⟨HE2,hwq,HO2,Ht',Hd',Hf',H7',He',Q2,hb1q⟩ rfl
 rintro b8 w3 ⟨HE3,hw8,HO3,Ht3,Hd3,Hf3,H73,He3,Q,n9⟩;clear HE HO Ht Hd Hf He H7 Hl Hb NI;have HE:=HE3;have HO:=HO3;have Ht:=Ht3;have Hd:=Hd3;have Hf:=Hf3;have H7:=H73;have He:=He3;clear HE3 HO3 Ht3 Hd3 Hf3 H73 He3;have e0:=He.c1;have le:=He.lt;by_cases h0 : Me = 0
 ·subst h0;have NA:=fun w z => Nx X.i ⟨Mn,Md⟩ hX.i hMi w z
  have hSi:=Lf X.i ⟨Mn,Md⟩;have hV:=HV.out;rw [if_neg (by simp)] at hV;generalize Zm X.i ⟨Mn,Md⟩ = S at *;obtain ⟨⟨Sn,Sd⟩,Se⟩:=S
  have hV2 : V.2 = Se ∧ (Se = 0 → V.1 = ⟨X.p,⟨Sn,Sd⟩,X.s⟩):=by
   rw [hV];by_cases hs : Se = 0
   ·rw [if_neg (by simpa using hs)];exact ⟨hs.symm,fun _ => rfl⟩
   ·rw [if_pos hs];exact ⟨rfl,fun h => absurd h hs⟩
  replace hV2:=Lib.hid hV2;clear HV hV;go_upto_region 3 with (fail)
  clear e0 le;refine Q5 10 [9] (fun x => Qb v0 x ∧ Qc x bt 200 #[.func (.func 117) #[] #[.pointer (some ⟨be,0,none⟩)]] ∧ Qc x bd 72 #[.int .i64 X.p.n,.int .i64 X.p.d,.int .i64 X.i.n,.int .i64 X.i.d,.int .i64 X.s.n,.int .i64 X.s.d] ∧ Qc x b8 65 #[.int .i64 Mn,.int .i64 Md] ∧ True) mixed rfl ?_;intro vz hvz;replace HO:=HO.trans (Q3.of_ext hvz);replace HE:=HE.trans hvz;replace Ht:=Ht.ext hvz;replace Hd:=Hd.ext hvz;replace Hf:=Hf.ext hvz;replace H7:=H7.ext hvz;replace He:=He.ext hvz;replace Q:=Q.ext hvz;clear hvz;refine Qr (g:=6) [0,1,2,3] ⟨HE,Ht,Hd,Q,trivial⟩ ?_
  constructor
  refine ⟨fun u hu => ?_,?_⟩
  ·have t0:=hu.2.1.c1;have lt:=hu.2.1.lt;obtain ⟨d0,d1,d2,d3,d4,d5⟩:=hu.2.2.1.c6;have ld:=hu.2.2.1.lt;obtain ⟨r0,r1⟩:=hu.2.2.2.1.c2;have lr:=hu.2.2.2.1.lt;exact Qj
  refine Qk 4 ?_;go_wp2_with (go_at_call 86;(with_reducible refine zc (NA _ (Z.ext HE)) ?_);rintro e wc ⟨rfl,h4⟩);replace HO:=HO.trans (Q3.of_ext h4);replace HE:=HE.trans h4;replace Ht:=Ht.ext h4;replace Hd:=Hd.ext h4;replace Hf:=Hf.ext h4;replace H7:=H7.ext h4;replace He:=He.ext h4;replace Q:=Q.ext h4;clear h4;refine Qe ⟨HE,Ht,Hd,Q,trivial⟩ ?_;refine Qr (g:=3) [5,6] ⟨HE,Ht,Hd,Q,trivial⟩ ?_
  constructor
  refine ⟨fun u hu => ?_,?_⟩
  ·have t0:=hu.2.1.c1;have lt:=hu.2.1.lt;obtain ⟨d0,d1,d2,d3,d4,d5⟩:=hu.2.2.1.c6;have ld:=hu.2.2.1.lt;obtain ⟨r0,r1⟩:=hu.2.2.2.1.c2;have lr:=hu.2.2.2.1.lt;exact Qj
  refine Qk 7 ?_;go_wp2_with (first | (go_at_call 117;(with_reducible refine zc (Xw ⟨Sn,Sd⟩ Se 0 be _ He) ?_);rintro e we ⟨rfl,h5,He2⟩) | (go_at_fn 117;(with_reducible refine zc (Xw ⟨Sn,Sd⟩ Se 0 be _ He) ?_);rintro e we ⟨rfl,h5,He2⟩));try rw [if_pos rfl] at He2
  have h5':=h5.mono (T:=[bd,bf,be]) (fun k hk => by rw [List.mem_singleton.1 hk];simp);replace HO:=HO.trans h5';replace HE:=h5.ext HE (fun k hk => by rw [List.mem_singleton.1 hk];exact g3);replace Ht:=h5.held Ht (by simp only [List.mem_singleton];exact fun e => n4 (by rw [e];simp));replace Hd:=h5.held Hd (by simp only [List.mem_singleton];exact n2);replace Hf:=h5.held Hf (by simp only [List.mem_singleton];exact n3);replace H7:=h5.held H7 (by simp only [List.mem_singleton];exact n7);replace Q:=h5.held Q (by simp only [List.mem_singleton];have:=he.lt;omega);have He:=He2;clear h5 h5' He2;refine Qe ⟨HE,Ht,Hd,Q,trivial⟩ ?_;refine Qr (g:=1) [8] ⟨HE,Ht,Hd,Q,trivial⟩ ?_
  constructor
  refine ⟨fun u hu => ?_,?_⟩
  ·have t0:=hu.2.1.c1;have lt:=hu.2.1.lt;obtain ⟨d0,d1,d2,d3,d4,d5⟩:=hu.2.2.1.c6;have ld:=hu.2.2.1.lt;obtain ⟨r0,r1⟩:=hu.2.2.2.1.c2;have lr:=hu.2.2.2.1.lt;exact Qj
  refine Qn 9 ?_;have z2:=Hd.frozen 2;have z3:=Hd.frozen 3;obtain ⟨x0,x1,x2,x3,x4,x5⟩:=Hd.c6;have lx:=Hd.lt;have Hd2:=Gy Hd (.int .i64 Sn) (.int .i64 Sd);have Hf:=Qg (Qg Hf (Ne.symm n1) 2 (.int .i64 Sn)) (Ne.symm n1) 3 (.int .i64 Sd);have He:=Qg (Qg He (Ne.symm n2) 2 (.int .i64 Sn)) (Ne.symm n2) 3 (.int .i64 Sd);have H7:=Qg (Qg H7 (n8) 2 (.int .i64 Sn)) (n8) 3 (.int .i64 Sd);have HO:=(HO.trans (Q3.set _ (by simp : bd ∈ [bd,bf,be]) 2 (.int .i64 Sn))).trans (Q3.set _ (by simp : bd ∈ [bd,bf,be]) 3 (.int .i64 Sd));go_wp2;refine Qm ?_;refine Qt ?_;have Hd:=Hd2;generalize World.setCell _ _ _ = wq at *;clear z2 z3 x0 x1 x2 x3 x4 x5 lx
  have YY : ∃ Y : Db,Y.In ∧ Qc (World.setCell (World.setCell (World.setCell (World.setCell wq ⟨bf,0,none⟩ (.int .i64 tu.y)) ⟨bf,1,none⟩ (.int .i64 tu.m)) ⟨bf,2,none⟩ (.bool tu.s)) ⟨bf,3,none⟩ (.int .i64 tu.d)) bd 72 #[.int .i64 Y.p.n,.int .i64 Y.p.d,.int .i64 Y.i.n,.int .i64 Y.i.d,.int .i64 Y.s.n,.int .i64 Y.s.d] ∧ (V.2 = 0 → Y = V.1) :=
   ⟨⟨X.p,⟨Sn,Sd⟩,X.s⟩,⟨hX.p,hSi,hX.s⟩,Qg (Qg (Qg (Qg Hd n1 0 (.int .i64 tu.y)) n1 1 (.int .i64 tu.m)) n1 2 (.bool tu.s)) n1 3 (.int .i64 tu.d),fun h => (hV2.out.2 (hV2.out.1.symm.trans h)).symm⟩
  have hVe:=Lib.hid hV2.out.1;obtain ⟨s0,s1,s2,s3⟩:=H7.c4;have ls:=H7.lt;obtain ⟨f0,f1,f2,f3⟩:=Hf.c4;have lf:=Hf.lt;have z0:=Hf.frozen 0;have z1:=Hf.frozen 1;have z2:=Hf.frozen 2;have z3:=Hf.frozen 3;have Hf2:=Ih Hf (.int .i64 tu.y) (.int .i64 tu.m) (.bool tu.s) (.int .i64 tu.d);have He2:=Qg (Qg (Qg (Qg He (Ne.symm n3) 0 (.int .i64 tu.y)) (Ne.symm n3) 1 (.int .i64 tu.m)) (Ne.symm n3) 2 (.bool tu.s)) (Ne.symm n3) 3 (.int .i64 tu.d);have Hd2:=Qg (Qg (Qg (Qg Hd n1 0 (.int .i64 tu.y)) n1 1 (.int .i64 tu.m)) n1 2 (.bool tu.s)) n1 3 (.int .i64 tu.d);have OF:=(((HO.trans (Q3.set _ (by simp : bf ∈ [bd,bf,be]) 0 (.int .i64 tu.y))).trans (Q3.set _ (by simp : bf ∈ [bd,bf,be]) 1 (.int .i64 tu.m))).trans (Q3.set _ (by simp : bf ∈ [bd,bf,be]) 2 (.bool tu.s))).trans (Q3.set _ (by simp : bf ∈ [bd,bf,be]) 3 (.int .i64 tu.d))
  go_wp2
  (try simp only [Exit.inBlock,Exit.then])
  refine bodyPost_end (results_none rfl _ _ _) rfl ⟨rfl,OF,Hf2,by rw [hVe.out];exact He2,YY⟩
 ·have g0 : (Me == 0) = false:=beq_eq_false_iff_ne.2 h0;have hV:=HV.out;rw [if_pos h0] at hV
  have YY : ∃ Y : Db,Y.In ∧ Qc (World.setCell (World.setCell (World.setCell (World.setCell w3 ⟨bf,0,none⟩ (.int .i64 tu.y)) ⟨bf,1,none⟩ (.int .i64 tu.m)) ⟨bf,2,none⟩ (.bool tu.s)) ⟨bf,3,none⟩ (.int .i64 tu.d)) bd 72 #[.int .i64 Y.p.n,.int .i64 Y.p.d,.int .i64 Y.i.n,.int .i64 Y.i.d,.int .i64 Y.s.n,.int .i64 Y.s.d] ∧ (V.2 = 0 → Y = V.1) :=
   ⟨X,hX,Qg (Qg (Qg (Qg Hd n1 0 (.int .i64 tu.y)) n1 1 (.int .i64 tu.m)) n1 2 (.bool tu.s)) n1 3 (.int .i64 tu.d),fun h => by rw [hV]⟩
  have hVe : V.2 = Me:=by rw [hV]
  clear HV hV h0;replace hVe:=Lib.hid hVe;obtain ⟨s0,s1,s2,s3⟩:=H7.c4;have ls:=H7.lt;obtain ⟨f0,f1,f2,f3⟩:=Hf.c4;have lf:=Hf.lt;have z0:=Hf.frozen 0;have z1:=Hf.frozen 1;have z2:=Hf.frozen 2;have z3:=Hf.frozen 3;have Hf2:=Ih Hf (.int .i64 tu.y) (.int .i64 tu.m) (.bool tu.s) (.int .i64 tu.d);have He2:=Qg (Qg (Qg (Qg He (Ne.symm n3) 0 (.int .i64 tu.y)) (Ne.symm n3) 1 (.int .i64 tu.m)) (Ne.symm n3) 2 (.bool tu.s)) (Ne.symm n3) 3 (.int .i64 tu.d);have Hd2:=Qg (Qg (Qg (Qg Hd n1 0 (.int .i64 tu.y)) n1 1 (.int .i64 tu.m)) n1 2 (.bool tu.s)) n1 3 (.int .i64 tu.d);have OF:=(((HO.trans (Q3.set _ (by simp : bf ∈ [bd,bf,be]) 0 (.int .i64 tu.y))).trans (Q3.set _ (by simp : bf ∈ [bd,bf,be]) 1 (.int .i64 tu.m))).trans (Q3.set _ (by simp : bf ∈ [bd,bf,be]) 2 (.bool tu.s))).trans (Q3.set _ (by simp : bf ∈ [bd,bf,be]) 3 (.int .i64 tu.d))
  go_wp2
  (try simp only [Exit.inBlock,Exit.then])
  refine bodyPost_end (results_none rfl _ _ _) rfl ⟨rfl,OF,Hf2,by rw [hVe.out];exact He2,YY⟩
end
section
def V9 (v : Db × Int) : Db × Int:=if v.2 ≠ 0 then (J8,v.2) else v
def Yh (c : Qd) (r : Rt) (f : Nat → J6) (on : Dt) (i m : Nat) (x : Db) (a : Dt) : Db × Int:=V9 (U4 c r f on i m x a)
def Ra (c : Qd) (r : Rt) (f : Nat → J6) (on : Dt) (i m : Nat) (x : Db) (lf : Rt) : Db × Int:=if (Zm x.s lf).2 ≠ 0 then (J8,(Zm x.s lf).2) else Yh c r f on (i + 1) m ⟨x.p,x.i,(Zm x.s lf).1⟩ (f i).on
def Fz (c : Qd) (r : Rt) (f : Nat → J6) (on : Dt) (i m : Nat) (x : Db) (lf : Rt) : Db × Int:=if (Zj x.p lf).2 ≠ 0 then (J8,(Zj x.p lf).2) else Ra c r f on i m ⟨(Zj x.p lf).1.1,x.i,x.s⟩ (Zj x.p lf).1.2
def Fy (c : Qd) (r : Rt) (f : Nat → J6) (on : Dt) (i m : Nat) (x : Db) (lf : Rt) : Db × Int:=if (Zj x.i lf).2 ≠ 0 then (J8,(Zj x.i lf).2) else Fz c r f on i m ⟨x.p,(Zj x.i lf).1.1,x.s⟩ (Zj x.i lf).1.2
theorem Mz {v : Db × Int} (h : v.2 ≠ 0) : V9 v = (J8,v.2):=by unfold V9;rw [if_pos h]
theorem Qbc {v : Db × Int} (h : v.2 = 0) : V9 v = v:=by unfold V9;rw [if_neg (by simpa using h)]
theorem Qmp {c : Qd} {r : Rt} {f : Nat → J6} {on : Dt} {i m : Nat} {x : Db} {a : Dt} (h : c.numV on < c.numV (f i).on) : Yh c r f on i (m + 1) x a = V9 (Jl c r x a on):=by
 unfold Yh;rw [U4,if_pos h]
theorem Qmn {c : Qd} {r : Rt} {f : Nat → J6} {on : Dt} {i m : Nat} {x : Db} {a : Dt} (h : ¬ c.numV on < c.numV (f i).on) (h2 : (Jl c r x a (f i).on).2 ≠ 0) : Yh c r f on i (m + 1) x a = (J8,(Jl c r x a (f i).on).2):=by
 unfold Yh;rw [U4,if_neg h,if_pos h2];exact Mz h2
theorem Qmo {c : Qd} {r : Rt} {f : Nat → J6} {on : Dt} {i m : Nat} {x : Db} {a : Dt} (h : ¬ c.numV on < c.numV (f i).on) (h2 : (Jl c r x a (f i).on).2 = 0) : Yh c r f on i (m + 1) x a = Fy c r f on i m (Jl c r x a (f i).on).1 (f i).n:=by
 unfold Yh;rw [U4,if_neg h,if_neg (by simpa using h2)];generalize (Jl c r x a (f i).on).1 = X;generalize (f i).n = n;unfold M4 Fy Fz Ra Yh;by_cases e1 : (Zj X.i n).2 ≠ 0
 ·rw [if_pos e1,if_pos e1,if_pos e1];exact Mz e1
 ·rw [if_neg e1,if_neg e1]
  simp only
  by_cases e2 : (Zj X.p (Zj X.i n).1.2).2 ≠ 0
  ·rw [if_pos e2,if_pos e2,if_pos e2];exact Mz e2
  ·rw [if_neg e2,if_neg e2];by_cases e3 : (Zm X.s (Zj X.p (Zj X.i n).1.2).1.2).2 ≠ 0
   ·rw [if_pos e3,if_pos e3,if_pos e3];exact Mz e3
   ·rw [if_neg e3,if_neg e3]
    simp
theorem Qli {c : Qd} {l : Ln} {f : Nat → J6} {n : Nat} {on : Dt} (h1 : c.loanE l f n = 0) (h2 : c.numV on ≠ 0) (h3 : ¬ c.numV on < c.numV l.f) : c.owedV l f n on = Yh c l.r f on 0 n (start l) l.f:=by
 unfold Qd.owedV Yh V9;rw [if_neg (by rw [h1];decide),if_neg h2,if_neg h3];by_cases e : (U4 c l.r f on 0 n (start l) l.f).2 ≠ 0
 ·rw [if_pos e,if_pos e]
 ·rw [if_neg e,if_neg e];have e':=Decidable.not_not.1 e;exact Prod.ext rfl e'.symm
end
section
open Go Go.RowKit Go.Shelf
attribute [local go_sem] Zx
section
variable {W w : World} {b : Nat} {t : TypeId} {v0 v1 v2 v3 v4 v5 : Value}
theorem Xf (h : Qc W b t #[v0,v1,v2,v3,v4,v5]) (u0 u1 u2 u3 u4 u5 : Value) : Qc ((((((W.setCell ⟨b,0,none⟩ u0).setCell ⟨b,1,none⟩ u1).setCell ⟨b,2,none⟩ u2).setCell ⟨b,3,none⟩ u3).setCell ⟨b,4,none⟩ u4).setCell ⟨b,5,none⟩ u5) b t #[u0,u1,u2,u3,u4,u5]:=by unfold Qc at h ⊢;simp [World.setCell,Array.getElem?_modify,h]
theorem Xe (h : Qb w W) (hb : w.heap.size ≤ b) (u0 u1 u2 u3 u4 u5 : Value) : Qb w ((((((W.setCell ⟨b,0,none⟩ u0).setCell ⟨b,1,none⟩ u1).setCell ⟨b,2,none⟩ u2).setCell ⟨b,3,none⟩ u3).setCell ⟨b,4,none⟩ u4).setCell ⟨b,5,none⟩ u5) :=
 (((((h.setCell (p:=⟨b,0,none⟩) hb u0).setCell (p:=⟨b,1,none⟩) hb u1).setCell (p:=⟨b,2,none⟩) hb u2).setCell (p:=⟨b,3,none⟩) hb u3).setCell (p:=⟨b,4,none⟩) hb u4).setCell (p:=⟨b,5,none⟩) hb u5
theorem Fm {b' : Nat} {cs : Array Value} (h : Qc W b t cs) (hne : b ≠ b') (u0 u1 u2 u3 u4 u5 : Value) : Qc ((((((W.setCell ⟨b',0,none⟩ u0).setCell ⟨b',1,none⟩ u1).setCell ⟨b',2,none⟩ u2).setCell ⟨b',3,none⟩ u3).setCell ⟨b',4,none⟩ u4).setCell ⟨b',5,none⟩ u5) b t cs :=
 Qg (Qg (Qg (Qg (Qg (Qg h hne 0 u0) hne 1 u1) hne 2 u2) hne 3 u3) hne 4 u4) hne 5 u5
end
structure Ua (W : World) (b : Nat) (t : TypeId) (cs : Array Value) : Prop where
 out : Qc W b t cs
def cut0 (A : Act) (S : World → Prop) : Exit → Act → World → Prop:=fun e a' w' => e = .normal ∧ S w' ∧ a' = A
theorem Rr {P : Program} {c : Code} {Q : Exit → Act → World → Prop} {a : Act} {w : World} {A : Act} (S : World → Prop) (h1 : c.wp P (cut0 A S) a w) (h2 : ∀ w',S w' → Q .normal A w') : c.wp P Q a w :=
 Code.wp_mono (fun e a' w' ⟨he,hs,ha⟩ => by subst he;subst ha;exact h2 w' hs) h1
def restJ (c : Qd) (r : Rt) (f : Nat → J6) (on : Dt) (k m : Nat) : Nat → Db → Rt → Db × Int
 | 0,X,lf => Fy c r f on k m X lf
 | 1,X,lf => Fz c r f on k m X lf
 | _,X,lf => Ra c r f on k m X lf
theorem Qlj (A A' : Option Addr) (ca cb : Nat) (c : Qd) (B : Option Addr) (n cap : Nat) (l : Ln) (f : Nat → J6) (hp : l.p.In) (hr : l.r.In) (hin : ∀ i,i < n → (f i).n.In) (w : World) (hC : Zg w A ca A' cb c) (hB : Qs w B n 6 (Yp f)) (hn : n ≤ 9223372036854775807) (hZ : Z6 w) (on : Dt) :
  Calls Tryz.prog 66 #[.agg #[.slice A c.nk ca,.slice A' c.ny cb],.agg #[.int .i64 l.p.n,.int .i64 l.p.d,.int .i64 l.r.n,.int .i64 l.r.d,.int .i64 l.f.y,.int .i64 l.f.m,.bool l.f.s,.int .i64 l.f.d],.slice B n cap,.agg #[.int .i64 on.y,.int .i64 on.m,.bool on.s,.int .i64 on.d]] w fun e w' => e = .returned (.tuple #[.agg #[.int .i64 (Yh c l.r f on 0 n (start l) l.f).1.p.n,.int .i64 (Yh c l.r f on 0 n (start l) l.f).1.p.d,.int .i64 (Yh c l.r f on 0 n (start l) l.f).1.i.n,.int .i64 (Yh c l.r f on 0 n (start l) l.f).1.i.d,.int .i64 (Yh c l.r f on 0 n (start l) l.f).1.s.n,.int .i64 (Yh c l.r f on 0 n (start l) l.f).1.s.d],.int .i64 (Yh c l.r f on 0 n (start l) l.f).2]) ∧ Qb w w':=by
 obtain ⟨V,hV0⟩:=Qf (Yh c l.r f on 0 n (start l) l.f);rw [← hV0];replace hV0:=Lib.hid hV0
 go_enter Tryz.func66,Tryz.ntmps66
 go_upto_region 1 with (fail)
 obtain ⟨v,b1,b2,b3,b4,E,B1,B2,B3,B4,hbr1,hbr2,hbr3,hbr,hn21,hn31,hn32,hn41,hn42,hn43,hv,hb1,hb2,hb3,hb4⟩:=Hz w 130 #[.slice A c.nk ca,.slice A' c.ny cb] 67 #[.int .i64 l.p.n,.int .i64 l.p.d,.int .i64 l.r.n,.int .i64 l.r.d,.int .i64 l.f.y,.int .i64 l.f.m,.bool l.f.s,.int .i64 l.f.d] 51 #[.int .i64 on.y,.int .i64 on.m,.bool on.s,.int .i64 on.d] 72 #[.int .i64 0,.int .i64 0,.int .i64 0,.int .i64 0,.int .i64 0,.int .i64 0];rw [← hv,← hb4,← hb3,← hb2,← hb1];clear hv hb1 hb2 hb3 hb4;have C:=hC.ext E;have RB:=hB.ext E;have Z0:=hZ.ext E;clear hC hB hZ;have hv4:=B4.lt;apply K5 (S:=fun w' b => Qb v w' ∧ v.heap.size ≤ b ∧ Qc w' b 72 #[.int .i64 l.p.n,.int .i64 l.p.d,.int .i64 0,.int .i64 1,.int .i64 0,.int .i64 1])
 ·refine Q5 7 [6] (fun x => Qb v x) mixed rfl ?_;intro vz hvz;have HC:=hvz;refine Qr (g:=5) [0,1] HC ?_
  constructor
  refine ⟨fun u hu => ?_,?_⟩
  ·obtain ⟨p0,p1,p2,p3,p4,p5,p6,p7⟩:=(B2.ext hu).c8;have lp:=(B2.ext hu).lt;exact Qj
  refine Zp 2 5 ?_ ?_
  ·go_wp2_with (go_at_call 72;(with_reducible refine zc (Wt _ _) ?_);rintro e wa ⟨rfl,h4⟩);replace HC:=HC.trans h4;try replace Q:=Q.ext h4
   clear h4;refine Qe HC ?_;refine Zp 3 5 ?_ ?_
   ·go_wp2_with (go_at_call 72;(with_reducible refine zc (Wt _ _) ?_);rintro e wa ⟨rfl,h4⟩);replace HC:=HC.trans h4;try replace Q:=Q.ext h4
    clear h4;refine Qe HC ?_;refine Qr (g:=2) [4] HC ?_
    constructor
    refine ⟨fun u hu => ?_,?_⟩
    ·obtain ⟨p0,p1,p2,p3,p4,p5,p6,p7⟩:=(B2.ext hu).c8;have lp:=(B2.ext hu).lt;exact Qj
    refine Qk 5 ?_;go_wp2;obtain ⟨bq,hbq,Q,HC',hge⟩:=X0 HC 72 #[.int .i64 0,.int .i64 0,.int .i64 0,.int .i64 0,.int .i64 0,.int .i64 0];rw [← hbq];clear hbq;replace HC:=HC';clear HC';refine Qe HC ?_;refine Qn 6 ?_;have z0:=Q.frozen 0;have z1:=Q.frozen 1;have z2:=Q.frozen 2;have z3:=Q.frozen 3;have z4:=Q.frozen 4;have z5:=Q.frozen 5;obtain ⟨x0,x1,x2,x3,x4,x5⟩:=Q.c6;have lx:=Q.lt;have Q2:=Xf Q (.int .i64 l.p.n) (.int .i64 l.p.d) (.int .i64 0) (.int .i64 1) (.int .i64 0) (.int .i64 1);have HE2:=Xe HC hge (.int .i64 l.p.n) (.int .i64 l.p.d) (.int .i64 0) (.int .i64 1) (.int .i64 0) (.int .i64 1);go_wp2;refine Qm ?_;refine Qt ?_;exact Yj bq ⟨HE2,hge,Q2⟩ rfl
   ·go_wp2;obtain ⟨bq,hbq,Q,HC',hge⟩:=X0 HC 72 #[.int .i64 0,.int .i64 0,.int .i64 0,.int .i64 0,.int .i64 0,.int .i64 0];rw [← hbq];clear hbq;replace HC:=HC';clear HC';refine Qe HC ?_;refine Qk 3 ?_;go_wp2_with (go_at_call 72;(with_reducible refine zc (Wt _ _) ?_);rintro e wa ⟨rfl,h4⟩);replace HC:=HC.trans h4;try replace Q:=Q.ext h4
    clear h4;refine Qe HC ?_;refine Qr (g:=1) [4] HC ?_
    constructor
    refine ⟨fun u hu => ?_,?_⟩
    ·obtain ⟨p0,p1,p2,p3,p4,p5,p6,p7⟩:=(B2.ext hu).c8;have lp:=(B2.ext hu).lt;exact Qj
    refine Qn 6 ?_;have z0:=Q.frozen 0;have z1:=Q.frozen 1;have z2:=Q.frozen 2;have z3:=Q.frozen 3;have z4:=Q.frozen 4;have z5:=Q.frozen 5;obtain ⟨x0,x1,x2,x3,x4,x5⟩:=Q.c6;have lx:=Q.lt;have Q2:=Xf Q (.int .i64 l.p.n) (.int .i64 l.p.d) (.int .i64 0) (.int .i64 1) (.int .i64 0) (.int .i64 1);have HE2:=Xe HC hge (.int .i64 l.p.n) (.int .i64 l.p.d) (.int .i64 0) (.int .i64 1) (.int .i64 0) (.int .i64 1);go_wp2;refine Qm ?_;refine Qt ?_;exact Yj bq ⟨HE2,hge,Q2⟩ rfl
  ·go_wp2;obtain ⟨bq,hbq,Q,HC',hge⟩:=X0 HC 72 #[.int .i64 0,.int .i64 0,.int .i64 0,.int .i64 0,.int .i64 0,.int .i64 0];rw [← hbq];clear hbq;replace HC:=HC';clear HC';refine Qe HC ?_;refine Qk 2 ?_;go_wp2_with (go_at_call 72;(with_reducible refine zc (Wt _ _) ?_);rintro e wa ⟨rfl,h4⟩);replace HC:=HC.trans h4;try replace Q:=Q.ext h4
   clear h4;refine Qe HC ?_;refine Qk 3 ?_;go_wp2_with (go_at_call 72;(with_reducible refine zc (Wt _ _) ?_);rintro e wa ⟨rfl,h4⟩);replace HC:=HC.trans h4;try replace Q:=Q.ext h4
   clear h4;refine Qe HC ?_;refine Qr (g:=1) [4] HC ?_
   constructor
   refine ⟨fun u hu => ?_,?_⟩
   ·obtain ⟨p0,p1,p2,p3,p4,p5,p6,p7⟩:=(B2.ext hu).c8;have lp:=(B2.ext hu).lt;exact Qj
   refine Qn 6 ?_;have z0:=Q.frozen 0;have z1:=Q.frozen 1;have z2:=Q.frozen 2;have z3:=Q.frozen 3;have z4:=Q.frozen 4;have z5:=Q.frozen 5;obtain ⟨x0,x1,x2,x3,x4,x5⟩:=Q.c6;have lx:=Q.lt;have Q2:=Xf Q (.int .i64 l.p.n) (.int .i64 l.p.d) (.int .i64 0) (.int .i64 1) (.int .i64 0) (.int .i64 1);have HE2:=Xe HC hge (.int .i64 l.p.n) (.int .i64 l.p.d) (.int .i64 0) (.int .i64 1) (.int .i64 0) (.int .i64 1);go_wp2;refine Qm ?_;refine Qt ?_;exact Yj bq ⟨HE2,hge,Q2⟩ rfl
 rintro bd w1 ⟨HE,gd,Hd⟩;obtain ⟨p0,p1,p2,p3,p4,p5,p6,p7⟩:=(B2.ext HE).c8;have lp:=(B2.ext HE).lt;go_upto_region 6 with (fail)
 obtain ⟨w2,hw2⟩:=Qf (((w1.alloc (.cells #[.int .i64 l.f.y,.int .i64 l.f.m,.bool l.f.s,.int .i64 l.f.d] 51)).alloc (.cells #[.int .i64 0] 29)).alloc (.cells #[.func (.func 117) #[] #[.pointer (some ⟨w1.heap.size + 1,0,none⟩)]] 200));rw [← hw2];have h12 : Qb w1 w2:=by rw [hw2];exact (((Qb.refl _).alloc _).alloc _).alloc _
 have Hf : Qc w2 w1.heap.size 51 #[.int .i64 l.f.y,.int .i64 l.f.m,.bool l.f.s,.int .i64 l.f.d]:=by rw [hw2];exact ((Qc.new _ _ _).alloc _).alloc _
 have He : Qc w2 (w1.heap.size + 1) 29 #[.int .i64 0]:=by rw [hw2];exact (Qc.at _ _ _ _ (by simp)).alloc _
 have Ht : Qc w2 (w1.heap.size + 1 + 1) 200 #[.func (.func 117) #[] #[.pointer (some ⟨w1.heap.size + 1,0,none⟩)]]:=by rw [hw2];exact Qc.at _ _ _ _ (by simp)
 clear hw2 p0 p1 p2 p3 p4 p5 p6 p7 lp;have hw1:=HE.size;have hdw:=Hd.lt;replace Hd:=Hd.ext h12;replace HE:=HE.trans h12;clear h12;obtain ⟨bt,hbt⟩:=Qf (w1.heap.size + 1 + 1);rw [← hbt] at Ht ⊢;obtain ⟨be,hbe⟩:=Qf (w1.heap.size + 1);rw [← hbe] at Ht He ⊢;obtain ⟨bf,hbf⟩:=Qf (w1.heap.size);rw [← hbf] at Hf ⊢;have g2 : v.heap.size ≤ bf:=by omega
 have g3 : v.heap.size ≤ be:=by omega
 have n1 : bd ≠ bf:=by omega
 have n2 : bd ≠ be:=by omega
 have n3 : bf ≠ be:=by omega
 have n4 : bt ∉ [bd,bf,be]:=by simp;omega
 have hb1v:=B1.lt;have hb2v:=B2.lt;have n5 : b2 ∉ [bd,bf,be]:=by simp;omega
 have n6 : b1 ∉ [bd,bf,be]:=by simp;omega
 have hbe4 : be ≠ b4:=by omega
 have ntd : bt ≠ bd:=by omega
 have gS : ∀ k,k ∈ [bd,bf,be] → v.heap.size ≤ k:=fun k hk => by simp at hk;omega
 clear hbt hbe hbf hw1 hdw;replace gS:=Lib.hid gS;replace n4:=Lib.hid n4;replace n5:=Lib.hid n5;replace n6:=Lib.hid n6;obtain ⟨k0,k1⟩:=(B1.ext HE).c2;have lk:=(B1.ext HE).lt;obtain ⟨o0,o1,o2,o3⟩:=(B3.ext HE).c4;have lo:=(B3.ext HE).lt;have ND:=fun d w h => Yy A A' ca cb c d w h
 go_upto_region 8 with (go_at_call 48;(with_reducible refine zc (ND on _ (C.ext HE)) ?_);rintro e w3 ⟨rfl,h4⟩)
 replace HE:=HE.trans h4;replace Hd:=Hd.ext h4;replace Hf:=Hf.ext h4;replace He:=He.ext h4;replace Ht:=Ht.ext h4;clear h4 k0 k1 lk o0 o1 o2 o3 lo;obtain ⟨L0,hL0⟩:=Qf (c.numV on);rw [← hL0];replace hL0:=Lib.hid hL0;have hX0 : (start l).In:=⟨hp,Vp,Vp⟩
 go_loopw [35] (fun iv wr => ∃ k : Nat,k ≤ n ∧ iv = .int .i64 (k : Int) ∧ ∃ X fr ee,Db.In X ∧ Qb v wr ∧ Qc wr bt 200 #[.func (.func 117) #[] #[.pointer (some ⟨be,0,none⟩)]] ∧ Qc wr bd 72 #[.int .i64 X.p.n,.int .i64 X.p.d,.int .i64 X.i.n,.int .i64 X.i.d,.int .i64 X.s.n,.int .i64 X.s.d] ∧ Qc wr bf 51 #[.int .i64 fr.y,.int .i64 fr.m,.bool fr.s,.int .i64 fr.d] ∧ Qc wr be 29 #[.int .i64 ee] ∧ Hid (ee = 0 → V = Yh c l.r f on k (n - k) X fr) ∧ Hid (ee ≠ 0 → V = (J8,ee))) (fun iv _ => n - (intOf iv).toNat)
 case atStart => exact ⟨0,Nat.zero_le _,rfl,start l,l.f,0,hX0,HE,Ht,Hd,Hf,He,fun _ => hV0.out,fun h => absurd rfl h⟩
 case round =>
  clear HE Ht Hd Hf He hX0 hV0;obtain ⟨k,hk,rfl,X,fr,ee,hX,HE,Ht,Hd,Hf,He,h1,h2⟩:=hrel;obtain ⟨wo,rfl⟩:=Qf wr;by_cases hlt : k < n
  ·obtain ⟨m, hm⟩ : ∃ m, n - k = m + 1 := ⟨n - k - 1, by omega⟩;have hm2 : n - (k + 1) = m := by omega
   rw [hm] at h1;obtain ⟨b,off,rfl,hb,hc⟩:=(RB.ext HE) Qa;have c0 : wo.cell? ⟨b,off + k * 6,none⟩ = some (.int .i64 (f k).on.y):=by simpa [Yp] using hc k 0 _ hlt rfl
   have c1 : wo.cell? ⟨b,off + k * 6 + 1,none⟩ = some (.int .i64 (f k).on.m):=by simpa [Yp] using hc k 1 _ hlt rfl
   have c2 : wo.cell? ⟨b,off + k * 6 + 2,none⟩ = some (.bool (f k).on.s):=by simpa [Yp] using hc k 2 _ hlt rfl
   have c3 : wo.cell? ⟨b,off + k * 6 + 3,none⟩ = some (.int .i64 (f k).on.d):=by simpa [Yp] using hc k 3 _ hlt rfl
   have c4 : wo.cell? ⟨b,off + k * 6 + 4,none⟩ = some (.int .i64 (f k).n.n):=by simpa [Yp] using hc k 4 _ hlt rfl
   have c5 : wo.cell? ⟨b,off + k * 6 + 5,none⟩ = some (.int .i64 (f k).n.d):=by simpa [Yp] using hc k 5 _ hlt rfl
   have hfin:=hin k hlt;clear hc RB hin hm;go_upto_region 10 with (fail)
   obtain ⟨v3,hv⟩:=Qf (wo.alloc (.cells #[.int .i64 (f k).on.y,.int .i64 (f k).on.m,.bool (f k).on.s,.int .i64 (f k).on.d,.int .i64 (f k).n.n,.int .i64 (f k).n.d] 78));rw [← hv];have E3 : Qb wo v3:=by rw [hv];exact (Qb.refl _).alloc _
   have H3 : Qc v3 wo.heap.size 78 #[.int .i64 (f k).on.y,.int .i64 (f k).on.m,.bool (f k).on.s,.int .i64 (f k).on.d,.int .i64 (f k).n.n,.int .i64 (f k).n.d]:=by rw [hv];exact Qc.new _ _ _
   clear hv c0 c1 c2 c3 c4 c5 hb;have h17v : wo.heap.size < v3.heap.size:=H3.lt;have ht17:=Ht.lt;have hd17:=Hd.lt;have hf17:=Hf.lt;have he17:=He.lt;obtain ⟨b17,hb17⟩:=Qf (wo.heap.size);rw [← hb17] at H3 ⊢;have n17 : b17 ∉ [bd,bf,be]:=by simp;omega
   replace n17:=Lib.hid n17;clear hb17 ht17 hd17 hf17 he17 h17v;replace HE:=HE.trans E3;replace Ht:=Ht.ext E3;replace Hd:=Hd.ext E3;replace Hf:=Hf.ext E3;replace He:=He.ext E3;clear E3;by_cases h0 : ee = 0;rotate_left
   ·have g0 : (ee == 0) = false := beq_eq_false_iff_ne.2 h0;have hV := Lib.hid (h2.out h0);clear h1 h2 h0;have g0n : (ee != 0) = true := by rw [bne, g0]; rfl
    have e0:=He.c1;have le:=He.lt;go_upto_region 25 with (fail)
    clear e0 le;apply Rr (S:=fun w' => Qb w w' ∧ Qc w' b4 72 #[.int .i64 0,.int .i64 0,.int .i64 0,.int .i64 0,.int .i64 0,.int .i64 0])
    ·refine Q5 4 [3] (fun x => Ua x be 29 #[.int .i64 ee]) mixed rfl ?_;intro vz hvz;replace He:=He.ext hvz;replace HE:=HE.trans hvz;clear hvz;refine Qr (g:=2) [0,1] (Ua.mk He) ?_
     constructor
     refine ⟨fun u hu => ?_,?_⟩
     ·have e0:=hu.out.c1;have le:=hu.out.lt;exact Qj
     refine Qk 2 ?_;have R4:=B4.ext HE;have z0:=R4.frozen 0;have z1:=R4.frozen 1;have z2:=R4.frozen 2;have z3:=R4.frozen 3;have z4:=R4.frozen 4;have z5:=R4.frozen 5;obtain ⟨x0,x1,x2,x3,x4,x5⟩:=R4.c6;have lx:=R4.lt;go_wp2;have R6:=Xf R4 (.int .i64 0) (.int .i64 0) (.int .i64 0) (.int .i64 0) (.int .i64 0) (.int .i64 0);have EF:=Xe (E.trans HE) hbr (.int .i64 0) (.int .i64 0) (.int .i64 0) (.int .i64 0) (.int .i64 0) (.int .i64 0);replace He:=Fm He hbe4 (.int .i64 0) (.int .i64 0) (.int .i64 0) (.int .i64 0) (.int .i64 0) (.int .i64 0);clear z0 z1 z2 z3 z4 z5 x0 x1 x2 x3 x4 x5 lx R4;generalize World.setCell _ _ _ = wq at *;refine Qe (Ua.mk He) ?_
     refine Qn 3 ?_;go_wp2;refine Qm ?_;refine Qt ?_;exact ⟨rfl,⟨EF,R6⟩,rfl⟩
    rintro w9 ⟨EF,R6⟩;obtain ⟨y0,y1,y2,y3,y4,y5⟩:=R6.c6;go_wp2;refine bodyPost_ret (v:=.tuple #[.agg #[.int .i64 0,.int .i64 0,.int .i64 0,.int .i64 0,.int .i64 0,.int .i64 0],.int .i64 ee]) (by simp [results,Tryz.results66,go_sem,y0,y1,y2,y3,y4,y5]) rfl ⟨by rw [hV.out];rfl,EF⟩
   subst h0;have e0:=He.c1;have le:=He.lt;obtain ⟨k0,k1⟩:=(B1.ext HE).c2;have lk:=(B1.ext HE).lt;obtain ⟨q0,q1,q2,q3,q4,q5⟩:=H3.c6;have lq:=H3.lt;have h1':=Lib.hid (h1.out rfl);clear h1 h2;have hdd:=fun w h => Yy A A' ca cb c (f k).on w h
   by_cases hday : L0 < c.numV (f k).on
   ·have gd1 : decide (L0 < c.numV (f k).on) = true := decide_eq_true hday;have hVA : Hid (V = V9 (Jl c l.r X fr on)) := by unfold Hid; rw [h1'.out, Qmp (by rw [← hL0.out]; exact hday)]
    clear h1' hday;generalize c.numV (f k).on = L1 at *;go_upto_region 22 with (go_at_call 48;(with_reducible refine zc (hdd _ (C.ext HE)) ?_);rintro e w5 ⟨rfl,h4⟩)
    replace HE:=HE.trans h4;replace Ht:=Ht.ext h4;replace Hd:=Hd.ext h4;replace Hf:=Hf.ext h4;replace He:=He.ext h4;clear h4 e0 le k0 k1 lk q0 q1 q2 q3 q4 q5 lq H3 hdd;have e0:=He.c1;have le:=He.lt;have B3e:=B3.ext HE;obtain ⟨o0,o1,o2,o3⟩:=B3e.c4;have lo:=B3e.lt;have NA:=Tc A A' ca cb c l hr X hX fr on bt bd b2 b1 bf be v _ HE C Z0 Ht Hd (B2.ext HE) (B1.ext HE) Hf He g3 n1 n2 n3 n4.out n5.out n6.out;go_upto_region 24 with (first | (go_at_call 118;(with_reducible refine zc (NA) ?_);rintro e wk ⟨rfl,hO,hf,he,Y,hYin,hd,hY⟩) | (go_at_fn 118;(with_reducible refine zc (NA) ?_);rintro e wk ⟨rfl,hO,hf,he,Y,hYin,hd,hY⟩))
    replace HE:=hO.ext HE gS.out;replace Ht:=hO.held Ht n4.out;clear hO Hd Hf He NA;have Hd:=hd;have Hf:=hf;have He:=he;clear hd hf he;clear e0 le o0 o1 o2 o3 lo B3e;generalize Jl c l.r X fr on = a at *;obtain ⟨aX,ae⟩:=a;simp only [] at He hY hVA;by_cases h0 : ae = 0
    ·subst h0;have hy := hY rfl;subst hy;have hV : Hid (V = (Y, 0)) := by unfold Hid; rw [hVA.out]; exact Qbc rfl
     clear hVA hY;have e0:=He.c1;have le:=He.lt;have R4:=B4.ext HE;obtain ⟨d0,d1,d2,d3,d4,d5⟩:=Hd.c6;have ld:=Hd.lt;have z0:=R4.frozen 0;have z1:=R4.frozen 1;have z2:=R4.frozen 2;have z3:=R4.frozen 3;have z4:=R4.frozen 4;have z5:=R4.frozen 5;obtain ⟨x0,x1,x2,x3,x4,x5⟩:=R4.c6;have lx:=R4.lt;have R6:=Xf R4 (.int .i64 Y.p.n) (.int .i64 Y.p.d) (.int .i64 Y.i.n) (.int .i64 Y.i.d) (.int .i64 Y.s.n) (.int .i64 Y.s.d);have EF:=Xe (E.trans HE) hbr (.int .i64 Y.p.n) (.int .i64 Y.p.d) (.int .i64 Y.i.n) (.int .i64 Y.i.d) (.int .i64 Y.s.n) (.int .i64 Y.s.d);obtain ⟨y0,y1,y2,y3,y4,y5⟩:=R6.c6;go_wp2;refine bodyPost_ret (v:=.tuple #[.agg #[.int .i64 Y.p.n,.int .i64 Y.p.d,.int .i64 Y.i.n,.int .i64 Y.i.d,.int .i64 Y.s.n,.int .i64 Y.s.d],.int .i64 0]) (by simp [results,Tryz.results66,go_sem,y0,y1,y2,y3,y4,y5]) rfl ⟨by rw [hV.out],EF⟩
    ·have g0 : (ae == 0) = false := beq_eq_false_iff_ne.2 h0;have hV : Hid (V = (J8, ae)) := by unfold Hid; rw [hVA.out]; exact Mz h0
     clear hVA hY h0;have g0n : (ae != 0) = true:=by rw [bne,g0];rfl
     have e0:=He.c1;have le:=He.lt;go_upto_region 25 with (fail)
     clear e0 le;apply Rr (S:=fun w' => Qb w w' ∧ Qc w' b4 72 #[.int .i64 0,.int .i64 0,.int .i64 0,.int .i64 0,.int .i64 0,.int .i64 0])
     ·refine Q5 4 [3] (fun x => Ua x be 29 #[.int .i64 ae]) mixed rfl ?_;intro vz hvz;replace He:=He.ext hvz;replace HE:=HE.trans hvz;clear hvz;refine Qr (g:=2) [0,1] (Ua.mk He) ?_
      constructor
      refine ⟨fun u hu => ?_,?_⟩
      ·have e0:=hu.out.c1;have le:=hu.out.lt;exact Qj
      refine Qk 2 ?_;have R4:=B4.ext HE;have z0:=R4.frozen 0;have z1:=R4.frozen 1;have z2:=R4.frozen 2;have z3:=R4.frozen 3;have z4:=R4.frozen 4;have z5:=R4.frozen 5;obtain ⟨x0,x1,x2,x3,x4,x5⟩:=R4.c6;have lx:=R4.lt;go_wp2;have R6:=Xf R4 (.int .i64 0) (.int .i64 0) (.int .i64 0) (.int .i64 0) (.int .i64 0) (.int .i64 0);have EF:=Xe (E.trans HE) hbr (.int .i64 0) (.int .i64 0) (.int .i64 0) (.int .i64 0) (.int .i64 0) (.int .i64 0);replace He:=Fm He hbe4 (.int .i64 0) (.int .i64 0) (.int .i64 0) (.int .i64 0) (.int .i64 0) (.int .i64 0);clear z0 z1 z2 z3 z4 z5 x0 x1 x2 x3 x4 x5 lx R4;generalize World.setCell _ _ _ = wq at *;refine Qe (Ua.mk He) ?_
      refine Qn 3 ?_;go_wp2;refine Qm ?_;refine Qt ?_;exact ⟨rfl,⟨EF,R6⟩,rfl⟩
     rintro w9 ⟨EF,R6⟩;obtain ⟨y0,y1,y2,y3,y4,y5⟩:=R6.c6;go_wp2;refine bodyPost_ret (v:=.tuple #[.agg #[.int .i64 0,.int .i64 0,.int .i64 0,.int .i64 0,.int .i64 0,.int .i64 0],.int .i64 ae]) (by simp [results,Tryz.results66,go_sem,y0,y1,y2,y3,y4,y5]) rfl ⟨by rw [hV.out];rfl,EF⟩
   ·have gd1 : decide (L0 < c.numV (f k).on) = false := decide_eq_false hday;have hE1 : Hid ((Jl c l.r X fr (f k).on).2 ≠ 0 → V = (J8, (Jl c l.r X fr (f k).on).2)) := fun h => by rw [h1'.out, Qmn (by rw [← hL0.out]; exact hday) h]
    have hE2 : Hid ((Jl c l.r X fr (f k).on).2 = 0 → V = Fy c l.r f on k m (Jl c l.r X fr (f k).on).1 (f k).n):=fun h => by rw [h1'.out,Qmo (by rw [← hL0.out];exact hday) h]
    clear h1' hday;generalize c.numV (f k).on = L1 at *;go_upto_region 11 with (go_at_call 48;(with_reducible refine zc (hdd _ (C.ext HE)) ?_);rintro e w5 ⟨rfl,h4⟩)
    replace HE:=HE.trans h4;replace Ht:=Ht.ext h4;replace Hd:=Hd.ext h4;replace Hf:=Hf.ext h4;replace He:=He.ext h4;replace H3:=H3.ext h4;clear h4 e0 le k0 k1 lk q0 q1 q2 q3 q4 q5 lq hdd;obtain ⟨q0,q1,q2,q3,q4,q5⟩:=H3.c6;have lq:=H3.lt;have NA:=Tc A A' ca cb c l hr X hX fr (f k).on bt bd b2 b1 bf be v _ HE C Z0 Ht Hd (B2.ext HE) (B1.ext HE) Hf He g3 n1 n2 n3 n4.out n5.out n6.out;go_upto_region 12 with (first | (go_at_call 118;(with_reducible refine zc (NA) ?_);rintro e wk ⟨rfl,hO,hf,he,Y,hYin,hd,hY⟩) | (go_at_fn 118;(with_reducible refine zc (NA) ?_);rintro e wk ⟨rfl,hO,hf,he,Y,hYin,hd,hY⟩))
    replace HE:=hO.ext HE gS.out;replace Ht:=hO.held Ht n4.out;replace H3:=hO.held H3 (n17.out);clear hO Hd Hf He NA;have Hd:=hd;have Hf:=hf;have He:=he;clear hd hf he;clear q0 q1 q2 q3 q4 q5 lq hX;generalize Jl c l.r X fr (f k).on = a at *;obtain ⟨aX,ae⟩:=a;simp only [] at He hY hE1 hE2;obtain ⟨q0,q1,q2,q3,q4,q5⟩:=H3.c6;have lq:=H3.lt;go_upto_region 14 with (fail)
    obtain ⟨v4,hv⟩:=Qf ((wk.alloc (.cells #[.int .i64 (f k).n.n,.int .i64 (f k).n.d] 65)).alloc (.cells #[.pointer (some ⟨bd,2,none⟩),.pointer (some ⟨bd,0,none⟩)] 202));rw [← hv];have E4 : Qb wk v4:=by rw [hv];exact ((Qb.refl _).alloc _).alloc _
    have H8 : Qc v4 wk.heap.size 65 #[.int .i64 (f k).n.n,.int .i64 (f k).n.d]:=by rw [hv];exact (Qc.new _ _ _).alloc _
    have Hs : Qc v4 (wk.heap.size + 1) 202 #[.pointer (some ⟨bd,2,none⟩),.pointer (some ⟨bd,0,none⟩)]:=by rw [hv];exact Qc.at _ _ _ _ (by simp)
    clear hv q0 q1 q2 q3 q4 q5 lq H3 n17;obtain ⟨bs,hbs⟩:=Qf (wk.heap.size + 1);rw [← hbs] at Hs ⊢;obtain ⟨b18,hb18⟩:=Qf (wk.heap.size);rw [← hb18] at H8 ⊢;have hl1:=Ht.lt;have hl2:=Hd.lt;have hl3:=Hf.lt;have hl4:=He.lt;have hl5:=HE.size;have n8 : b18 ≠ be:=by omega
    have n8d : b18 ≠ bd:=by omega
    have ns : bs ≠ be:=by omega
    have nsd : bs ≠ bd:=by omega
    have nt8 : bt ≠ b18:=by omega
    have nf8 : bf ≠ b18:=by omega
    have ns8 : bs ≠ b18:=by omega
    have g18 : v.heap.size ≤ b18:=by omega
    clear hl1 hl2 hl3 hl4 hl5 hbs hb18;replace HE:=HE.trans E4;replace Ht:=Ht.ext E4;replace Hd:=Hd.ext E4;replace Hf:=Hf.ext E4;replace He:=He.ext E4;clear E4
    go_loopw [59] (fun jv wr => ∃ j : Nat,j ≤ 2 ∧ jv = .int .i64 (j : Int) ∧ ∃ X lf ee,Db.In X ∧ Rt.In lf ∧ Qb v wr ∧ Qc wr bt 200 #[.func (.func 117) #[] #[.pointer (some ⟨be,0,none⟩)]] ∧ Qc wr bd 72 #[.int .i64 X.p.n,.int .i64 X.p.d,.int .i64 X.i.n,.int .i64 X.i.d,.int .i64 X.s.n,.int .i64 X.s.d] ∧ Qc wr bf 51 #[.int .i64 (f k).on.y,.int .i64 (f k).on.m,.bool (f k).on.s,.int .i64 (f k).on.d] ∧ Qc wr be 29 #[.int .i64 ee] ∧ Qc wr b18 65 #[.int .i64 lf.n,.int .i64 lf.d] ∧ Qc wr bs 202 #[.pointer (some ⟨bd,2,none⟩),.pointer (some ⟨bd,0,none⟩)] ∧ Hid (ee = 0 → V = restJ c l.r f on k m j X lf) ∧ Hid (ee ≠ 0 → V = (J8,ee))) (fun jv _ => 2 - (intOf jv).toNat)
    case atStart => exact ⟨0,by decide,rfl,Y,(f k).n,ae,hYin,hfin,HE,Ht,Hd,Hf,He,H8,Hs,fun h => by rw [hE2.out h,← hY h];rfl,fun h => hE1.out h⟩
    case round =>
     clear HE Ht Hd Hf He H8 Hs hE1 hE2 hY hYin hfin;obtain ⟨j,hj,rfl,X,lf,ee,hX,hlf,HE,Ht,Hd,Hf,He,H8,Hs,h1,h2⟩:=hrel;obtain ⟨wi,rfl⟩:=Qf wr;have e0:=He.c1;have le:=He.lt;by_cases hj2 : j < 2
     ·obtain ⟨s0,s1⟩:=Hs.c2;have ls:=Hs.lt;by_cases h0 : ee = 0
      ·subst h0;have hj3 : j = 0 ∨ j = 1 := by omega
       rcases hj3 with rfl | rfl
       ·skip
        have NP:=fun w h z => Qlp X lf hX.i hlf bd w h z
        have hpin:=Fp (x:=X.i) (n:=lf);have hpV : Hid (V = if (Zj X.i lf).2 ≠ 0 then (J8,(Zj X.i lf).2) else Fz c l.r f on k m ⟨X.p,(Zj X.i lf).1.1,X.s⟩ (Zj X.i lf).1.2):=h1.out rfl;clear h1 h2;generalize Zj X.i lf = P at *;obtain ⟨⟨⟨Pn,Pd⟩,⟨Ln,Ld⟩⟩,Le⟩:=P;simp only [] at hpin hpV NP;go_upto_region 17 with (fail)
        clear e0 le s0 s1 ls;refine Q5 8 [7] (fun x => Qc x bt 200 #[.func (.func 117) #[] #[.pointer (some ⟨be,0,none⟩)]] ∧ Qc x b18 65 #[.int .i64 lf.n,.int .i64 lf.d]) mixed rfl ?_;intro vz hvz;replace HE:=HE.trans hvz;replace Ht:=Ht.ext hvz;replace Hd:=Hd.ext hvz;replace Hf:=Hf.ext hvz;replace He:=He.ext hvz;replace H8:=H8.ext hvz;replace Hs:=Hs.ext hvz;clear hvz;refine Qr (g:=5) [0,1,2] ⟨Ht,H8⟩ ?_
        constructor
        refine ⟨fun u hu => ?_,?_⟩
        ·have t0:=hu.1.c1;have lt:=hu.1.lt;obtain ⟨r0,r1⟩:=hu.2.c2;have lr:=hu.2.lt;exact Qj
        refine Qk 3 ?_;go_wp2_with (go_at_call 119;(with_reducible refine zc (NP _ Hd (Z0.ext HE)) ?_);rintro e wp ⟨rfl,hO,hd⟩);replace HE:=hO.ext HE (fun k hk => by rw [List.mem_singleton.1 hk];exact gd);replace Ht:=hO.held Ht (by simp only [List.mem_singleton];exact fun e => n4.out (by rw [e];simp));replace Hf:=hO.held Hf (by simp only [List.mem_singleton];exact Ne.symm n1);replace He:=hO.held He (by simp only [List.mem_singleton];exact Ne.symm n2);replace H8:=hO.held H8 (by simp only [List.mem_singleton];exact n8d);replace Hs:=hO.held Hs (by simp only [List.mem_singleton];exact nsd);clear hO Hd;have Hd:=hd;clear hd;refine Qe ⟨Ht,H8⟩ ?_;refine Qr (g:=2) [4,5] ⟨Ht,H8⟩ ?_
        constructor
        refine ⟨fun u hu => ?_,?_⟩
        ·have t0:=hu.1.c1;have lt:=hu.1.lt;obtain ⟨r0,r1⟩:=hu.2.c2;have lr:=hu.2.lt;exact Qj
        refine Qk 6 ?_;go_wp2_with (first | (go_at_call 117;(with_reducible refine zc (Xw ⟨Ln,Ld⟩ Le 0 be _ He) ?_);rintro e we ⟨rfl,h5,He2⟩) | (go_at_fn 117;(with_reducible refine zc (Xw ⟨Ln,Ld⟩ Le 0 be _ He) ?_);rintro e we ⟨rfl,h5,He2⟩));try rw [if_pos rfl] at He2
        replace HE:=h5.ext HE (fun k hk => by rw [List.mem_singleton.1 hk];exact g3);replace Ht:=h5.held Ht (by simp only [List.mem_singleton];exact fun e => n4.out (by rw [e];simp));replace Hf:=h5.held Hf (by simp only [List.mem_singleton];exact n3);replace H8:=h5.held H8 (by simp only [List.mem_singleton];exact n8);replace Hs:=h5.held Hs (by simp only [List.mem_singleton];exact ns);replace Hd:=h5.held Hd (by simp only [List.mem_singleton];exact n2);have He:=He2;clear h5 He2;refine Qe ⟨Ht,H8⟩ ?_;refine Qn 7 ?_;have z0:=H8.frozen 0;have z1:=H8.frozen 1;obtain ⟨x0,x1⟩:=H8.c2;have lx:=H8.lt;have HE:=(HE.setCell (p:=⟨b18,0,none⟩) g18 (.int .i64 Ln)).setCell (p:=⟨b18,1,none⟩) g18 (.int .i64 Ld)
        have H82:=Qo H8 (.int .i64 Ln) (.int .i64 Ld);have Ht:=Qg (Qg Ht nt8 0 (.int .i64 Ln)) nt8 1 (.int .i64 Ld);have Hd:=Qg (Qg Hd (Ne.symm n8d) 0 (.int .i64 Ln)) (Ne.symm n8d) 1 (.int .i64 Ld);have Hf:=Qg (Qg Hf nf8 0 (.int .i64 Ln)) nf8 1 (.int .i64 Ld);have He:=Qg (Qg He (Ne.symm n8) 0 (.int .i64 Ln)) (Ne.symm n8) 1 (.int .i64 Ld);have Hs:=Qg (Qg Hs ns8 0 (.int .i64 Ln)) ns8 1 (.int .i64 Ld);have H8:=H82;go_wp2;refine Qm ?_;refine Qt ?_;generalize World.setCell _ _ _ = wq at *;clear z0 z1 x0 x1 lx H82;go_wp2;exact ⟨⟨1,by decide,by rfl,⟨X.p,⟨Pn,Pd⟩,X.s⟩,⟨Ln,Ld⟩,Le,⟨hX.p,hpin.1,hX.s⟩,hpin.2,HE,Ht,Hd,Hf,He,H8,Hs,fun h => by rw [hpV.out,if_neg (by simpa using h)];rfl,fun h => by rw [hpV.out,if_pos h]⟩,by simp [intOf]⟩
       ·skip
        have NP:=fun w h z => Qlq X lf hX.p hlf bd w h z
        have hpin:=Fp (x:=X.p) (n:=lf);have hpV : Hid (V = if (Zj X.p lf).2 ≠ 0 then (J8,(Zj X.p lf).2) else Ra c l.r f on k m ⟨(Zj X.p lf).1.1,X.i,X.s⟩ (Zj X.p lf).1.2):=h1.out rfl;clear h1 h2;generalize Zj X.p lf = P at *;obtain ⟨⟨⟨Pn,Pd⟩,⟨Ln,Ld⟩⟩,Le⟩:=P;simp only [] at hpin hpV NP;go_upto_region 17 with (fail)
        clear e0 le s0 s1 ls;refine Q5 8 [7] (fun x => Qc x bt 200 #[.func (.func 117) #[] #[.pointer (some ⟨be,0,none⟩)]] ∧ Qc x b18 65 #[.int .i64 lf.n,.int .i64 lf.d]) mixed rfl ?_;intro vz hvz;replace HE:=HE.trans hvz;replace Ht:=Ht.ext hvz;replace Hd:=Hd.ext hvz;replace Hf:=Hf.ext hvz;replace He:=He.ext hvz;replace H8:=H8.ext hvz;replace Hs:=Hs.ext hvz;clear hvz;refine Qr (g:=5) [0,1,2] ⟨Ht,H8⟩ ?_
        constructor
        refine ⟨fun u hu => ?_,?_⟩
        ·have t0:=hu.1.c1;have lt:=hu.1.lt;obtain ⟨r0,r1⟩:=hu.2.c2;have lr:=hu.2.lt;exact Qj
        refine Qk 3 ?_;go_wp2_with (go_at_call 119;(with_reducible refine zc (NP _ Hd (Z0.ext HE)) ?_);rintro e wp ⟨rfl,hO,hd⟩);replace HE:=hO.ext HE (fun k hk => by rw [List.mem_singleton.1 hk];exact gd);replace Ht:=hO.held Ht (by simp only [List.mem_singleton];exact fun e => n4.out (by rw [e];simp));replace Hf:=hO.held Hf (by simp only [List.mem_singleton];exact Ne.symm n1);replace He:=hO.held He (by simp only [List.mem_singleton];exact Ne.symm n2);replace H8:=hO.held H8 (by simp only [List.mem_singleton];exact n8d);replace Hs:=hO.held Hs (by simp only [List.mem_singleton];exact nsd);clear hO Hd;have Hd:=hd;clear hd;refine Qe ⟨Ht,H8⟩ ?_;refine Qr (g:=2) [4,5] ⟨Ht,H8⟩ ?_
        constructor
        refine ⟨fun u hu => ?_,?_⟩
        ·have t0:=hu.1.c1;have lt:=hu.1.lt;obtain ⟨r0,r1⟩:=hu.2.c2;have lr:=hu.2.lt;exact Qj
        refine Qk 6 ?_;go_wp2_with (first | (go_at_call 117;(with_reducible refine zc (Xw ⟨Ln,Ld⟩ Le 0 be _ He) ?_);rintro e we ⟨rfl,h5,He2⟩) | (go_at_fn 117;(with_reducible refine zc (Xw ⟨Ln,Ld⟩ Le 0 be _ He) ?_);rintro e we ⟨rfl,h5,He2⟩));try rw [if_pos rfl] at He2
        replace HE:=h5.ext HE (fun k hk => by rw [List.mem_singleton.1 hk];exact g3);replace Ht:=h5.held Ht (by simp only [List.mem_singleton];exact fun e => n4.out (by rw [e];simp));replace Hf:=h5.held Hf (by simp only [List.mem_singleton];exact n3);replace H8:=h5.held H8 (by simp only [List.mem_singleton];exact n8);replace Hs:=h5.held Hs (by simp only [List.mem_singleton];exact ns);replace Hd:=h5.held Hd (by simp only [List.mem_singleton];exact n2);have He:=He2;clear h5 He2;refine Qe ⟨Ht,H8⟩ ?_;refine Qn 7 ?_;have z0:=H8.frozen 0;have z1:=H8.frozen 1;obtain ⟨x0,x1⟩:=H8.c2;have lx:=H8.lt;have HE:=(HE.setCell (p:=⟨b18,0,none⟩) g18 (.int .i64 Ln)).setCell (p:=⟨b18,1,none⟩) g18 (.int .i64 Ld)
        have H82:=Qo H8 (.int .i64 Ln) (.int .i64 Ld);have Ht:=Qg (Qg Ht nt8 0 (.int .i64 Ln)) nt8 1 (.int .i64 Ld);have Hd:=Qg (Qg Hd (Ne.symm n8d) 0 (.int .i64 Ln)) (Ne.symm n8d) 1 (.int .i64 Ld);have Hf:=Qg (Qg Hf nf8 0 (.int .i64 Ln)) nf8 1 (.int .i64 Ld);have He:=Qg (Qg He (Ne.symm n8) 0 (.int .i64 Ln)) (Ne.symm n8) 1 (.int .i64 Ld);have Hs:=Qg (Qg Hs ns8 0 (.int .i64 Ln)) ns8 1 (.int .i64 Ld);have H8:=H82;go_wp2;refine Qm ?_;refine Qt ?_;generalize World.setCell _ _ _ = wq at *;clear z0 z1 x0 x1 lx H82;go_wp2;exact ⟨⟨2,by decide,by rfl,⟨⟨Pn,Pd⟩,X.i,X.s⟩,⟨Ln,Ld⟩,Le,⟨hpin.1,hX.i,hX.s⟩,hpin.2,HE,Ht,Hd,Hf,He,H8,Hs,fun h => by rw [hpV.out,if_neg (by simpa using h)];rfl,fun h => by rw [hpV.out,if_pos h]⟩,by simp [intOf]⟩
      ·have g0 : (ee == 0) = false := beq_eq_false_iff_ne.2 h0;have hj3 : j = 0 ∨ j = 1 := by omega
       rcases hj3 with rfl | rfl
       ·go_wp2;exact ⟨⟨1,by decide,rfl,X,lf,ee,hX,hlf,HE,Ht,Hd,Hf,He,H8,Hs,fun h => absurd h h0,h2⟩,by simp [intOf]⟩
       ·go_wp2;exact ⟨⟨2,by decide,rfl,X,lf,ee,hX,hlf,HE,Ht,Hd,Hf,He,H8,Hs,fun h => absurd h h0,h2⟩,by simp [intOf]⟩
     ·obtain rfl : j = 2 := by omega
      by_cases h0 : ee = 0
      ·subst h0;have NA:=fun w z => Nx X.s lf hX.s hlf w z
       have hSin:=Lf X.s lf;have hpV : Hid (V = if (Zm X.s lf).2 ≠ 0 then (J8,(Zm X.s lf).2) else Yh c l.r f on (k + 1) m ⟨X.p,X.i,(Zm X.s lf).1⟩ (f k).on):=h1.out rfl;clear h1 h2;generalize Zm X.s lf = S at *;obtain ⟨⟨Sn,Sd⟩,Se⟩:=S;simp only [] at hSin hpV NA;go_upto_region 20 with (fail)
       clear e0 le;refine Q5 10 [9] (fun x => Qc x bt 200 #[.func (.func 117) #[] #[.pointer (some ⟨be,0,none⟩)]] ∧ Qc x bd 72 #[.int .i64 X.p.n,.int .i64 X.p.d,.int .i64 X.i.n,.int .i64 X.i.d,.int .i64 X.s.n,.int .i64 X.s.d] ∧ Qc x b18 65 #[.int .i64 lf.n,.int .i64 lf.d]) mixed rfl ?_;intro vz hvz;replace HE:=HE.trans hvz;replace Ht:=Ht.ext hvz;replace Hd:=Hd.ext hvz;replace Hf:=Hf.ext hvz;replace He:=He.ext hvz;replace H8:=H8.ext hvz;clear hvz;refine Qr (g:=6) [0,1,2,3] ⟨Ht,Hd,H8⟩ ?_
       constructor
       refine ⟨fun u hu => ?_,?_⟩
       ·have t0:=hu.1.c1;have lt:=hu.1.lt;obtain ⟨d0,d1,d2,d3,d4,d5⟩:=hu.2.1.c6;have ld:=hu.2.1.lt;obtain ⟨r0,r1⟩:=hu.2.2.c2;have lr:=hu.2.2.lt;exact Qj
       refine Qk 4 ?_;go_wp2_with (go_at_call 86;(with_reducible refine zc (NA _ (Z0.ext HE)) ?_);rintro e wc ⟨rfl,h4⟩);replace HE:=HE.trans h4;replace Ht:=Ht.ext h4;replace Hd:=Hd.ext h4;replace Hf:=Hf.ext h4;replace He:=He.ext h4;replace H8:=H8.ext h4;clear h4;refine Qe ⟨Ht,Hd,H8⟩ ?_;refine Qr (g:=3) [5,6] ⟨Ht,Hd,H8⟩ ?_
       constructor
       refine ⟨fun u hu => ?_,?_⟩
       ·have t0:=hu.1.c1;have lt:=hu.1.lt;obtain ⟨d0,d1,d2,d3,d4,d5⟩:=hu.2.1.c6;have ld:=hu.2.1.lt;obtain ⟨r0,r1⟩:=hu.2.2.c2;have lr:=hu.2.2.lt;exact Qj
       refine Qk 7 ?_;go_wp2_with (first | (go_at_call 117;(with_reducible refine zc (Xw ⟨Sn,Sd⟩ Se 0 be _ He) ?_);rintro e we ⟨rfl,h5,He2⟩) | (go_at_fn 117;(with_reducible refine zc (Xw ⟨Sn,Sd⟩ Se 0 be _ He) ?_);rintro e we ⟨rfl,h5,He2⟩));try rw [if_pos rfl] at He2
       replace HE:=h5.ext HE (fun k hk => by rw [List.mem_singleton.1 hk];exact g3);replace Ht:=h5.held Ht (by simp only [List.mem_singleton];exact fun e => n4.out (by rw [e];simp));replace Hf:=h5.held Hf (by simp only [List.mem_singleton];exact n3);replace H8:=h5.held H8 (by simp only [List.mem_singleton];exact n8);replace Hd:=h5.held Hd (by simp only [List.mem_singleton];exact n2);have He:=He2;clear h5 He2;refine Qe ⟨Ht,Hd,H8⟩ ?_;refine Qr (g:=1) [8] ⟨Ht,Hd,H8⟩ ?_
       constructor
       refine ⟨fun u hu => ?_,?_⟩
       ·have t0:=hu.1.c1;have lt:=hu.1.lt;obtain ⟨d0,d1,d2,d3,d4,d5⟩:=hu.2.1.c6;have ld:=hu.2.1.lt;obtain ⟨r0,r1⟩:=hu.2.2.c2;have lr:=hu.2.2.lt;exact Qj
       refine Qn 9 ?_;have z4:=Hd.frozen 4;have z5:=Hd.frozen 5;obtain ⟨x0,x1,x2,x3,x4,x5⟩:=Hd.c6;have lx:=Hd.lt;have HE:=(HE.setCell (p:=⟨bd,4,none⟩) gd (.int .i64 Sn)).setCell (p:=⟨bd,5,none⟩) gd (.int .i64 Sd);have Hd2:=Qie Hd (.int .i64 Sn) (.int .i64 Sd);have Ht:=Qg (Qg Ht ntd 4 (.int .i64 Sn)) ntd 5 (.int .i64 Sd);have Hf:=Qg (Qg Hf (Ne.symm n1) 4 (.int .i64 Sn)) (Ne.symm n1) 5 (.int .i64 Sd);have He:=Qg (Qg He (Ne.symm n2) 4 (.int .i64 Sn)) (Ne.symm n2) 5 (.int .i64 Sd);have Hd:=Hd2;go_wp2;refine Qm ?_;refine Qt ?_;generalize World.setCell _ _ _ = wq at *;clear z4 z5 x0 x1 x2 x3 x4 x5 lx Hd2;go_wp2;exact ⟨⟨k + 1,by omega,by go_num,⟨X.p,X.i,⟨Sn,Sd⟩⟩,(f k).on,Se,⟨hX.p,hX.i,hSin⟩,HE,Ht,Hd,Hf,He,fun h => by rw [hpV.out,if_neg (by simpa using h),hm2],fun h => by rw [hpV.out,if_pos h]⟩,by simp [intOf];omega⟩
      ·have g0 : (ee == 0) = false:=beq_eq_false_iff_ne.2 h0;go_wp2;exact ⟨⟨k + 1,by omega,by go_num,X,(f k).on,ee,hX,HE,Ht,Hd,Hf,He,fun h => absurd h h0,h2⟩,by simp [intOf];omega⟩
  ·obtain rfl : k = n := by omega
   by_cases h0 : ee = 0
   ·subst h0
    have hVA : Hid (V = V9 (Jl c l.r X fr on)):=by
     have:=h1.out rfl;rw [Nat.sub_self] at this;exact this
    clear h1 h2;have e0:=He.c1;have le:=He.lt;have B3e:=B3.ext HE;obtain ⟨o0,o1,o2,o3⟩:=B3e.c4;have lo:=B3e.lt;have NA:=Tc A A' ca cb c l hr X hX fr on bt bd b2 b1 bf be v _ HE C Z0 Ht Hd (B2.ext HE) (B1.ext HE) Hf He g3 n1 n2 n3 n4.out n5.out n6.out;go_upto_region 24 with (first | (go_at_call 118;(with_reducible refine zc (NA) ?_);rintro e wk ⟨rfl,hO,hf,he,Y,hYin,hd,hY⟩) | (go_at_fn 118;(with_reducible refine zc (NA) ?_);rintro e wk ⟨rfl,hO,hf,he,Y,hYin,hd,hY⟩))
    replace HE:=hO.ext HE gS.out;replace Ht:=hO.held Ht n4.out;clear hO Hd Hf He NA;have Hd:=hd;have Hf:=hf;have He:=he;clear hd hf he;clear e0 le o0 o1 o2 o3 lo B3e;generalize Jl c l.r X fr on = a at *;obtain ⟨aX,ae⟩:=a;simp only [] at He hY hVA;by_cases h0 : ae = 0
    ·subst h0;have hy := hY rfl;subst hy;have hV : Hid (V = (Y, 0)) := by unfold Hid; rw [hVA.out]; exact Qbc rfl
     clear hVA hY;have e0:=He.c1;have le:=He.lt;have R4:=B4.ext HE;obtain ⟨d0,d1,d2,d3,d4,d5⟩:=Hd.c6;have ld:=Hd.lt;have z0:=R4.frozen 0;have z1:=R4.frozen 1;have z2:=R4.frozen 2;have z3:=R4.frozen 3;have z4:=R4.frozen 4;have z5:=R4.frozen 5;obtain ⟨x0,x1,x2,x3,x4,x5⟩:=R4.c6;have lx:=R4.lt;have R6:=Xf R4 (.int .i64 Y.p.n) (.int .i64 Y.p.d) (.int .i64 Y.i.n) (.int .i64 Y.i.d) (.int .i64 Y.s.n) (.int .i64 Y.s.d);have EF:=Xe (E.trans HE) hbr (.int .i64 Y.p.n) (.int .i64 Y.p.d) (.int .i64 Y.i.n) (.int .i64 Y.i.d) (.int .i64 Y.s.n) (.int .i64 Y.s.d);obtain ⟨y0,y1,y2,y3,y4,y5⟩:=R6.c6;go_wp2;refine bodyPost_ret (v:=.tuple #[.agg #[.int .i64 Y.p.n,.int .i64 Y.p.d,.int .i64 Y.i.n,.int .i64 Y.i.d,.int .i64 Y.s.n,.int .i64 Y.s.d],.int .i64 0]) (by simp [results,Tryz.results66,go_sem,y0,y1,y2,y3,y4,y5]) rfl ⟨by rw [hV.out],EF⟩
    ·have g0 : (ae == 0) = false := beq_eq_false_iff_ne.2 h0;have hV : Hid (V = (J8, ae)) := by unfold Hid; rw [hVA.out]; exact Mz h0
     clear hVA hY h0;have g0n : (ae != 0) = true:=by rw [bne,g0];rfl
     have e0:=He.c1;have le:=He.lt;go_upto_region 25 with (fail)
     clear e0 le;apply Rr (S:=fun w' => Qb w w' ∧ Qc w' b4 72 #[.int .i64 0,.int .i64 0,.int .i64 0,.int .i64 0,.int .i64 0,.int .i64 0])
     ·refine Q5 4 [3] (fun x => Ua x be 29 #[.int .i64 ae]) mixed rfl ?_;intro vz hvz;replace He:=He.ext hvz;replace HE:=HE.trans hvz;clear hvz;refine Qr (g:=2) [0,1] (Ua.mk He) ?_
      constructor
      refine ⟨fun u hu => ?_,?_⟩
      ·have e0:=hu.out.c1;have le:=hu.out.lt;exact Qj
      refine Qk 2 ?_;have R4:=B4.ext HE;have z0:=R4.frozen 0;have z1:=R4.frozen 1;have z2:=R4.frozen 2;have z3:=R4.frozen 3;have z4:=R4.frozen 4;have z5:=R4.frozen 5;obtain ⟨x0,x1,x2,x3,x4,x5⟩:=R4.c6;have lx:=R4.lt;go_wp2;have R6:=Xf R4 (.int .i64 0) (.int .i64 0) (.int .i64 0) (.int .i64 0) (.int .i64 0) (.int .i64 0);have EF:=Xe (E.trans HE) hbr (.int .i64 0) (.int .i64 0) (.int .i64 0) (.int .i64 0) (.int .i64 0) (.int .i64 0);replace He:=Fm He hbe4 (.int .i64 0) (.int .i64 0) (.int .i64 0) (.int .i64 0) (.int .i64 0) (.int .i64 0);clear z0 z1 z2 z3 z4 z5 x0 x1 x2 x3 x4 x5 lx R4;generalize World.setCell _ _ _ = wq at *;refine Qe (Ua.mk He) ?_
      refine Qn 3 ?_;go_wp2;refine Qm ?_;refine Qt ?_;exact ⟨rfl,⟨EF,R6⟩,rfl⟩
     rintro w9 ⟨EF,R6⟩;obtain ⟨y0,y1,y2,y3,y4,y5⟩:=R6.c6;go_wp2;refine bodyPost_ret (v:=.tuple #[.agg #[.int .i64 0,.int .i64 0,.int .i64 0,.int .i64 0,.int .i64 0,.int .i64 0],.int .i64 ae]) (by simp [results,Tryz.results66,go_sem,y0,y1,y2,y3,y4,y5]) rfl ⟨by rw [hV.out];rfl,EF⟩
   ·have g0 : (ee == 0) = false := beq_eq_false_iff_ne.2 h0;have hV := Lib.hid (h2.out h0);clear h1 h2 h0;have g0n : (ee != 0) = true := by rw [bne, g0]; rfl
    have e0:=He.c1;have le:=He.lt;go_upto_region 25 with (fail)
    clear e0 le;apply Rr (S:=fun w' => Qb w w' ∧ Qc w' b4 72 #[.int .i64 0,.int .i64 0,.int .i64 0,.int .i64 0,.int .i64 0,.int .i64 0])
    ·refine Q5 4 [3] (fun x => Ua x be 29 #[.int .i64 ee]) mixed rfl ?_;intro vz hvz;replace He:=He.ext hvz;replace HE:=HE.trans hvz;clear hvz;refine Qr (g:=2) [0,1] (Ua.mk He) ?_
     constructor
     refine ⟨fun u hu => ?_,?_⟩
     ·have e0:=hu.out.c1;have le:=hu.out.lt;exact Qj
     refine Qk 2 ?_;have R4:=B4.ext HE;have z0:=R4.frozen 0;have z1:=R4.frozen 1;have z2:=R4.frozen 2;have z3:=R4.frozen 3;have z4:=R4.frozen 4;have z5:=R4.frozen 5;obtain ⟨x0,x1,x2,x3,x4,x5⟩:=R4.c6;have lx:=R4.lt;go_wp2;have R6:=Xf R4 (.int .i64 0) (.int .i64 0) (.int .i64 0) (.int .i64 0) (.int .i64 0) (.int .i64 0);have EF:=Xe (E.trans HE) hbr (.int .i64 0) (.int .i64 0) (.int .i64 0) (.int .i64 0) (.int .i64 0) (.int .i64 0);replace He:=Fm He hbe4 (.int .i64 0) (.int .i64 0) (.int .i64 0) (.int .i64 0) (.int .i64 0) (.int .i64 0);clear z0 z1 z2 z3 z4 z5 x0 x1 x2 x3 x4 x5 lx R4;generalize World.setCell _ _ _ = wq at *;refine Qe (Ua.mk He) ?_
     refine Qn 3 ?_;go_wp2;refine Qm ?_;refine Qt ?_;exact ⟨rfl,⟨EF,R6⟩,rfl⟩
    rintro w9 ⟨EF,R6⟩;obtain ⟨y0,y1,y2,y3,y4,y5⟩:=R6.c6;go_wp2;refine bodyPost_ret (v:=.tuple #[.agg #[.int .i64 0,.int .i64 0,.int .i64 0,.int .i64 0,.int .i64 0,.int .i64 0],.int .i64 ee]) (by simp [results,Tryz.results66,go_sem,y0,y1,y2,y3,y4,y5]) rfl ⟨by rw [hV.out];rfl,EF⟩
theorem Nw {c : Qd} {r : Rt} {x : Db} {a b : Dt} (h : x.In) : (Jl c r x a b).1.In:=by
 unfold Jl
 split
 ·exact h
 ·split
  ·exact h
  ·exact ⟨h.p,Lf _ _,h.s⟩
theorem Qbw {x : Db} {n : Rt} (h : x.In) : (M4 x n).1.In:=by
 unfold M4
 split
 ·exact h
 ·split
  ·exact h
  ·split
   ·exact h
   ·exact ⟨Fp.1,Fp.1,Lf _ _⟩
theorem Qbr (c : Qd) (r : Rt) (f : Nat → J6) (on : Dt) : ∀ m k x a,Db.In x → (U4 c r f on k m x a).1.In
 | 0,_,_,_,h => Nw h
 | m + 1,k,x,a,h => by
  rw [U4]
  split
  ·exact Nw h
  ·split
   ·exact Nw h
   ·split
    ·exact Qbw (Nw h)
    ·exact Qbr c r f on m (k + 1) _ _ (Qbw (Nw h))
theorem Qlh (c : Qd) (l : Ln) (f : Nat → J6) (n : Nat) (on : Dt) (hp : l.p.In) : (c.owedV l f n on).1.p.In ∧ (c.owedV l f n on).1.i.In:=by
 have h0 : J8.In:=⟨Xh,Xh,Xh⟩;have h1 : (start l).In:=⟨hp,Vp,Vp⟩
 have H : (c.owedV l f n on).1.In:=by
  unfold Qd.owedV
  split
  ·exact h0
  ·split
   ·exact h0
   ·split
    ·exact h0
    ·split
     ·exact h0
     ·exact Qbr c l.r f on n 0 _ _ h1
 exact ⟨H.p,H.i⟩
theorem Qbq (A A' : Option Addr) (ca cb : Nat) (c : Qd) (B : Option Addr) (n cap : Nat) (l : Ln) (f : Nat → J6) (hp : l.p.In) (hr : l.r.In) (hin : ∀ i,i < n → (f i).n.In) (w : World) (hC : Zg w A ca A' cb c) (hB : Qs w B n 6 (Yp f)) (hn : n ≤ 9223372036854775807) (hZ : Z6 w) (on : Dt) :
  Calls Tryz.prog 23 #[.agg #[.slice A c.nk ca,.slice A' c.ny cb],.agg #[.int .i64 l.p.n,.int .i64 l.p.d,.int .i64 l.r.n,.int .i64 l.r.d,.int .i64 l.f.y,.int .i64 l.f.m,.bool l.f.s,.int .i64 l.f.d],.slice B n cap,.agg #[.int .i64 on.y,.int .i64 on.m,.bool on.s,.int .i64 on.d]] w fun e w' => e = .returned (.tuple #[.agg #[.int .i64 (c.owedV l f n on).1.p.n,.int .i64 (c.owedV l f n on).1.p.d,.int .i64 (c.owedV l f n on).1.i.n,.int .i64 (c.owedV l f n on).1.i.d,.int .i64 (c.owedV l f n on).1.s.n,.int .i64 (c.owedV l f n on).1.s.d],.int .i64 (c.owedV l f n on).2]) ∧ Qb w w':=by
 have NO:=fun w h => Ov A A' ca cb c w h
 have NC:=fun hv w h1 h2 => Qf9 A A' ca cb c B n cap l f hp hr hin w h1 h2 hn hv
 have NW:=fun w h1 h2 z => Qlj A A' ca cb c B n cap l f hp hr hin w h1 h2 hn z on
 have ND:=fun d w h => Yy A A' ca cb c d w h
 obtain ⟨R,hR0⟩:=Qf (c.owedV l f n on);rw [← hR0];have HR:=Lib.hid hR0;clear hR0
 go_enter Tryz.func23,Tryz.ntmps23
 go_upto_region 1 with (fail)
 obtain ⟨v,b1,b2,b3,b4,E,B1,B2,B3,B4,hbr1,hbr2,hbr3,hbr,hn21,hn31,hn32,hn41,hn42,hn43,hv,hb1,hb2,hb3,hb4⟩:=Hz w 25 #[.slice A c.nk ca,.slice A' c.ny cb] 67 #[.int .i64 l.p.n,.int .i64 l.p.d,.int .i64 l.r.n,.int .i64 l.r.d,.int .i64 l.f.y,.int .i64 l.f.m,.bool l.f.s,.int .i64 l.f.d] 51 #[.int .i64 on.y,.int .i64 on.m,.bool on.s,.int .i64 on.d] 72 #[.int .i64 0,.int .i64 0,.int .i64 0,.int .i64 0,.int .i64 0,.int .i64 0];rw [← hv,← hb4,← hb3,← hb2,← hb1];clear hv hb1 hb2 hb3 hb4;have RB:=hB.ext E;have Z0:=hZ.ext E;have C:=hC.ext E;clear hB hZ;obtain ⟨k0,k1⟩:=B1.c2;have lk:=B1.lt;cases hv : c.valid
 ·have hr9 : R = (J8, 70) := by rw [HR.out]; unfold Qd.owedV Qd.loanE; rw [hv]; rfl
  have hc : c.chk = 70:=by unfold Qd.chk;rw [hv];rfl
  simp only [hc] at NO;subst hr9;clear HR hc hv NC NW ND;go_upto_region 2 with (go_at_call 64;(with_reducible refine zc (NO _ (hC.ext E)) ?_);rintro e w1 ⟨rfl,h1⟩)
  obtain ⟨v3,hv⟩:=Qf (w1.alloc (.cells #[.slice A c.nk ca,.slice A' c.ny cb] 130));rw [← hv];have h3 : Qb w1 v3:=by rw [hv];exact (Qb.refl _).alloc _
  have H3 : Qc v3 w1.heap.size 130 #[.slice A c.nk ca,.slice A' c.ny cb]:=by rw [hv];exact Qc.new _ _ _
  clear hv;generalize w1.heap.size = b9 at *;replace E:=(E.trans h1).trans h3;replace B4:=(B4.ext h1).ext h3;have z0:=B4.frozen 0;have z1:=B4.frozen 1;have z2:=B4.frozen 2;have z3:=B4.frozen 3;have z4:=B4.frozen 4;have z5:=B4.frozen 5;obtain ⟨x0,x1,x2,x3,x4,x5⟩:=B4.c6;have lx:=B4.lt;have H9:=Xf B4 (.int .i64 0) (.int .i64 0) (.int .i64 0) (.int .i64 0) (.int .i64 0) (.int .i64 0);have EF:=Xe E hbr (.int .i64 0) (.int .i64 0) (.int .i64 0) (.int .i64 0) (.int .i64 0) (.int .i64 0);obtain ⟨y0,y1,y2,y3,y4,y5⟩:=H9.c6;go_wp2;refine bodyPost_ret (v:=.tuple #[.agg #[.int .i64 0,.int .i64 0,.int .i64 0,.int .i64 0,.int .i64 0,.int .i64 0],.int .i64 70]) (by simp [results,Tryz.results23,go_sem,y0,y1,y2,y3,y4,y5]) rfl ⟨rfl,EF⟩
 ·have hc : c.chk = 0 := by unfold Qd.chk; rw [hv]; rfl
  simp only [hc] at NO;replace NC:=NC hv;clear hv hc;go_upto_region 4 with (go_at_call 64;(with_reducible refine zc (NO _ (hC.ext E)) ?_);rintro e w1 ⟨rfl,h1⟩)
  obtain ⟨v3,hv⟩:=Qf (w1.alloc (.cells #[.slice A c.nk ca,.slice A' c.ny cb] 130));rw [← hv];have h3 : Qb w1 v3:=by rw [hv];exact (Qb.refl _).alloc _
  have H3 : Qc v3 w1.heap.size 130 #[.slice A c.nk ca,.slice A' c.ny cb]:=by rw [hv];exact Qc.new _ _ _
  clear hv;generalize w1.heap.size = b9 at *;replace E:=(E.trans h1).trans h3;replace B2:=(B2.ext h1).ext h3;replace B3:=(B3.ext h1).ext h3;replace B4:=(B4.ext h1).ext h3;replace RB:=(RB.ext h1).ext h3;replace Z0:=(Z0.ext h1).ext h3;replace C:=(C.ext h1).ext h3;clear h1 h3 k0 k1 lk B1 NO;obtain ⟨k0,k1⟩:=H3.c2;have lk:=H3.lt;obtain ⟨p0,p1,p2,p3,p4,p5,p6,p7⟩:=B2.c8;have lp:=B2.lt;have HE:=Lib.hid (show c.loanE l f n = c.loanE l f n from rfl);obtain ⟨q,hq⟩:=Qf (c.loanE l f n);simp only [← hq] at NC;replace hq:=Lib.hid hq;clear HE;go_upto_region 5 with (go_at_call 65;(with_reducible refine zc (NC _ C RB) ?_);rintro e w2 ⟨rfl,h1⟩)
  replace E:=E.trans h1;replace B2:=B2.ext h1;replace B3:=B3.ext h1;replace B4:=B4.ext h1;replace H3:=H3.ext h1;replace RB:=RB.ext h1;replace Z0:=Z0.ext h1;replace C:=C.ext h1;clear h1 k0 k1 lk p0 p1 p2 p3 p4 p5 p6 p7 lp NC;by_cases e0 : q = 0;rotate_left
  ·have g0 : (q == 0) = false := beq_eq_false_iff_ne.2 e0;have g0n : (q != 0) = true := by rw [bne, g0]; rfl
   have hr9 : R = (J8,q):=by rw [HR.out,hq.out];unfold Qd.owedV;rw [if_pos (by rw [← hq.out];exact e0)]
   subst hr9;clear HR e0 hq NW ND;have z0:=B4.frozen 0;have z1:=B4.frozen 1;have z2:=B4.frozen 2;have z3:=B4.frozen 3;have z4:=B4.frozen 4;have z5:=B4.frozen 5;obtain ⟨x0,x1,x2,x3,x4,x5⟩:=B4.c6;have lx:=B4.lt;have H9:=Xf B4 (.int .i64 0) (.int .i64 0) (.int .i64 0) (.int .i64 0) (.int .i64 0) (.int .i64 0);have EF:=Xe E hbr (.int .i64 0) (.int .i64 0) (.int .i64 0) (.int .i64 0) (.int .i64 0) (.int .i64 0);obtain ⟨y0,y1,y2,y3,y4,y5⟩:=H9.c6;go_wp2;refine bodyPost_ret (v:=.tuple #[.agg #[.int .i64 0,.int .i64 0,.int .i64 0,.int .i64 0,.int .i64 0,.int .i64 0],.int .i64 q]) (by simp [results,Tryz.results23,go_sem,y0,y1,y2,y3,y4,y5]) rfl ⟨rfl,EF⟩
  subst e0;obtain ⟨k0,k1⟩:=H3.c2;have lk:=H3.lt;obtain ⟨p0,p1,p2,p3,p4,p5,p6,p7⟩:=B2.c8;have lp:=B2.lt;obtain ⟨o0,o1,o2,o3⟩:=B3.c4;have lo:=B3.lt
  have HR2 : Hid (R = if c.numV on = 0 then (J8,71) else if c.numV on < c.numV l.f then (J8,8) else Yh c l.r f on 0 n (start l) l.f):=by
   unfold Hid;by_cases d0 : c.numV on = 0
   ·rw [HR.out,if_pos d0];unfold Qd.owedV;rw [← hq.out,if_neg (by simp),if_pos d0]
   ·by_cases d1 : c.numV on < c.numV l.f
    ·rw [HR.out,if_neg d0,if_pos d1];unfold Qd.owedV;rw [← hq.out,if_neg (by simp),if_neg d0,if_pos d1]
    ·rw [HR.out,if_neg d0,if_neg d1];exact Qli hq.out.symm d0 d1
  clear HR hq;generalize Yh c l.r f on 0 n (start l) l.f = Q at *;have ND1:=fun w h => ND on w h
  have ND2:=fun w h => ND l.f w h
  clear ND;generalize c.numV on = N at *;generalize c.numV l.f = M at *;go_upto_region 8 with (go_at_call 48;(with_reducible refine zc (ND1 _ C) ?_);rintro e w3 ⟨rfl,hd⟩)
  replace E:=E.trans hd;replace B2:=B2.ext hd;replace B3:=B3.ext hd;replace B4:=B4.ext hd;replace H3:=H3.ext hd;replace RB:=RB.ext hd;replace Z0:=Z0.ext hd;replace C:=C.ext hd;clear hd k0 k1 lk p0 p1 p2 p3 p4 p5 p6 p7 lp o0 o1 o2 o3 lo ND1;by_cases d0 : N = 0
  ·subst d0;have hr9:=HR2.out;rw [if_pos rfl] at hr9;subst hr9;clear HR2 NW ND2;have z0:=B4.frozen 0;have z1:=B4.frozen 1;have z2:=B4.frozen 2;have z3:=B4.frozen 3;have z4:=B4.frozen 4;have z5:=B4.frozen 5;obtain ⟨x0,x1,x2,x3,x4,x5⟩:=B4.c6;have lx:=B4.lt;have H9:=Xf B4 (.int .i64 0) (.int .i64 0) (.int .i64 0) (.int .i64 0) (.int .i64 0) (.int .i64 0);have EF:=Xe E hbr (.int .i64 0) (.int .i64 0) (.int .i64 0) (.int .i64 0) (.int .i64 0) (.int .i64 0);obtain ⟨y0,y1,y2,y3,y4,y5⟩:=H9.c6;go_wp2;refine bodyPost_ret (v:=.tuple #[.agg #[.int .i64 0,.int .i64 0,.int .i64 0,.int .i64 0,.int .i64 0,.int .i64 0],.int .i64 71]) (by simp [results,Tryz.results23,go_sem,y0,y1,y2,y3,y4,y5]) rfl ⟨rfl,EF⟩
  have d0b : (N == 0) = false:=beq_eq_false_iff_ne.2 d0;have HR3 : Hid (R = if N < M then (J8,8) else Q):=by unfold Hid;rw [HR2.out,if_neg d0]
  clear HR2 d0;obtain ⟨k0,k1⟩:=H3.c2;have lk:=H3.lt;obtain ⟨p0,p1,p2,p3,p4,p5,p6,p7⟩:=B2.c8;have lp:=B2.lt;obtain ⟨o0,o1,o2,o3⟩:=B3.c4;have lo:=B3.lt;have DAYARM:=ND2 _ C;by_cases d1 : N < M
  ·have d1b : decide (N < M) = true:=decide_eq_true d1;have hr9:=HR3.out;rw [if_pos d1] at hr9;subst hr9;clear HR3 NW d1;go_upto_region 11 with (go_at_call 48;(with_reducible refine zc (ND2 _ C) ?_);rintro e w4 ⟨rfl,hd⟩)
   replace E:=E.trans hd;replace B4:=B4.ext hd;have z0:=B4.frozen 0;have z1:=B4.frozen 1;have z2:=B4.frozen 2;have z3:=B4.frozen 3;have z4:=B4.frozen 4;have z5:=B4.frozen 5;obtain ⟨x0,x1,x2,x3,x4,x5⟩:=B4.c6;have lx:=B4.lt;have H9:=Xf B4 (.int .i64 0) (.int .i64 0) (.int .i64 0) (.int .i64 0) (.int .i64 0) (.int .i64 0);have EF:=Xe E hbr (.int .i64 0) (.int .i64 0) (.int .i64 0) (.int .i64 0) (.int .i64 0) (.int .i64 0);obtain ⟨y0,y1,y2,y3,y4,y5⟩:=H9.c6;go_wp2;refine bodyPost_ret (v:=.tuple #[.agg #[.int .i64 0,.int .i64 0,.int .i64 0,.int .i64 0,.int .i64 0,.int .i64 0],.int .i64 8]) (by simp [results,Tryz.results23,go_sem,y0,y1,y2,y3,y4,y5]) rfl ⟨rfl,EF⟩
  ·have d1b : decide (N < M) = false:=decide_eq_false d1;have hr9:=HR3.out;rw [if_neg d1] at hr9;subst hr9;clear HR3 d1;go_upto_region 12 with (go_at_call 48;(with_reducible refine zc (ND2 _ C) ?_);rintro e w4 ⟨rfl,hd⟩)
   replace E:=E.trans hd;replace B2:=B2.ext hd;replace B3:=B3.ext hd;replace B4:=B4.ext hd;replace H3:=H3.ext hd;replace RB:=RB.ext hd;replace Z0:=Z0.ext hd;replace C:=C.ext hd;clear hd k0 k1 lk p0 p1 p2 p3 p4 p5 p6 p7 lp o0 o1 o2 o3 lo ND2 DAYARM;obtain ⟨k0,k1⟩:=H3.c2;have lk:=H3.lt;obtain ⟨p0,p1,p2,p3,p4,p5,p6,p7⟩:=B2.c8;have lp:=B2.lt;obtain ⟨o0,o1,o2,o3⟩:=B3.c4;have lo:=B3.lt;obtain ⟨⟨⟨Pn,Pd⟩,⟨In_,Id⟩,⟨Sn,Sd⟩⟩,Re⟩:=R;go_wp2_with (go_at_call 66;(with_reducible refine zc (NW _ C RB Z0) ?_);rintro e w5 ⟨rfl,h1⟩;replace E:=E.trans h1;replace B4:=B4.ext h1;have z0:=B4.frozen 0;have z1:=B4.frozen 1;have z2:=B4.frozen 2;have z3:=B4.frozen 3;have z4:=B4.frozen 4;have z5:=B4.frozen 5;obtain ⟨x0,x1,x2,x3,x4,x5⟩:=B4.c6;have lx:=B4.lt)
   have H9:=Xf B4 (.int .i64 Pn) (.int .i64 Pd) (.int .i64 In_) (.int .i64 Id) (.int .i64 Sn) (.int .i64 Sd);have EF:=Xe E hbr (.int .i64 Pn) (.int .i64 Pd) (.int .i64 In_) (.int .i64 Id) (.int .i64 Sn) (.int .i64 Sd);obtain ⟨y0,y1,y2,y3,y4,y5⟩:=H9.c6;go_wp2;refine bodyPost_ret (v:=.tuple #[.agg #[.int .i64 Pn,.int .i64 Pd,.int .i64 In_,.int .i64 Id,.int .i64 Sn,.int .i64 Sd],.int .i64 Re]) (by simp [results,Tryz.results23,go_sem,y0,y1,y2,y3,y4,y5]) rfl ⟨rfl,EF⟩
theorem Qmu (A A' : Option Addr) (ca cb : Nat) (c : Qd) (B : Option Addr) (n cap : Nat) (l : Ln) (f : Nat → J6) (hp : l.p.In) (hr : l.r.In) (hin : ∀ i,i < n → (f i).n.In) (w : World) (hC : Zg w A ca A' cb c) (hB : Qs w B n 6 (Yp f)) (hn : n ≤ 9223372036854775807) (hZ : Z6 w) (on : Dt) :
  Calls Tryz.prog 39 #[.agg #[.slice A c.nk ca,.slice A' c.ny cb],.agg #[.int .i64 l.p.n,.int .i64 l.p.d,.int .i64 l.r.n,.int .i64 l.r.d,.int .i64 l.f.y,.int .i64 l.f.m,.bool l.f.s,.int .i64 l.f.d],.slice B n cap,.agg #[.int .i64 on.y,.int .i64 on.m,.bool on.s,.int .i64 on.d]] w fun e w' => e = .returned (.tuple #[.agg #[.int .i64 (c.settleV l f n on).1.n,.int .i64 (c.settleV l f n on).1.d],.int .i64 (c.settleV l f n on).2]) ∧ Qb w w':=by
 have NO:=fun w h1 h2 z => Qbq A A' ca cb c B n cap l f hp hr hin w h1 h2 hn z on
 have hoi:=Qlh c l f n on hp;obtain ⟨R,hR0⟩:=Qf (c.settleV l f n on);rw [← hR0];have HR:=Lib.hid hR0;clear hR0
 go_enter Tryz.func39,Tryz.ntmps39
 go_upto_region 1 with (fail)
 obtain ⟨v,b1,b2,b3,b4,E,B1,B2,B3,B4,hbr1,hbr2,hbr3,hbr,hn21,hn31,hn32,hn41,hn42,hn43,hv,hb1,hb2,hb3,hb4⟩:=Hz w 25 #[.slice A c.nk ca,.slice A' c.ny cb] 67 #[.int .i64 l.p.n,.int .i64 l.p.d,.int .i64 l.r.n,.int .i64 l.r.d,.int .i64 l.f.y,.int .i64 l.f.m,.bool l.f.s,.int .i64 l.f.d] 51 #[.int .i64 on.y,.int .i64 on.m,.bool on.s,.int .i64 on.d] 65 #[.int .i64 0,.int .i64 0];rw [← hv,← hb4,← hb3,← hb2,← hb1];clear hv hb1 hb2 hb3 hb4;have RB:=hB.ext E;have Z0:=hZ.ext E;have C:=hC.ext E;clear hB hZ hC;obtain ⟨k0,k1⟩:=B1.c2;have lk:=B1.lt;obtain ⟨p0,p1,p2,p3,p4,p5,p6,p7⟩:=B2.c8;have lp:=B2.lt;obtain ⟨o0,o1,o2,o3⟩:=B3.c4;have lo:=B3.lt
 have HR2 : Hid (R = if (c.owedV l f n on).2 ≠ 0 then (Zk,(c.owedV l f n on).2) else Zm (c.owedV l f n on).1.p (c.owedV l f n on).1.i):=HR;clear HR;generalize c.owedV l f n on = Q at *;obtain ⟨⟨⟨Pn,Pd⟩,⟨In_,Id⟩,⟨Sn,Sd⟩⟩,Re⟩:=Q;obtain ⟨hi1,hi2⟩:=hoi;simp only [] at HR2 NO hi1 hi2;go_upto_region 2 with (go_at_call 23;(with_reducible refine zc (NO _ C RB Z0) ?_);rintro e w1 ⟨rfl,h1⟩)
 obtain ⟨v3,hv⟩:=Qf (w1.alloc (.cells #[.int .i64 Pn,.int .i64 Pd,.int .i64 In_,.int .i64 Id,.int .i64 Sn,.int .i64 Sd] 72));rw [← hv];have h3 : Qb w1 v3:=by rw [hv];exact (Qb.refl _).alloc _
 have H3 : Qc v3 w1.heap.size 72 #[.int .i64 Pn,.int .i64 Pd,.int .i64 In_,.int .i64 Id,.int .i64 Sn,.int .i64 Sd]:=by rw [hv];exact Qc.new _ _ _
 clear hv;generalize w1.heap.size = b9 at *;replace E:=(E.trans h1).trans h3;replace B4:=(B4.ext h1).ext h3;replace Z0:=(Z0.ext h1).ext h3;clear h1 h3 k0 k1 lk B1 NO p0 p1 p2 p3 p4 p5 p6 p7 lp o0 o1 o2 o3 lo B2 B3 C RB;by_cases e0 : Re = 0;rotate_left
 ·have g0 : (Re == 0) = false := beq_eq_false_iff_ne.2 e0;have g0n : (Re != 0) = true := by rw [bne, g0]; rfl
  have hr9:=HR2.out;rw [if_pos e0] at hr9;subst hr9;clear HR2 e0;have f0:=B4.frozen 0;have f1:=B4.frozen 1;obtain ⟨x0,x1⟩:=B4.c2;have lx:=B4.lt;have H9:=Qo B4 (.int .i64 0) (.int .i64 0);have EF:=(E.setCell (p:=⟨b4,0,none⟩) hbr (.int .i64 0)).setCell (p:=⟨b4,1,none⟩) hbr (.int .i64 0);obtain ⟨y0,y1⟩:=H9.c2;go_wp2;refine bodyPost_ret (v:=.tuple #[.agg #[.int .i64 0,.int .i64 0],.int .i64 Re]) (by simp [results,Tryz.results39,go_sem,y0,y1]) rfl ⟨rfl,EF⟩
 subst e0;have NS:=fun w z => Nx ⟨Pn,Pd⟩ ⟨In_,Id⟩ hi1 hi2 w z
 have hr9:=HR2.out;rw [if_neg (by simp)] at hr9;rw [← hr9] at NS;clear HR2 hr9;obtain ⟨⟨Rn,Rd⟩,Rc⟩:=R;obtain ⟨k0,k1,k2,k3,k4,k5⟩:=H3.c6;have lk:=H3.lt;go_wp2_with (first | (go_at_call 86;(with_reducible refine zc (NS _ Z0) ?_);rintro e wt ⟨rfl,ht⟩;replace E:=E.trans ht;replace B4:=B4.ext ht;have f0:=B4.frozen 0;have f1:=B4.frozen 1;obtain ⟨x0,x1⟩:=B4.c2;have lx:=B4.lt));have H9:=Qo B4 (.int .i64 Rn) (.int .i64 Rd);have EF:=(E.setCell (p:=⟨b4,0,none⟩) hbr (.int .i64 Rn)).setCell (p:=⟨b4,1,none⟩) hbr (.int .i64 Rd);obtain ⟨y0,y1⟩:=H9.c2;go_wp2;refine bodyPost_ret (v:=.tuple #[.agg #[.int .i64 Rn,.int .i64 Rd],.int .i64 Rc]) (by simp [results,Tryz.results39,go_sem,y0,y1]) rfl ⟨rfl,EF⟩
def Zw (f : Nat → Lt) (i : Nat) : List Value:=[.string (f i).g,.int .i64 (f i).n]
theorem geq_s (x y : ByteArray) (w : World) : (binOp .geq 9 (.string x) (.string y)).run Tryz.prog w = .ok (.bool (!Jf x y)) w:=by
 have h : (binOp .geq 9 (.string x) (.string y)).run Tryz.prog w = .ok (.bool (!Op.bytesLess x.toList y.toList)) w:=rfl;rw [h,bytesLess_eq];rfl
theorem Oa (T : Option Addr) (n cap : Nat) (f : Nat → Lt) (w : World) (hT : Qs w T n 2 (Zw f)) (hcap : n ≤ cap) (hn : n ≤ 9223372036854775807) :
  Calls Tryz.prog 68 #[.slice T n cap] w fun e w' => e = .returned (.int .i64 (Jy f n)) ∧ Qb w w':=by
 have hge:=geq_s
 go_enter Tryz.func68,Tryz.ntmps68
 by_cases h64 : 64 < n
 ·have g1 : decide ((64 : Int) < (n : Int)) = true:=decide_eq_true Qa;rw [Qjq h64];go_wp2;go_ret;exact ⟨rfl,Qb.refl _⟩
 ·have g1 : decide ((64 : Int) < (n : Int)) = false:=decide_eq_false Qa;go_upto_region 4 with (fail)
  go_loopw [10] (fun i wr => ∃ k : Nat,k ≤ n ∧ i = .int .i64 k ∧ Hid (∀ j,j < k → Uh f j = true) ∧ Qb w wr) (fun i _ => n - (intOf i).toNat)
  case atStart => exact ⟨0,Nat.zero_le _,rfl,(fun j h => absurd h Qa),Qb.refl _⟩
  case round =>
   obtain ⟨k,hk,rfl,hall,hE⟩:=hrel;obtain ⟨wo,rfl⟩:=Qf wr;obtain ⟨hcwo,hfwo,hzwo⟩:=Qb.rules hE;try simp only [World.size_alloc] at hzwo
   obtain ⟨hcbwo,hfbwo,hzbwo⟩:=Qb.rules (show Qb w wo from Qu);clear hcwo hfwo;by_cases hlt : k < n
   ·obtain ⟨b, off, rfl, hb, hc⟩ := hT Qa;have hbo : b < wo.heap.size := Nat.lt_of_lt_of_le hb hE.size;have c0 : w.cell? ⟨b, off + k * 2, none⟩ = some (.string (f k).g) := by simpa using hc k 0 _ hlt rfl
    have c1 : w.cell? ⟨b,off + k * 2 + 1,none⟩ = some (.int .i64 (f k).n):=hc k 1 _ hlt rfl
    have hd0 : 0 < k → w.cell? ⟨b,off + (IntKind.i64.wrap ((k : Int) - 1)).toNat * 2,none⟩ = some (.string (f (k - 1)).g):=fun h => by
     rw [show (IntKind.i64.wrap ((k : Int) - 1)).toNat = k - 1 from by rw [IntKind.wrap_i64];omega]
     simpa using hc (k - 1) 0 _ Qa rfl
    have hin : 0 < k → (0 ≤ IntKind.i64.wrap ((k : Int) - 1) ∧ IntKind.i64.wrap ((k : Int) - 1) < (n : Int)):=fun h => by rw [IntKind.wrap_i64];omega
    have HK : Hid (Uh f k = _):=Qjm f k;clear hc;go_upto_region 6 with (fail)
    refine Nr wo mixed (by kernel_rfl) Qu ?_;intro hne hrx hry;try simp only []
    try simp only [List.append_eq,List.cons_append,List.nil_append]
    have hrx0:=fun u o => hrx u (wo.heap.size) o Zv
    skip
    repeat (first
     | go_big_quiet_skip
     | ((with_reducible apply O8)
        ·exact rfl
        ·exact rfl
        ·exact rfl
        intro K hK
        unfold Je;go_big_quiet_op;(with_reducible refine hK _ ?_);clear hK K)
     | ((with_reducible apply Hc)
        ·exact rfl
        ·exact rfl
        ·exact rfl
        intro K hK
        unfold Je;go_big_quiet_op;(with_reducible refine hK _ ?_);clear hK K)
     | (go_big_quiet_want;go_big_quiet_op;go_big_quiet_on)
     | (go_big_quiet_want;go_big_quiet_op;apply Exists.intro;refine ⟨fun u => ?_,?_⟩
        ·first
          | (go_at_call 120;refine (Kt _ _).mono ?_;rintro e w' ⟨rfl,rfl⟩;exact ⟨rfl,u,rfl⟩)
        go_big_quiet_on)
     | ((with_reducible apply O9)
        ·first | exact Wg rfl rfl rfl | exact Wf rfl rfl rfl | exact We rfl rfl rfl | exact Wd rfl rfl rfl
        ·exact rfl
        ·exact rfl
        ·exact rfl
        intro K hK
        unfold Je;go_big_quiet_op;(with_reducible refine hK _ ?_);clear hK K)
     | ((with_reducible apply Hg)
        ·first | exact Wg rfl rfl rfl | exact Wf rfl rfl rfl | exact We rfl rfl rfl | exact Wd rfl rfl rfl
        ·exact rfl
        ·exact rfl
        ·exact rfl
        intro K hK
        unfold Je;go_big_quiet_op;(with_reducible refine hK _ ?_);clear hK K)
     | ((with_reducible apply Lz)
        ·first | exact Wg rfl rfl rfl | exact Wf rfl rfl rfl | exact We rfl rfl rfl | exact Wd rfl rfl rfl
        apply Exists.intro;refine And.intro (fun hgb => ?_) ?_
        ·intro u;try simp at hgb
         go_simp
         try simp only [if_pos hsl]
         try simp only [if_pos (hin Qa)]
         try (simp only [hd0 Qa];go_simp)
         try (rw [hlook _ (Qb.trans Qu u.e) (hlk0 hgb)];go_simp)
         first
          | (with_reducible exact rfl)
          | (go_at_call 120;refine (Kt _ _).mono ?_;rintro e w' ⟨rfl,rfl⟩;exact ⟨rfl,u,rfl⟩)
        intro K hK;unfold Je;go_big_quiet_op;(with_reducible refine hK _ ?_);clear hK K))
    clear hne hry hrx hrx0;refine wpQuiet_nil ?_;intro wn hwn;obtain ⟨hcwn,hfwn,hzwn⟩:=Qb.rules hwn;try simp only [World.size_alloc] at hzwn
    have hk0wn:=fun o => hcwn (wo.heap.size) o Zv
    have hj0wn:=fun o => hfwn (wo.heap.size) o Zv
    have hl0wn : wo.heap.size < wn.heap.size:=Zv;obtain ⟨hcbwn,hfbwn,hzbwn⟩:=Qb.rules (show Qb wo wn from Qu);clear hcwn hfwn;generalize hg : (!Z9 (f k).g || (decide (0 < k) && !Jf (f (k - 1)).g (f k).g) || ((f k).n == 0) || decide (1099511627776 < (f k).n) || decide ((f k).n < -1099511627776)) = g at *;have E2 : Qb w wn:=hE.trans (((Qb.refl _).alloc _).trans hwn);cases g
    ·go_wp2
     exact ⟨⟨k + 1,by omega,by go_num,fun j hj => by
      by_cases e : j = k
      ·subst e;exact HK.out
      ·exact hall.out j Qa,E2⟩,by simp [intOf];omega⟩
    ·go_wp2;go_ret;exact ⟨U9 (Qjo hlt HK.out h64).symm,E2⟩
   ·obtain rfl : k = n := by omega
    go_wp2;go_ret;exact ⟨U9 (Qaj hall.out h64).symm,hE⟩
theorem Qga (T : Option Addr) (n cap : Nat) (f : Nat → Lt) (S : Option Addr) (m cm : Nat) (g : Nat → Lt) (w : World) (hT : Qs w T n 2 (Zw f)) (hcap : n ≤ cap) (hn : n ≤ 9223372036854775807) (hS : Qs w S m 2 (Zw g)) (hcm : m ≤ cm) (hm : m ≤ 9223372036854775807) :
  Calls Tryz.prog 110 #[.slice T n cap,.slice S m cm] w fun e w' => e = .returned (.int .i64 (Kd f n g m)) ∧ Qb w w':=by
 have N1:=Oa T n cap f w hT hcap hn;have N2:=fun w h => Oa S m cm g w h hcm hm
 unfold Kd;generalize Jy f n = a at *;generalize Jy g m = b at *;by_cases e0 : a = 0
 ·subst e0;rw [if_neg (by simp)]
  go_enter Tryz.func110,Tryz.ntmps110
  go_wp2_with (first | (go_at_call 68;(with_reducible refine zc (N1) ?_);rintro e w1 ⟨rfl,h1⟩) | (go_at_call 68;(with_reducible refine zc (N2 _ (hS.ext h1)) ?_);rintro e w2 ⟨rfl,h2⟩));go_ret;exact ⟨rfl,h1.trans h2⟩
 ·have g0 : (a == 0) = false := beq_eq_false_iff_ne.2 e0;have g0n : (a != 0) = true := by rw [bne, g0]; rfl
  rw [if_pos e0]
  go_enter Tryz.func110,Tryz.ntmps110
  go_wp2_with (go_at_call 68;(with_reducible refine zc (N1) ?_);rintro e w1 ⟨rfl,h1⟩);go_ret;exact ⟨rfl,h1⟩
theorem Qkp (x y : Lt) (w : World) : Calls Tryz.prog 114 #[.agg #[.string x.g,.int .i64 x.n],.agg #[.string y.g,.int .i64 y.n]] w fun e w' => e = .returned (.string (Wa x y)) ∧ Qb w w':=by
 have hne : ∀ (s : ByteArray) (w : World),(binOp .neq 9 (.string s) (.string { data:=#[] })).run Tryz.prog w = .ok (.bool (!(s.toList == ([] : List UInt8)))) w:=fun s w => by
  have h : (binOp .neq 9 (.string s) (.string { data:=#[] })).run Tryz.prog w = .ok (.bool (!(s.toList == ByteArray.toList { data:=#[] }))) w:=rfl;rw [h,Lib.toList_data { data:=#[] }]
 unfold Wa;by_cases h : x.g.size = 0
 ·rw [if_pos h]
  have g0 : (x.g.toList == ([] : List UInt8)) = true:=by
   have : x.g.toList = []:=by rw [← List.length_eq_zero_iff,Lib.toList_data];simpa using h
   rw [this];rfl
  clear h
  go_enter Tryz.func114,Tryz.ntmps114
  go_wp2;go_ret;exact ⟨rfl,Qu⟩
 ·rw [if_neg h]
  have g0 : (x.g.toList == ([] : List UInt8)) = false:=by
   rw [beq_eq_false_iff_ne];intro hh;apply h;have:=congrArg List.length hh;rw [Lib.toList_data] at this
   simpa using this
  clear h
  go_enter Tryz.func114,Tryz.ntmps114
  go_wp2;go_ret;exact ⟨rfl,Qu⟩
theorem Ct (x y : Lt) (w : World) : Calls Tryz.prog 112 #[.agg #[.string x.g,.int .i64 x.n],.agg #[.string y.g,.int .i64 y.n]] w fun e w' => e = .returned (.bool (Jf x.g y.g)) ∧ Qb w w':=by
 go_enter Tryz.func112,Tryz.ntmps112
 go_wp2;go_ret;exact ⟨Yn (bytesLess_eq _ _),Qu⟩
end
end Go.Proofs.YtoflcheopfppoaaGreatDoor

/- Walks and plain facts, packed; no conditions but those that each states. -/
import Derived.Test.YtoflcheopfppoaaGreatDoorK9
import Derived.Laws.StructEq
import Derived.SizedLaws
set_option maxRecDepth 100000
set_option maxHeartbeats 4000000
namespace Go.Proofs.YtoflcheopfppoaaGreatDoor
section
open Go Go.RowKit
theorem Qhz (w : World) (x0 y0 : ByteArray) (x1 y1 : Int) : (Op.equalIn 10000 85 (.agg #[.string x0,.int .i64 x1]) (.agg #[.string y0,.int .i64 y1])).run Tryz.prog w = .ok ((x0.toList == y0.toList) && (x1 == y1)) w:=by
 go_simp
 by_cases h0 : x0.toList = y0.toList;rotate_left
 ·simp [h0]
 by_cases h1 : x1 = y1;rotate_left
 ·simp [h1]
 simp [h0,h1]
theorem Da (w : World) (x0 y0 : ByteArray) (x1 y1 : Int) : (binOp .neq 85 (.agg #[.string x0,.int .i64 x1]) (.agg #[.string y0,.int .i64 y1])).run Tryz.prog w = .ok (.bool (!((x0.toList == y0.toList) && (x1 == y1)))) w:=by rw [run_neq_struct,Qhz];rfl
theorem Qh1 (w : World) (x0 y0 : Int) (x1 y1 : Int) : (Op.equalIn 10000 65 (.agg #[.int .i64 x0,.int .i64 x1]) (.agg #[.int .i64 y0,.int .i64 y1])).run Tryz.prog w = .ok ((x0 == y0) && (x1 == y1)) w:=by
 go_simp
 by_cases h0 : x0 = y0;rotate_left
 ·simp [h0]
 by_cases h1 : x1 = y1;rotate_left
 ·simp [h1]
 simp [h0,h1]
theorem Qlj (w : World) (x0 y0 : Int) (x1 y1 : Int) : (binOp .neq 65 (.agg #[.int .i64 x0,.int .i64 x1]) (.agg #[.int .i64 y0,.int .i64 y1])).run Tryz.prog w = .ok (.bool (!((x0 == y0) && (x1 == y1)))) w:=by rw [run_neq_struct,Qh1];rfl
theorem Qhw (w : World) (x0 y0 : Int) (x1 y1 : Int) (x2 y2 : Int) (x3 y3 : Int) (x4 y4 : Int) (x5 y5 : Int) : (Op.equalIn 10000 72 (.agg #[.int .i64 x0,.int .i64 x1,.int .i64 x2,.int .i64 x3,.int .i64 x4,.int .i64 x5]) (.agg #[.int .i64 y0,.int .i64 y1,.int .i64 y2,.int .i64 y3,.int .i64 y4,.int .i64 y5])).run Tryz.prog w = .ok ((x0 == y0) && ((x1 == y1) && ((x2 == y2) && ((x3 == y3) && ((x4 == y4) && (x5 == y5)))))) w:=by
 go_simp
 by_cases h0 : x0 = y0;rotate_left
 ·simp [h0]
 by_cases h1 : x1 = y1;rotate_left
 ·simp [h1]
 by_cases h2 : x2 = y2;rotate_left
 ·simp [h2]
 by_cases h3 : x3 = y3;rotate_left
 ·simp [h3]
 by_cases h4 : x4 = y4;rotate_left
 ·simp [h4]
 by_cases h5 : x5 = y5;rotate_left
 ·simp [h5]
 simp [h0,h1,h2,h3,h4,h5]
theorem Qlg (w : World) (x0 y0 : Int) (x1 y1 : Int) (x2 y2 : Int) (x3 y3 : Int) (x4 y4 : Int) (x5 y5 : Int) : (binOp .neq 72 (.agg #[.int .i64 x0,.int .i64 x1,.int .i64 x2,.int .i64 x3,.int .i64 x4,.int .i64 x5]) (.agg #[.int .i64 y0,.int .i64 y1,.int .i64 y2,.int .i64 y3,.int .i64 y4,.int .i64 y5])).run Tryz.prog w = .ok (.bool (!((x0 == y0) && ((x1 == y1) && ((x2 == y2) && ((x3 == y3) && ((x4 == y4) && (x5 == y5)))))))) w:=by rw [run_neq_struct,Qhw];rfl
theorem Qhx (w : World) (x0 y0 : Int) (x1 y1 : Int) (x2 y2 : Int) : (Op.equalIn 10000 116 (.agg #[.int .i64 x0,.int .i64 x1,.int .i64 x2]) (.agg #[.int .i64 y0,.int .i64 y1,.int .i64 y2])).run Tryz.prog w = .ok ((x0 == y0) && ((x1 == y1) && (x2 == y2))) w:=by
 go_simp
 by_cases h0 : x0 = y0;rotate_left
 ·simp [h0]
 by_cases h1 : x1 = y1;rotate_left
 ·simp [h1]
 by_cases h2 : x2 = y2;rotate_left
 ·simp [h2]
 simp [h0,h1,h2]
theorem Qlh (w : World) (x0 y0 : Int) (x1 y1 : Int) (x2 y2 : Int) : (binOp .neq 116 (.agg #[.int .i64 x0,.int .i64 x1,.int .i64 x2]) (.agg #[.int .i64 y0,.int .i64 y1,.int .i64 y2])).run Tryz.prog w = .ok (.bool (!((x0 == y0) && ((x1 == y1) && (x2 == y2))))) w:=by rw [run_neq_struct,Qhx];rfl
end
section
open Go Go.RowKit Go.Shelf
attribute [local go_sem] Z8
attribute [local go_sem high] Da
theorem Bd (v1 v2 : Value) (l : List Lt) (w : World) (h1 : Zl w v1 l) (h2 : Zl w v2 l) :
  Calls Tryz.prog 53 #[v1,v2] w fun e w' => e = .returned (.bool true) ∧ Qc w w':=by
 obtain ⟨A,ca,rfl,hA,hca,hca',_⟩:=h1;obtain ⟨B,cb,rfl,hB,hcb,hcb',_⟩:=h2;have hn : l.length ≤ 9223372036854775807:=Nat.le_trans hca (Nat.le_trans hca' zD);clear hca hca' hcb hcb';generalize l.length = n at *;generalize Q8 l = f at *
 go_enter Tryz.func53,Tryz.ntmps53
 go_upto_region 4 with fail
 go_loopw [5] (fun i wr => ∃ k : Nat,k ≤ n ∧ i = .int .i64 k ∧ Qc w wr) (fun i _ => n - (intOf i).toNat)
 case atStart => exact ⟨0,Nat.zero_le _,rfl,Qc.refl _⟩
 case round =>
  obtain ⟨k,hk,rfl,hE⟩:=hrel;obtain ⟨wo,rfl⟩:=Qe wr;by_cases hlt : k < n
  ·obtain ⟨b, off, rfl, hb, hc⟩ := (hA.ext hE) Qa;have c0 : wo.cell? ⟨b, off + k * 2, none⟩ = some (.string (f k).g) := by simpa [Q5] using hc k 0 _ hlt rfl
   have c1 : wo.cell? ⟨b,off + k * 2 + 1,none⟩ = some (.int .i64 (f k).n):=by simpa [Q5] using hc k 1 _ hlt rfl
   clear hc;obtain ⟨b2,off2,rfl,hb2,hc⟩:=(hB.ext hE) Qa;have d0 : wo.cell? ⟨b2,off2 + k * 2,none⟩ = some (.string (f k).g):=by simpa [Q5] using hc k 0 _ hlt rfl
   have d1 : wo.cell? ⟨b2,off2 + k * 2 + 1,none⟩ = some (.int .i64 (f k).n):=by simpa [Q5] using hc k 1 _ hlt rfl
   clear hc hA hB;generalize (f k).g = s at *;generalize (f k).n = z at *;go_upto_region 6 with fail
   refine Qy wo ?_;intro w2 h2;obtain ⟨_,_,_,_⟩:=Qv wo h2;go_wp2;exact ⟨⟨k + 1,Qa,by go_num,hE.trans h2⟩,zi⟩
  ·obtain rfl : k = n:=Qa;go_wp2;go_ret;exact ⟨rfl,hE⟩
theorem G5 (v : Value) (l : List Lt) (w : World) (hL : Zl w v l) (hsz : l.length * 24 ≤ 140737488351232) :
  Calls Tryz.prog 77 #[v] w fun e w' => ∃ v',e = .returned v' ∧ Qc w w' ∧ w'.ownsRow w.heap.size 85 2 v' l.length (l.flatMap Jq):=by
 have hfl:=Pe l;obtain ⟨T,cap,rfl,hT,hcap,hmax,hnil⟩:=hL;obtain ⟨i0,hi,hz0,hz1,hz2⟩:=info_parts Qak;have hlen:=Wm (f:=Q5 (Q8 l)) (sz:=2) (fun _ => rfl) l.length;have hone : ∀ u ∈ Z2 (Q5 (Q8 l)) l.length,u.oneCell' = true:=Pf (f:=Q5 (Q8 l)) (n:=l.length) (fun i u hu => by simp [Q5] at hu;rcases hu with rfl | rfl <;> simp [Value.oneCell'])
 go_enter Tryz.func77,Tryz.ntmps77
 go_upto_region 2 with fail
 go_wp2_with (at_builtin;refine Cg rfl _ _ 52 rfl w.heap.size 85 i0 (.agg #[.string ⟨#[]⟩,.int .i64 0]) 2 24 Tryz.underlying52 hi hz0 hz1 hz2 rfl zD rfl T l.length cap (Z2 (Q5 (Q8 l)) l.length) rfl hnil hlen (Fa (f:=Q5 (Q8 l)) (sz:=2) (fun _ => rfl) zD hT) hone (by unfold maxLen;omega) Qa (Nat.le_refl _) ?_;intro p w3 hP hgrow);have hx : Qc w w3:=(Qc.refl _).grown hgrow (fun q hq => by cases hq);clear hgrow;rw [← hfl] at hP;go_ret;exact ⟨_,rfl,hx,hP⟩
theorem Sr (v : Value) (l : List Lt) (w : World) (hL : Zl w v l) :
  Calls Tryz.prog 170 #[v] w fun e w' => e = .returned (.int .i64 (Yx l)) ∧ Qc w w':=by
 obtain ⟨T,cap,rfl,hT,hcap,hmax,_⟩:=hL;exact Sm T l.length cap (Q8 l) w hT hcap (Nat.le_trans hcap (Nat.le_trans hmax zD))
end
section
open Go Go.RowKit Go.Shelf
attribute [local go_sem] Z8
theorem Qiw {W : World} {b : Nat} {t : TypeId} {v0 v1 v2 v3 : Value} (h : Qb W b t #[v0,v1,v2,v3]) (u0 u1 u2 u3 : Value) : Qb ((((W.setCell ⟨b,0,none⟩ u0).setCell ⟨b,1,none⟩ u1).setCell ⟨b,2,none⟩ u2).setCell ⟨b,3,none⟩ u3) b t #[u0,u1,u2,u3]:=by unfold Qb at h ⊢;simp [World.setCell,Array.getElem?_modify,h]
theorem ext4Q {w W : World} {b : Nat} (h : Qc w W) (hb : w.heap.size ≤ b) (u0 u1 u2 u3 : Value) : Qc w ((((W.setCell ⟨b,0,none⟩ u0).setCell ⟨b,1,none⟩ u1).setCell ⟨b,2,none⟩ u2).setCell ⟨b,3,none⟩ u3) :=
 (((h.setCell (p:=⟨b,0,none⟩) hb u0).setCell (p:=⟨b,1,none⟩) hb u1).setCell (p:=⟨b,2,none⟩) hb u2).setCell (p:=⟨b,3,none⟩) hb u3
def Qd.lastT (p : Pd) : Nat → Dt
 | 0 => p.a
 | k + 1 => (p.dl k).on
theorem Qi3 {W : World} {b : Nat} {t : TypeId} {v0 v1 v2 v3 v4 v5 v6 : Value} (h : Qb W b t #[v0,v1,v2,v3,v4,v5,v6]) : W.cell? ⟨b,0,none⟩ = some v0 ∧ W.cell? ⟨b,1,none⟩ = some v1 ∧ W.cell? ⟨b,2,none⟩ = some v2 ∧ W.cell? ⟨b,3,none⟩ = some v3 ∧ W.cell? ⟨b,4,none⟩ = some v4 ∧ W.cell? ⟨b,5,none⟩ = some v5 ∧ W.cell? ⟨b,6,none⟩ = some v6:=⟨h.cell 0,h.cell 1,h.cell 2,h.cell 3,h.cell 4,h.cell 5,h.cell 6⟩
theorem Qfd {l : List Lt} {j : Nat} (hj : j < l.length) (h : (Q8 l j).n < 0) : (l.any fun x => decide (x.n < 0)) = true:=by
 rw [List.any_eq_true];exact ⟨Q8 l j,by rw [Ls hj];exact List.getElem_mem hj,zt h⟩
theorem Qlo {l : List Lt} (h : ∀ i,i < l.length → 0 ≤ (Q8 l i).n) : (l.any fun x => decide (x.n < 0)) = false:=by
 rw [List.any_eq_false];intro x hx;obtain ⟨i,hi,rfl⟩:=List.getElem_of_mem hx;have:=h i hi;rw [Ls hi] at this
 simpa using this
theorem Qj3 (c : Qd) (p : Pd) (k : Nat) : c.numV (Qd.lastT p k) = c.lastD p k:=by cases k <;> rfl
theorem Qmd (A A' : OA) (ca cb : Nat) (c : Qd) (p : Pd) (vo vd vc : Value) (w : World) (hC : Za w A ca A' cb c) (hv : c.valid = true) (hP : Wb w p vo vd vc) :
  Calls Tryz.prog 130 #[.agg #[.slice A c.nk ca,.slice A' c.ny cb],.agg #[.string p.h,.int .i64 p.a.y,.int .i64 p.a.m,.bool p.a.s,.int .i64 p.a.d,.int .i64 p.b.y,.int .i64 p.b.m,.bool p.b.s,.int .i64 p.b.d,vo,vd,vc]] w fun e w' => e = .returned (.bool (c.perOk p)) ∧ Qc w w':=by
 obtain ⟨hO,hDD,hCC⟩:=hP;obtain ⟨T0,cc0,rfl,_⟩:=id hO;obtain ⟨T1,cc1,rfl,_⟩:=id hCC;obtain ⟨D,cap,vs,rfl,hD,hcap,hmax,_,hat⟩:=hDD;have hn : p.d.length ≤ 9223372036854775807:=Nat.le_trans hcap (Nat.le_trans hmax zD);obtain ⟨n,hnl⟩:=Qe (p.d.length);rw [← hnl] at hn hD hat hcap;replace hnl:=zh hnl;have NN:=fun w => Oq p.h w
 have NI:=fun v (h : Za v A ca A' cb c) => Om A A' ca cb c p.a p.b v h hv
 have NO:=fun w h => Sr (.slice T0 p.o.length cc0) p.o w h
 have NK:=fun w h => Sr (.slice T1 p.c.length cc1) p.c w h
 obtain ⟨R,hR0⟩:=Qe (c.perOk p);rw [← hR0];replace hR0:=zh hR0;have hhd : Hid (c.perHead p = (Zu p.h && (decide (0 < c.numV p.a) && decide (c.numV p.a ≤ c.numV p.b)) && decide (Yx p.o = 0) && decide (Yx p.c = 0) && decide (n ≤ 64))):=by unfold Hid;rw [hnl.out];rfl
 have hbad : Hid (c.perHead p = false → R = false):=fun h => by rw [hR0.out];exact Qc0 h
 rw [← hnl.out]
 go_enter Tryz.func130,Tryz.ntmps130
 go_upto_region 1 with fail
 obtain ⟨v,b1,b2,E,B1,B2,hbr1,hbr,hn21,hv,hb1,hb2⟩:=Jy w 25 #[.slice A c.nk ca,.slice A' c.ny cb] 55 #[.string p.h,.int .i64 p.a.y,.int .i64 p.a.m,.bool p.a.s,.int .i64 p.a.d,.int .i64 p.b.y,.int .i64 p.b.m,.bool p.b.s,.int .i64 p.b.d,.slice T0 p.o.length cc0,.slice D n cap,.slice T1 p.c.length cc1];rw [← hv,← hb2,← hb1];clear hv hb1 hb2;have C:=hC.ext E;have O:=hO.ext E;have K:=hCC.ext E;have DD:=hD.ext E;clear hC hO hCC;obtain ⟨j0,j1,jl⟩:=Qb.d2 B1;obtain ⟨k0,k1,k2,k3,k4,k5,k6,k7,k8,k9,k10,k11,kl⟩:=Qb.d12 B2;cases hnm : Zu p.h
 ·simp only [hnm] at NN;have hr:=hbad.out (by rw [hhd.out];simp [hnm]);subst hr;clear hbad hhd hR0;go_wp2_with (first | (go_at_call 167;refine zc (NN _) ?_;rintro e _ ⟨rfl,rfl⟩));go_ret;exact ⟨rfl,E⟩
 simp only [hnm] at NN;cases hsp : (decide (0 < c.numV p.a) && decide (c.numV p.a ≤ c.numV p.b))
 ·simp only [hsp] at NI;have hr:=hbad.out (by rw [hhd.out];rw [hsp];simp);subst hr;clear hbad hhd hR0;go_wp2_with (first | (go_at_call 167;refine zc (NN _) ?_;rintro e _ ⟨rfl,rfl⟩) | (go_at_call 106;refine zc (NI _ C) ?_;rintro e w2 ⟨rfl,hx⟩;replace E:=E.trans hx;replace C:=C.ext hx;replace O:=O.ext hx;replace K:=K.ext hx;replace DD:=DD.ext hx;replace B1:=B1.ext hx;replace B2:=B2.ext hx;clear hx;clear j0 j1 jl k0 k1 k2 k3 k4 k5 k6 k7 k8 k9 k10 k11 kl;obtain ⟨j0,j1⟩:=B1.c2;have jl:=B1.lt;obtain ⟨k0,k1,k2,k3,k4,k5,k6,k7,k8,k9,k10,k11⟩:=B2.c12;have kl:=B2.lt));go_ret;exact ⟨rfl,E⟩
 simp only [hsp] at NI;by_cases hlo : Yx p.o = 0;rotate_left
 ·have go : (Yx p.o == 0) = false := zb hlo;have gon : (Yx p.o != 0) = true := by rw [bne, go]; rfl
  have hr:=hbad.out (by rw [hhd.out];simp [hlo]);subst hr;clear hbad hhd hR0;go_wp2_with (first | (go_at_call 167;refine zc (NN _) ?_;rintro e _ ⟨rfl,rfl⟩) | (go_at_call 106;refine zc (NI _ C) ?_;rintro e w2 ⟨rfl,hx⟩;replace E:=E.trans hx;replace C:=C.ext hx;replace O:=O.ext hx;replace K:=K.ext hx;replace DD:=DD.ext hx;replace B1:=B1.ext hx;replace B2:=B2.ext hx;clear hx;clear j0 j1 jl k0 k1 k2 k3 k4 k5 k6 k7 k8 k9 k10 k11 kl;obtain ⟨j0,j1⟩:=B1.c2;have jl:=B1.lt;obtain ⟨k0,k1,k2,k3,k4,k5,k6,k7,k8,k9,k10,k11⟩:=B2.c12;have kl:=B2.lt) | (go_at_call 170;refine zc (NO _ O) ?_;rintro e w3 ⟨rfl,hx⟩;replace E:=E.trans hx;replace C:=C.ext hx;replace O:=O.ext hx;replace K:=K.ext hx;replace DD:=DD.ext hx;replace B1:=B1.ext hx;replace B2:=B2.ext hx;clear hx;clear j0 j1 jl k0 k1 k2 k3 k4 k5 k6 k7 k8 k9 k10 k11 kl;obtain ⟨j0,j1⟩:=B1.c2;have jl:=B1.lt;obtain ⟨k0,k1,k2,k3,k4,k5,k6,k7,k8,k9,k10,k11⟩:=B2.c12;have kl:=B2.lt))
  go_ret;exact ⟨rfl,E⟩
 rw [hlo] at NO;by_cases hlc : Yx p.c = 0;rotate_left
 ·have gc : (Yx p.c == 0) = false := zb hlc;have gcn : (Yx p.c != 0) = true := by rw [bne, gc]; rfl
  have hr:=hbad.out (by rw [hhd.out];simp [hlc]);subst hr;clear hbad hhd hR0;go_wp2_with (first | (go_at_call 167;refine zc (NN _) ?_;rintro e _ ⟨rfl,rfl⟩) | (go_at_call 106;refine zc (NI _ C) ?_;rintro e w2 ⟨rfl,hx⟩;replace E:=E.trans hx;replace C:=C.ext hx;replace O:=O.ext hx;replace K:=K.ext hx;replace DD:=DD.ext hx;replace B1:=B1.ext hx;replace B2:=B2.ext hx;clear hx;clear j0 j1 jl k0 k1 k2 k3 k4 k5 k6 k7 k8 k9 k10 k11 kl;obtain ⟨j0,j1⟩:=B1.c2;have jl:=B1.lt;obtain ⟨k0,k1,k2,k3,k4,k5,k6,k7,k8,k9,k10,k11⟩:=B2.c12;have kl:=B2.lt) | (go_at_call 170;(with_reducible refine zc (NO _ O) ?_);rintro e w3 ⟨rfl,hx⟩;replace E:=E.trans hx;replace C:=C.ext hx;replace O:=O.ext hx;replace K:=K.ext hx;replace DD:=DD.ext hx;replace B1:=B1.ext hx;replace B2:=B2.ext hx;clear hx;clear j0 j1 jl k0 k1 k2 k3 k4 k5 k6 k7 k8 k9 k10 k11 kl;obtain ⟨j0,j1⟩:=B1.c2;have jl:=B1.lt;obtain ⟨k0,k1,k2,k3,k4,k5,k6,k7,k8,k9,k10,k11⟩:=B2.c12;have kl:=B2.lt) | (go_at_call 170;(with_reducible refine zc (NK _ K) ?_);rintro e w4 ⟨rfl,hx⟩;replace E:=E.trans hx;replace C:=C.ext hx;replace O:=O.ext hx;replace K:=K.ext hx;replace DD:=DD.ext hx;replace B1:=B1.ext hx;replace B2:=B2.ext hx;clear hx;clear j0 j1 jl k0 k1 k2 k3 k4 k5 k6 k7 k8 k9 k10 k11 kl;obtain ⟨j0,j1⟩:=B1.c2;have jl:=B1.lt;obtain ⟨k0,k1,k2,k3,k4,k5,k6,k7,k8,k9,k10,k11⟩:=B2.c12;have kl:=B2.lt))
  go_ret;exact ⟨rfl,E⟩
 rw [hlc] at NK;by_cases h64 : 64 < n
 ·have g1 : decide (64 < n) = true:=zt h64;have h64' : ¬ n ≤ 64:=Qa;have hr:=hbad.out (by rw [hhd.out];simp [h64']);subst hr;clear hbad hhd hR0;go_wp2_with (first | (go_at_call 167;refine zc (NN _) ?_;rintro e _ ⟨rfl,rfl⟩) | (go_at_call 106;refine zc (NI _ C) ?_;rintro e w2 ⟨rfl,hx⟩;replace E:=E.trans hx;replace C:=C.ext hx;replace O:=O.ext hx;replace K:=K.ext hx;replace DD:=DD.ext hx;replace B1:=B1.ext hx;replace B2:=B2.ext hx;clear hx;clear j0 j1 jl k0 k1 k2 k3 k4 k5 k6 k7 k8 k9 k10 k11 kl;obtain ⟨j0,j1⟩:=B1.c2;have jl:=B1.lt;obtain ⟨k0,k1,k2,k3,k4,k5,k6,k7,k8,k9,k10,k11⟩:=B2.c12;have kl:=B2.lt) | (go_at_call 170;(with_reducible refine zc (NO _ O) ?_);rintro e w3 ⟨rfl,hx⟩;replace E:=E.trans hx;replace C:=C.ext hx;replace O:=O.ext hx;replace K:=K.ext hx;replace DD:=DD.ext hx;replace B1:=B1.ext hx;replace B2:=B2.ext hx;clear hx;clear j0 j1 jl k0 k1 k2 k3 k4 k5 k6 k7 k8 k9 k10 k11 kl;obtain ⟨j0,j1⟩:=B1.c2;have jl:=B1.lt;obtain ⟨k0,k1,k2,k3,k4,k5,k6,k7,k8,k9,k10,k11⟩:=B2.c12;have kl:=B2.lt) | (go_at_call 170;(with_reducible refine zc (NK _ K) ?_);rintro e w4 ⟨rfl,hx⟩;replace E:=E.trans hx;replace C:=C.ext hx;replace O:=O.ext hx;replace K:=K.ext hx;replace DD:=DD.ext hx;replace B1:=B1.ext hx;replace B2:=B2.ext hx;clear hx;clear j0 j1 jl k0 k1 k2 k3 k4 k5 k6 k7 k8 k9 k10 k11 kl;obtain ⟨j0,j1⟩:=B1.c2;have jl:=B1.lt;obtain ⟨k0,k1,k2,k3,k4,k5,k6,k7,k8,k9,k10,k11⟩:=B2.c12;have kl:=B2.lt))
  go_ret;exact ⟨rfl,E⟩
 have g1 : decide (64 < n) = false:=zf h64
 have hhead : c.perHead p = true:=by
  rw [hhd.out,hnm,hsp,zt hlo,zt hlc,zt (show n ≤ 64 by omega)];rfl
 have hpa : 0 < c.numV (Qd.lastT p 0):=by
  have:=(Bool.and_eq_true_iff.1 hsp).1;exact of_decide_eq_true this
 clear hbad hhd hnm hsp hlo hlc;go_upto_region 4 with (first | (go_at_call 167;refine zc (NN _) ?_;rintro e _ ⟨rfl,rfl⟩) | (go_at_call 106;refine zc (NI _ C) ?_;rintro e w2 ⟨rfl,hx⟩;replace E:=E.trans hx;replace C:=C.ext hx;replace O:=O.ext hx;replace K:=K.ext hx;replace DD:=DD.ext hx;replace B1:=B1.ext hx;replace B2:=B2.ext hx;clear hx;clear j0 j1 jl k0 k1 k2 k3 k4 k5 k6 k7 k8 k9 k10 k11 kl;obtain ⟨j0,j1⟩:=B1.c2;have jl:=B1.lt;obtain ⟨k0,k1,k2,k3,k4,k5,k6,k7,k8,k9,k10,k11⟩:=B2.c12;have kl:=B2.lt) | (go_at_call 170;(with_reducible refine zc (NO _ O) ?_);rintro e w3 ⟨rfl,hx⟩;replace E:=E.trans hx;replace C:=C.ext hx;replace O:=O.ext hx;replace K:=K.ext hx;replace DD:=DD.ext hx;replace B1:=B1.ext hx;replace B2:=B2.ext hx;clear hx;clear j0 j1 jl k0 k1 k2 k3 k4 k5 k6 k7 k8 k9 k10 k11 kl;obtain ⟨j0,j1⟩:=B1.c2;have jl:=B1.lt;obtain ⟨k0,k1,k2,k3,k4,k5,k6,k7,k8,k9,k10,k11⟩:=B2.c12;have kl:=B2.lt) | (go_at_call 170;(with_reducible refine zc (NK _ K) ?_);rintro e w4 ⟨rfl,hx⟩;replace E:=E.trans hx;replace C:=C.ext hx;replace O:=O.ext hx;replace K:=K.ext hx;replace DD:=DD.ext hx;replace B1:=B1.ext hx;replace B2:=B2.ext hx;clear hx;clear j0 j1 jl k0 k1 k2 k3 k4 k5 k6 k7 k8 k9 k10 k11 kl;obtain ⟨j0,j1⟩:=B1.c2;have jl:=B1.lt;obtain ⟨k0,k1,k2,k3,k4,k5,k6,k7,k8,k9,k10,k11⟩:=B2.c12;have kl:=B2.lt))
 have hE5:=E.size;obtain ⟨v5,hv⟩:=Qe (w4.alloc (.cells #[.int .i64 p.a.y,.int .i64 p.a.m,.bool p.a.s,.int .i64 p.a.d] 51));rw [← hv];have hx : Qc w4 v5:=by rw [hv];exact (Qc.refl _).alloc _
 have BL : Qb v5 w4.heap.size 51 #[.int .i64 p.a.y,.int .i64 p.a.m,.bool p.a.s,.int .i64 p.a.d]:=by rw [hv];exact Qb.new _ _ _
 clear hv;obtain ⟨bl,hbl⟩:=Qe (w4.heap.size);rw [← hbl] at BL ⊢;replace hE5 : w4.heap.size ≤ bl:=Qa;clear hbl;clear j0 j1 jl k0 k1 k2 k3 k4 k5 k6 k7 k8 k9 k10 k11 kl;clear NN NI NO NK;obtain ⟨g,hg⟩:=Qe (fun i => p.d.getD i Zd);have hg' : ∀ i,p.d.getD i Zd = g i:=fun i => by rw [hg]
 have hdk : Hid (∀ k,c.dealOk p k = !(decide (c.numV (g k).on < c.lastD p k) || decide (c.numV p.b < c.numV (g k).on) || !Zu (g k).w || decide ((g k).w = p.h) || !Wd (g k).l)):=fun k => by rw [← hg' k];rfl
 have hgo : Hid (∀ k,(g k).on = Qd.lastT p (k + 1)):=fun k => by rw [← hg' k];rfl
 simp only [hg'] at hD hat DD;clear hg hg';replace hat:=zh hat;have C0:=C;have A2':=B2;have A1':=B1;clear C O K B1 B2;go_upto_region 5 with fail
 go_loopw [6] (fun iv wr => ∃ k : Nat,k ≤ n ∧ iv = .int .i64 k ∧ Hid (∀ j,j < k → c.dealOk p j = true) ∧ 0 < c.numV (Qd.lastT p k) ∧ Qc w4 wr ∧ Qb wr bl 51 #[.int .i64 (Qd.lastT p k).y,.int .i64 (Qd.lastT p k).m,.bool (Qd.lastT p k).s,.int .i64 (Qd.lastT p k).d]) (fun iv _ => n - (intOf iv).toNat)
 case atStart => exact ⟨0,Nat.zero_le _,rfl,(fun j h => absurd h Qa),hpa,hx,BL⟩
 case round =>
  clear hpa hx BL;obtain ⟨k,hk,rfl,hok,hpos,hE,BL⟩:=hrel;obtain ⟨wo,rfl⟩:=Qe wr;have C:=C0.ext hE;have B1:=A1'.ext hE;have B2:=A2'.ext hE;obtain ⟨j0,j1,jl⟩:=Qb.d2 B1;obtain ⟨k0,k1,k2,k3,k4,k5,k6,k7,k8,k9,k10,k11,kl⟩:=Qb.d12 B2;obtain ⟨m0,m1,m2,m3,ml⟩:=Qb.d4 BL;by_cases hlt : k < n;rotate_left
  ·obtain rfl : k = n := Qa;have hr : R = true := by rw [hR0.out]; exact Qme hhead (fun j hj => hok.out j (by rw [hnl.out]; exact hj))
   subst hr;clear hok hdk hat hgo;go_wp2;go_ret;exact ⟨rfl,E.trans hE⟩
  obtain ⟨b,off,rfl,hb,hc⟩:=(DD.ext hE) Qa;have hL:=(hat.out k hlt).ext (E.trans hE);obtain ⟨c0,c1,c2,c3,c4,c5,c6⟩:=zp7 hc hlt;have hno : Hid (c.dealOk p k = false → R = false):=fun h => by rw [hR0.out];exact Qmf (by rw [← hnl.out];exact hlt) h
  have hyes : Hid (c.dealOk p k = true → ∀ j,j < k + 1 → c.dealOk p j = true):=fun h j hj => by
   by_cases e : j = k
   ·subst e;exact h
   ·exact hok.out j Qa
  have hdk2:=zh (hdk.out k);have hgo2:=zh (hgo.out k);have hln:=zh (Qj3 c p k);obtain ⟨VL,hvl⟩:=Qe (vs k);rw [← hvl] at c6 hL;clear hvl hc hdk hgo hat hD DD hok;obtain ⟨TL,cl,hVL,_⟩:=id hL;subst hVL;have NI1:=fun v (h : Za v A ca A' cb c) => Om A A' ca cb c (Qd.lastT p k) (g k).on v h hv
  have NI2:=fun v (h : Za v A ca A' cb c) => Om A A' ca cb c (g k).on p.b v h hv
  have NNK:=fun w => Oq (g k).w w
  have NCK:=fun w h => Sr (.slice TL (g k).l.length cl) (g k).l w h
  rw [zt hpos,Bool.true_and] at NI1;have hbs : wo.heap.size ≠ bl:=by have:=BL.lt;omega
  go_upto_region 8 with fail
  obtain ⟨vd1,hv⟩:=Qe (wo.alloc (.cells #[.int .i64 (g k).on.y,.int .i64 (g k).on.m,.bool (g k).on.s,.int .i64 (g k).on.d,.bool (g k).i,.string (g k).w,.slice TL (g k).l.length cl] 57));rw [← hv];have hx : Qc wo vd1:=by rw [hv];exact (Qc.refl _).alloc _
  have BD : Qb vd1 wo.heap.size 57 #[.int .i64 (g k).on.y,.int .i64 (g k).on.m,.bool (g k).on.s,.int .i64 (g k).on.d,.bool (g k).i,.string (g k).w,.slice TL (g k).l.length cl]:=by rw [hv];exact Qb.new _ _ _
  clear hv;generalize wo.heap.size = bb1 at *;clear j0 j1 jl k0 k1 k2 k3 k4 k5 k6 k7 k8 k9 k10 k11 kl m0 m1 m2 m3 ml;replace hE:=hE.trans hx;replace C:=C.ext hx;replace hL:=hL.ext hx;replace B1:=B1.ext hx;replace B2:=B2.ext hx;replace BL:=BL.ext hx;clear hx;obtain ⟨j0,j1,jl⟩:=Qb.d2 B1;obtain ⟨k0,k1,k2,k3,k4,k5,k6,k7,k8,k9,k10,k11,kl⟩:=Qb.d12 B2;obtain ⟨m0,m1,m2,m3,ml⟩:=Qb.d4 BL;obtain ⟨q0,q1,q2,q3,q4,q5,q6,ql⟩:=Qb.d7 BD;clear c0 c1 c2 c3 c4 c5 c6 hb;generalize hla : Qd.lastT p k = la at *;clear hla;by_cases h1 : c.numV la ≤ c.numV (g k).on;rotate_left
  ·rw [zf h1] at NI1;have hr := hno.out (by rw [hdk2.out]; rw [← hln.out, zt (show c.numV (g k).on < c.numV la by omega)]; rfl);subst hr;clear hno hyes hdk2;go_wp2_with (first | (go_at_call 106; refine zc (NI1 _ C) ?_; rintro e x1 ⟨rfl, hx⟩; replace hE := hE.trans hx; replace C := C.ext hx; replace hL := hL.ext hx; replace B1 := B1.ext hx; replace B2 := B2.ext hx; replace BL := BL.ext hx; replace BD := BD.ext hx; clear hx; clear j0 j1 jl k0 k1 k2 k3 k4 k5 k6 k7 k8 k9 k10 k11 kl m0 m1 m2 m3 ml q0 q1 q2 q3 q4 q5 q6 ql; obtain ⟨j0, j1⟩ := B1.c2; have jl := B1.lt; obtain ⟨k0, k1, k2, k3, k4, k5, k6, k7, k8, k9, k10, k11⟩ := B2.c12; have kl := B2.lt; obtain ⟨m0, m1, m2, m3⟩ := BL.c4; have ml := BL.lt; obtain ⟨q0, q1, q2, q3, q4, q5, q6⟩ := We BD; have ql := BD.lt))
   go_ret;exact ⟨rfl,E.trans hE⟩
  rw [zt h1] at NI1;have hpk : 0 < c.numV (g k).on:=Qa;rw [zt hpk,Bool.true_and] at NI2;by_cases h2 : c.numV (g k).on ≤ c.numV p.b;rotate_left
  ·rw [zf h2] at NI2;have hr := hno.out (by rw [hdk2.out]; rw [zt (show c.numV p.b < c.numV (g k).on by omega)]; simp);subst hr;clear hno hyes hdk2;go_wp2_with (first | (go_at_call 106; (with_reducible refine zc (NI1 _ C) ?_); rintro e x1 ⟨rfl, hx⟩; replace hE := hE.trans hx; replace C := C.ext hx; replace hL := hL.ext hx; replace B1 := B1.ext hx; replace B2 := B2.ext hx; replace BL := BL.ext hx; replace BD := BD.ext hx; clear hx; clear j0 j1 jl k0 k1 k2 k3 k4 k5 k6 k7 k8 k9 k10 k11 kl m0 m1 m2 m3 ml q0 q1 q2 q3 q4 q5 q6 ql; obtain ⟨j0, j1⟩ := B1.c2; have jl := B1.lt; obtain ⟨k0, k1, k2, k3, k4, k5, k6, k7, k8, k9, k10, k11⟩ := B2.c12; have kl := B2.lt; obtain ⟨m0, m1, m2, m3⟩ := BL.c4; have ml := BL.lt; obtain ⟨q0, q1, q2, q3, q4, q5, q6⟩ := We BD; have ql := BD.lt) | (go_at_call 106; (with_reducible refine zc (NI2 _ C) ?_); rintro e x2 ⟨rfl, hx⟩; replace hE := hE.trans hx; replace C := C.ext hx; replace hL := hL.ext hx; replace B1 := B1.ext hx; replace B2 := B2.ext hx; replace BL := BL.ext hx; replace BD := BD.ext hx; clear hx; clear j0 j1 jl k0 k1 k2 k3 k4 k5 k6 k7 k8 k9 k10 k11 kl m0 m1 m2 m3 ml q0 q1 q2 q3 q4 q5 q6 ql; obtain ⟨j0, j1⟩ := B1.c2; have jl := B1.lt; obtain ⟨k0, k1, k2, k3, k4, k5, k6, k7, k8, k9, k10, k11⟩ := B2.c12; have kl := B2.lt; obtain ⟨m0, m1, m2, m3⟩ := BL.c4; have ml := BL.lt; obtain ⟨q0, q1, q2, q3, q4, q5, q6⟩ := We BD; have ql := BD.lt))
   go_ret;exact ⟨rfl,E.trans hE⟩
  rw [zt h2] at NI2;cases h3 : Zu (g k).w
  ·simp only [h3] at NNK;have hr:=hno.out (by rw [hdk2.out];rw [h3];simp);subst hr;clear hno hyes hdk2;go_wp2_with (first | (go_at_call 106;(with_reducible refine zc (NI1 _ C) ?_);rintro e x1 ⟨rfl,hx⟩;replace hE:=hE.trans hx;replace C:=C.ext hx;replace hL:=hL.ext hx;replace B1:=B1.ext hx;replace B2:=B2.ext hx;replace BL:=BL.ext hx;replace BD:=BD.ext hx;clear hx;clear j0 j1 jl k0 k1 k2 k3 k4 k5 k6 k7 k8 k9 k10 k11 kl m0 m1 m2 m3 ml q0 q1 q2 q3 q4 q5 q6 ql;obtain ⟨j0,j1⟩:=B1.c2;have jl:=B1.lt;obtain ⟨k0,k1,k2,k3,k4,k5,k6,k7,k8,k9,k10,k11⟩:=B2.c12;have kl:=B2.lt;obtain ⟨m0,m1,m2,m3⟩:=BL.c4;have ml:=BL.lt;obtain ⟨q0,q1,q2,q3,q4,q5,q6⟩:=We BD;have ql:=BD.lt) | (go_at_call 106;(with_reducible refine zc (NI2 _ C) ?_);rintro e x2 ⟨rfl,hx⟩;replace hE:=hE.trans hx;replace C:=C.ext hx;replace hL:=hL.ext hx;replace B1:=B1.ext hx;replace B2:=B2.ext hx;replace BL:=BL.ext hx;replace BD:=BD.ext hx;clear hx;clear j0 j1 jl k0 k1 k2 k3 k4 k5 k6 k7 k8 k9 k10 k11 kl m0 m1 m2 m3 ml q0 q1 q2 q3 q4 q5 q6 ql;obtain ⟨j0,j1⟩:=B1.c2;have jl:=B1.lt;obtain ⟨k0,k1,k2,k3,k4,k5,k6,k7,k8,k9,k10,k11⟩:=B2.c12;have kl:=B2.lt;obtain ⟨m0,m1,m2,m3⟩:=BL.c4;have ml:=BL.lt;obtain ⟨q0,q1,q2,q3,q4,q5,q6⟩:=We BD;have ql:=BD.lt) | (go_at_call 167;refine zc (NNK _) ?_;rintro e _ ⟨rfl,rfl⟩))
   go_ret;exact ⟨rfl,E.trans hE⟩
  simp only [h3] at NNK;by_cases h4 : (g k).w = p.h
  ·have g4 : ((g k).w.toList == p.h.toList) = true := by rw [h4]; exact beq_self_eq_true _
   have hr:=hno.out (by rw [hdk2.out];rw [zt h4];simp);subst hr;clear hno hyes hdk2;clear h4;go_wp2_with (first | (go_at_call 106;(with_reducible refine zc (NI1 _ C) ?_);rintro e x1 ⟨rfl,hx⟩;replace hE:=hE.trans hx;replace C:=C.ext hx;replace hL:=hL.ext hx;replace B1:=B1.ext hx;replace B2:=B2.ext hx;replace BL:=BL.ext hx;replace BD:=BD.ext hx;clear hx;clear j0 j1 jl k0 k1 k2 k3 k4 k5 k6 k7 k8 k9 k10 k11 kl m0 m1 m2 m3 ml q0 q1 q2 q3 q4 q5 q6 ql;obtain ⟨j0,j1⟩:=B1.c2;have jl:=B1.lt;obtain ⟨k0,k1,k2,k3,k4,k5,k6,k7,k8,k9,k10,k11⟩:=B2.c12;have kl:=B2.lt;obtain ⟨m0,m1,m2,m3⟩:=BL.c4;have ml:=BL.lt;obtain ⟨q0,q1,q2,q3,q4,q5,q6⟩:=We BD;have ql:=BD.lt) | (go_at_call 106;(with_reducible refine zc (NI2 _ C) ?_);rintro e x2 ⟨rfl,hx⟩;replace hE:=hE.trans hx;replace C:=C.ext hx;replace hL:=hL.ext hx;replace B1:=B1.ext hx;replace B2:=B2.ext hx;replace BL:=BL.ext hx;replace BD:=BD.ext hx;clear hx;clear j0 j1 jl k0 k1 k2 k3 k4 k5 k6 k7 k8 k9 k10 k11 kl m0 m1 m2 m3 ml q0 q1 q2 q3 q4 q5 q6 ql;obtain ⟨j0,j1⟩:=B1.c2;have jl:=B1.lt;obtain ⟨k0,k1,k2,k3,k4,k5,k6,k7,k8,k9,k10,k11⟩:=B2.c12;have kl:=B2.lt;obtain ⟨m0,m1,m2,m3⟩:=BL.c4;have ml:=BL.lt;obtain ⟨q0,q1,q2,q3,q4,q5,q6⟩:=We BD;have ql:=BD.lt) | (go_at_call 167;refine zc (NNK _) ?_;rintro e _ ⟨rfl,rfl⟩))
   go_ret;exact ⟨rfl,E.trans hE⟩
  have g4 : ((g k).w.toList == p.h.toList) = false:=zb fun h => h4 (Wu h)
  have hgv : Hid (Wd (g k).l = (decide (0 < (g k).l.length) && decide (Yx (g k).l = 0) && !((g k).l.any fun x => decide (x.n < 0)))):=rfl;by_cases h5 : (g k).l.length = 0
  ·have g5 : (((g k).l.length : Int) == 0) = true := by rw [h5]; rfl
   have g5' : ((g k).l.length == 0) = true:=by rw [h5];rfl
   have hr:=hno.out (by rw [hdk2.out];rw [show Wd (g k).l = false by rw [hgv.out,h5];rfl];simp);subst hr;clear hno hyes hdk2;go_wp2_with (first | (go_at_call 106;(with_reducible refine zc (NI1 _ C) ?_);rintro e x1 ⟨rfl,hx⟩;replace hE:=hE.trans hx;replace C:=C.ext hx;replace hL:=hL.ext hx;replace B1:=B1.ext hx;replace B2:=B2.ext hx;replace BL:=BL.ext hx;replace BD:=BD.ext hx;clear hx;clear j0 j1 jl k0 k1 k2 k3 k4 k5 k6 k7 k8 k9 k10 k11 kl m0 m1 m2 m3 ml q0 q1 q2 q3 q4 q5 q6 ql;obtain ⟨j0,j1⟩:=B1.c2;have jl:=B1.lt;obtain ⟨k0,k1,k2,k3,k4,k5,k6,k7,k8,k9,k10,k11⟩:=B2.c12;have kl:=B2.lt;obtain ⟨m0,m1,m2,m3⟩:=BL.c4;have ml:=BL.lt;obtain ⟨q0,q1,q2,q3,q4,q5,q6⟩:=We BD;have ql:=BD.lt) | (go_at_call 106;(with_reducible refine zc (NI2 _ C) ?_);rintro e x2 ⟨rfl,hx⟩;replace hE:=hE.trans hx;replace C:=C.ext hx;replace hL:=hL.ext hx;replace B1:=B1.ext hx;replace B2:=B2.ext hx;replace BL:=BL.ext hx;replace BD:=BD.ext hx;clear hx;clear j0 j1 jl k0 k1 k2 k3 k4 k5 k6 k7 k8 k9 k10 k11 kl m0 m1 m2 m3 ml q0 q1 q2 q3 q4 q5 q6 ql;obtain ⟨j0,j1⟩:=B1.c2;have jl:=B1.lt;obtain ⟨k0,k1,k2,k3,k4,k5,k6,k7,k8,k9,k10,k11⟩:=B2.c12;have kl:=B2.lt;obtain ⟨m0,m1,m2,m3⟩:=BL.c4;have ml:=BL.lt;obtain ⟨q0,q1,q2,q3,q4,q5,q6⟩:=We BD;have ql:=BD.lt) | (go_at_call 167;refine zc (NNK _) ?_;rintro e _ ⟨rfl,rfl⟩))
   go_ret;exact ⟨rfl,E.trans hE⟩
  have g5 : (((g k).l.length : Int) == 0) = false:=zb Qa;have g5' : ((g k).l.length == 0) = false:=zb h5;by_cases h6 : Yx (g k).l = 0;rotate_left
  ·have g6 : (Yx (g k).l == 0) = false := zb h6;have g6n : (Yx (g k).l != 0) = true := by rw [bne, g6]; rfl
   have hr:=hno.out (by rw [hdk2.out];rw [show Wd (g k).l = false by rw [hgv.out,zf h6];simp];simp);subst hr;clear hno hyes hdk2;go_wp2_with (first | (go_at_call 106;(with_reducible refine zc (NI1 _ C) ?_);rintro e x1 ⟨rfl,hx⟩;replace hE:=hE.trans hx;replace C:=C.ext hx;replace hL:=hL.ext hx;replace B1:=B1.ext hx;replace B2:=B2.ext hx;replace BL:=BL.ext hx;replace BD:=BD.ext hx;clear hx;clear j0 j1 jl k0 k1 k2 k3 k4 k5 k6 k7 k8 k9 k10 k11 kl m0 m1 m2 m3 ml q0 q1 q2 q3 q4 q5 q6 ql;obtain ⟨j0,j1⟩:=B1.c2;have jl:=B1.lt;obtain ⟨k0,k1,k2,k3,k4,k5,k6,k7,k8,k9,k10,k11⟩:=B2.c12;have kl:=B2.lt;obtain ⟨m0,m1,m2,m3⟩:=BL.c4;have ml:=BL.lt;obtain ⟨q0,q1,q2,q3,q4,q5,q6⟩:=We BD;have ql:=BD.lt) | (go_at_call 106;(with_reducible refine zc (NI2 _ C) ?_);rintro e x2 ⟨rfl,hx⟩;replace hE:=hE.trans hx;replace C:=C.ext hx;replace hL:=hL.ext hx;replace B1:=B1.ext hx;replace B2:=B2.ext hx;replace BL:=BL.ext hx;replace BD:=BD.ext hx;clear hx;clear j0 j1 jl k0 k1 k2 k3 k4 k5 k6 k7 k8 k9 k10 k11 kl m0 m1 m2 m3 ml q0 q1 q2 q3 q4 q5 q6 ql;obtain ⟨j0,j1⟩:=B1.c2;have jl:=B1.lt;obtain ⟨k0,k1,k2,k3,k4,k5,k6,k7,k8,k9,k10,k11⟩:=B2.c12;have kl:=B2.lt;obtain ⟨m0,m1,m2,m3⟩:=BL.c4;have ml:=BL.lt;obtain ⟨q0,q1,q2,q3,q4,q5,q6⟩:=We BD;have ql:=BD.lt) | (go_at_call 167;refine zc (NNK _) ?_;rintro e _ ⟨rfl,rfl⟩) | (go_at_call 170;refine zc (NCK _ hL) ?_;rintro e x4 ⟨rfl,hx⟩;replace hE:=hE.trans hx;replace C:=C.ext hx;replace hL:=hL.ext hx;replace B1:=B1.ext hx;replace B2:=B2.ext hx;replace BL:=BL.ext hx;replace BD:=BD.ext hx;clear hx;clear j0 j1 jl k0 k1 k2 k3 k4 k5 k6 k7 k8 k9 k10 k11 kl m0 m1 m2 m3 ml q0 q1 q2 q3 q4 q5 q6 ql;obtain ⟨j0,j1⟩:=B1.c2;have jl:=B1.lt;obtain ⟨k0,k1,k2,k3,k4,k5,k6,k7,k8,k9,k10,k11⟩:=B2.c12;have kl:=B2.lt;obtain ⟨m0,m1,m2,m3⟩:=BL.c4;have ml:=BL.lt;obtain ⟨q0,q1,q2,q3,q4,q5,q6⟩:=We BD;have ql:=BD.lt))
   go_ret;exact ⟨rfl,E.trans hE⟩
  rw [h6] at NCK
  have hdk3 : Hid (c.dealOk p k = !((g k).l.any fun x => decide (x.n < 0))):=by
   unfold Hid;rw [hdk2.out,← hln.out,zf (show ¬ c.numV (g k).on < c.numV la by omega),zf (show ¬ c.numV p.b < c.numV (g k).on by omega),h3,zf h4,hgv.out,zt (show 0 < (g k).l.length by omega),zt h6]
   simp
  clear hdk2 hgv h1 h2 h3 h4 h5 h6 hln;go_upto_region 11 with (first | (go_at_call 106;(with_reducible refine zc (NI1 _ C) ?_);rintro e x1 ⟨rfl,hx⟩;replace hE:=hE.trans hx;replace C:=C.ext hx;replace hL:=hL.ext hx;replace B1:=B1.ext hx;replace B2:=B2.ext hx;replace BL:=BL.ext hx;replace BD:=BD.ext hx;clear hx;clear j0 j1 jl k0 k1 k2 k3 k4 k5 k6 k7 k8 k9 k10 k11 kl m0 m1 m2 m3 ml q0 q1 q2 q3 q4 q5 q6 ql;obtain ⟨j0,j1⟩:=B1.c2;have jl:=B1.lt;obtain ⟨k0,k1,k2,k3,k4,k5,k6,k7,k8,k9,k10,k11⟩:=B2.c12;have kl:=B2.lt;obtain ⟨m0,m1,m2,m3⟩:=BL.c4;have ml:=BL.lt;obtain ⟨q0,q1,q2,q3,q4,q5,q6⟩:=We BD;have ql:=BD.lt) | (go_at_call 106;(with_reducible refine zc (NI2 _ C) ?_);rintro e x2 ⟨rfl,hx⟩;replace hE:=hE.trans hx;replace C:=C.ext hx;replace hL:=hL.ext hx;replace B1:=B1.ext hx;replace B2:=B2.ext hx;replace BL:=BL.ext hx;replace BD:=BD.ext hx;clear hx;clear j0 j1 jl k0 k1 k2 k3 k4 k5 k6 k7 k8 k9 k10 k11 kl m0 m1 m2 m3 ml q0 q1 q2 q3 q4 q5 q6 ql;obtain ⟨j0,j1⟩:=B1.c2;have jl:=B1.lt;obtain ⟨k0,k1,k2,k3,k4,k5,k6,k7,k8,k9,k10,k11⟩:=B2.c12;have kl:=B2.lt;obtain ⟨m0,m1,m2,m3⟩:=BL.c4;have ml:=BL.lt;obtain ⟨q0,q1,q2,q3,q4,q5,q6⟩:=We BD;have ql:=BD.lt) | (go_at_call 167;refine zc (NNK _) ?_;rintro e _ ⟨rfl,rfl⟩) | (go_at_call 170;refine zc (NCK _ hL) ?_;rintro e x4 ⟨rfl,hx⟩;replace hE:=hE.trans hx;replace C:=C.ext hx;replace hL:=hL.ext hx;replace B1:=B1.ext hx;replace B2:=B2.ext hx;replace BL:=BL.ext hx;replace BD:=BD.ext hx;clear hx;clear j0 j1 jl k0 k1 k2 k3 k4 k5 k6 k7 k8 k9 k10 k11 kl m0 m1 m2 m3 ml q0 q1 q2 q3 q4 q5 q6 ql;obtain ⟨j0,j1⟩:=B1.c2;have jl:=B1.lt;obtain ⟨k0,k1,k2,k3,k4,k5,k6,k7,k8,k9,k10,k11⟩:=B2.c12;have kl:=B2.lt;obtain ⟨m0,m1,m2,m3⟩:=BL.c4;have ml:=BL.lt;obtain ⟨q0,q1,q2,q3,q4,q5,q6⟩:=We BD;have ql:=BD.lt))
  clear j0 j1 jl k0 k1 k2 k3 k4 k5 k6 k7 k8 k9 k10 k11 kl m0 m1 m2 m3 ml q0 q1 q2 q3 q4 q5 q6 ql;clear NI1 NI2 NNK NCK g4 g5 g5';obtain ⟨TL',cl',hTL,hTR,hcl,hclm,_⟩:=id hL;obtain ⟨rfl,rfl⟩ : TL = TL' ∧ cl = cl':=by simpa using hTL
  clear hTL;generalize g k = G at *;have hl63 : G.l.length ≤ 9223372036854775807:=Nat.le_trans hcl (Nat.le_trans hclm zD);have hEx:=hE
  go_loopw [8] (fun iv wr => ∃ j : Nat,j ≤ G.l.length ∧ iv = .int .i64 j ∧ Hid (∀ i,i < j → 0 ≤ (Q8 G.l i).n) ∧ Qc x4 wr) (fun iv _ => G.l.length - (intOf iv).toNat)
  case atStart => exact ⟨0,Nat.zero_le _,rfl,(fun i h => absurd h Qa),Qc.refl _⟩
  case round =>
   obtain ⟨j,hj,rfl,hnn,hEj⟩:=hrel;obtain ⟨wi,rfl⟩:=Qe wr;have BDi:=BD.ext hEj;have BLi:=BL.ext hEj;obtain ⟨q0,q1,q2,q3,q4,q5,q6,ql⟩:=Qb.d7 BDi;by_cases hlj : j < G.l.length
   ·obtain ⟨b2, off2, rfl, hb2, hc2⟩ := (hTR.ext hEj) Qa;have d1 : wi.cell? ⟨b2, off2 + j * 2 + 1, none⟩ = some (.int .i64 (Q8 G.l j).n) := by simpa [Q5] using hc2 j 1 _ hlj rfl
    have hin2 : j < G.l.length:=hlj;clear hc2;by_cases hneg : (Q8 G.l j).n < 0
    ·have g7 : decide ((Q8 G.l j).n < 0) = true:=zt hneg;have hany : (G.l.any fun x => decide (x.n < 0)) = true:=Qfd hlj hneg;have hr:=hno.out (by rw [hdk3.out,hany];rfl);subst hr;clear hno hyes hdk3 hany hneg hnn;go_wp2;go_ret;exact ⟨rfl,E.trans (hE.trans hEj)⟩
    ·have g7 : decide ((Q8 G.l j).n < 0) = false:=zf hneg
     have hnn2 : Hid (∀ i,i < j + 1 → 0 ≤ (Q8 G.l i).n):=fun i hi => by
      by_cases e : i = j
      ·subst e;omega
      ·exact hnn.out i Qa
     clear hno hyes hdk3 hneg hnn;go_wp2;exact ⟨⟨j + 1,Qa,by go_num,hnn2,hEj⟩,zi⟩
   ·obtain rfl : j = G.l.length := Qa;have hany : (G.l.any fun x => decide (x.n < 0)) = false := Qlo (fun i hi => hnn.out i hi);have hnx := zh (hyes.out (by rw [hdk3.out, hany]; rfl));clear hno hyes hdk3 hany hnn;obtain ⟨f0, f1, f2, f3⟩ : (_ ∧ _ ∧ _ ∧ _) := ⟨BLi.frozen 0, BLi.frozen 1, BLi.frozen 2, BLi.frozen 3⟩;obtain ⟨m0, m1, m2, m3, ml⟩ := Qb.d4 BLi;have X := Qiw BLi (.int .i64 G.on.y) (.int .i64 G.on.m) (.bool G.on.s) (.int .i64 G.on.d);have E4 := ext4Q (hE.trans hEj) hE5 (.int .i64 G.on.y) (.int .i64 G.on.m) (.bool G.on.s) (.int .i64 G.on.d);have hps : 0 < c.numV (Qd.lastT p (k + 1)) := by rw [← hgo2.out]; exact hpk
    clear hpk;go_wp2;exact ⟨⟨k + 1,Qa,by go_num,hnx,hps,E4,by rw [← hgo2.out];exact X⟩,zi⟩
theorem Pc {f f' : Nat → List Value} : ∀ k,(∀ i,i < k → f i = f' i) → Z2 f k = Z2 f' k
 | 0,_ => rfl
 | k + 1,h => by rw [Lh,Lh,Pc k (fun i hi => h i Qa),h k Qa]
theorem Hq {W : World} {b b' s1 s2 k1 k2 : Nat} {e1 e2 : TypeId} {v1 v2 : Value} {x1 x2 : List Value} (h1 : W.ownsRow b e1 s1 v1 k1 x1) (h2 : W.ownsRow b' e2 s2 v2 k2 x2) (hne : e1 ≠ e2) : v1.ownBlock = none ∨ v1.ownBlock ≠ v2.ownBlock:=by
 cases hb : v1.ownBlock with
 | none => exact .inl rfl
 | some r =>
  refine .inr fun e => ?_
  obtain ⟨_,c1,g1⟩:=Xe h1 r hb;obtain ⟨_,c2,g2⟩:=Xe h2 r e.symm;rw [g1] at g2;simp at g2;exact hne g2.2
def Yh (W : World) (b : Nat) (v : Value) (l : List Lt) : Prop:=W.ownsRow b 85 2 v l.length (l.flatMap Jq)
def Ju (W : World) (b : Nat) (v : Value) (n : Nat) (g : Nat → Dl) : Prop:=∃ vs : Nat → Value,W.ownsRow b 57 7 v n (Z2 (fun i => Zm (g i) (vs i)) n) ∧ ∀ i,i < n → Yh W b (vs i) (g i).l
theorem Qhk (W : World) (b : Nat) (g : Nat → Dl) : Ju W b (.slice none 0 0) 0 g:=⟨fun _ => .slice none 0 0,World.ownsRow_nil _ _ _ _,fun i h => absurd h Qa⟩
theorem Ju.ext {W W' : World} {b n : Nat} {v : Value} {g : Nat → Dl} (h : Ju W b v n g) (x : Qc W W') : Ju W' b v n g:=by
 obtain ⟨vs,h1,h2⟩:=h;exact ⟨vs,Jf h1 x,fun i hi => Jf (h2 i hi) x⟩
theorem Ju.le {W : World} {b b' n : Nat} {v : Value} {g : Nat → Dl} (h : Ju W b v n g) (hb : b' ≤ b) : Ju W b' v n g:=by
 obtain ⟨vs,h1,h2⟩:=h;exact ⟨vs,h1.mono hb,fun i hi => World.ownsRow.mono (h2 i hi) hb⟩
theorem Qhi {W : World} {b : Nat} {v : Value} {l : List Dl} (h : Ju W b v l.length (fun i => l.getD i Zd)) : Va W v l:=by
 obtain ⟨vs,h1,h2⟩:=h;obtain ⟨F,c,g1,g2,g3,g4,g5,_⟩:=Vz (f:=fun i => Zm (l.getD i Zd) (vs i)) (fun _ => rfl) h1;exact ⟨F,c,vs,g1,g2,g3,g4,g5,fun i hi => Uy (h2 i hi)⟩
theorem Qhl {W w1 : World} {b k : Nat} {v v' vl : Value} {g : Nat → Dl} {vs : Nat → Value} {ob : Obj} (hO : W.ownsRow b 57 7 v k (Z2 (fun i => Zm (g i) (vs i)) k)) (hL : ∀ i,i < k → Yh W b (vs i) (g i).l) (hl : Yh W b vl (g k).l)
  (hown : w1.ownsRow b 57 7 v' (k + 1) (Z2 (fun i => Zm (g i) (vs i)) k ++ Zm (g k) vl)) (hgrow : (W.alloc ob).grownBy w1 v.ownBlock) : Ju w1 b v' (k + 1) g:=by
 have keep : ∀ {u : Value} {l : List Lt},Yh W b u l → Yh w1 b u l:=fun h => (World.ownsRow.alloc h ob).kept hgrow (Hq h hO zD)
 refine ⟨fun i => if i = k then vl else vs i,?_,fun i hi => ?_⟩
 ·rw [Lh, Pc (f' := fun i => Zm (g i) (vs i)) k (fun i hi => by simp [show i ≠ k by omega])]
  simpa using hown
 ·by_cases e : i = k
  ·subst e;simpa using keep hl
  ·simpa [e] using keep (hL i Qa)
theorem Qi2 {W : World} {b : Nat} {t : TypeId} {v0 v1 v2 v3 v4 v5 v6 : Value} (h : Qb W b t #[v0,v1,v2,v3,v4,v5,v6]) (u : Value) : Qb (W.setCell ⟨b,6,none⟩ u) b t #[v0,v1,v2,v3,v4,v5,u]:=by unfold Qb at h ⊢;simp [World.setCell,Array.getElem?_modify,h]
theorem Qjh : (Tryz.prog.info? 57).map (fun i => (i.zero,i.size,i.bytes)) = some (some (.agg #[.int .i64 0,.int .i64 0,.bool false,.int .i64 0,.bool false,.string ⟨#[]⟩,.slice none 0 0]),7,80):=by kernel_rfl
theorem Qgb (d : Dl) (F : OA) (n m : Nat) : ∀ u ∈ Zm d (.slice F n m),u.oneCell' = true:=by simp [Zm,Value.oneCell']
theorem Qg4 (v : Value) (l : List Dl) (w : World) (hDD : Va w v l) (hsz : ∀ i,i < l.length → (l.getD i Zd).l.length * 24 ≤ 140737488351232) (hsd : l.length * 80 ≤ 140737488351232) :
  Calls Tryz.prog 78 #[v] w fun e w' => ∃ v',e = .returned v' ∧ Qc w w' ∧ Ju w' w.heap.size v' l.length (fun i => l.getD i Zd):=by
 obtain ⟨i0,hi,hz0,hz1,hz2⟩:=info_parts Qjh;obtain ⟨D,cap,vs,rfl,hD,hcap,hmax,_,hat⟩:=hDD;have hn : l.length ≤ 9223372036854775807:=Nat.le_trans hcap (Nat.le_trans hmax zD);generalize l.length = n at *;obtain ⟨g,hg⟩:=Qe (fun i => l.getD i Zd);have hg' : ∀ i,l.getD i Zd = g i:=fun i => by rw [hg]
 simp only [hg'] at hD hat hsz ⊢;clear hg hg';clear hmax
 go_enter Tryz.func78,Tryz.ntmps78
 go_upto_region 3 with fail
 go_loopw [3,4] (fun ov iv wr => ∃ k : Nat,k ≤ n ∧ iv = .int .i64 k ∧ Ju wr w.heap.size ov k g ∧ Qc w wr) (fun _ i _ => n - (intOf i).toNat)
 case atStart => exact ⟨0,Nat.zero_le _,rfl,Qhk _ _ _,Qc.refl _⟩
 case round =>
  obtain ⟨k,hk,rfl,⟨vs',hO,hLo⟩,hE⟩:=hrel;obtain ⟨wo,rfl⟩:=Qe wr;obtain ⟨FO,mO,rfl⟩:=Jn hO;by_cases hlt : k < n
  ·obtain ⟨b,off,rfl,hb,hc⟩:=(hD.ext hE) Qa;obtain ⟨c0,c1,c2,c3,c4,c5,c6⟩:=zp7 hc hlt;have HL:=(hat k hlt).ext hE;obtain ⟨VL,hvl⟩:=Qe (vs k);rw [← hvl] at c6 HL;clear hvl hc;obtain ⟨TL,cl,hVL,_⟩:=id HL;subst hVL;have NC:=fun w h => G5 (.slice TL (g k).l.length cl) (g k).l w h (hsz k hlt)
   go_upto_region 6 with fail
   obtain ⟨wb,hv⟩:=Qe (wo.alloc (.cells #[.int .i64 (g k).on.y,.int .i64 (g k).on.m,.bool (g k).on.s,.int .i64 (g k).on.d,.bool (g k).i,.string (g k).w,.slice TL (g k).l.length cl] 57));rw [← hv];have hx : Qc wo wb:=by rw [hv];exact (Qc.refl _).alloc _
   have BD : Qb wb wo.heap.size 57 #[.int .i64 (g k).on.y,.int .i64 (g k).on.m,.bool (g k).on.s,.int .i64 (g k).on.d,.bool (g k).i,.string (g k).w,.slice TL (g k).l.length cl]:=by rw [hv];exact Qb.new _ _ _
   obtain ⟨bd,hbd⟩:=Qe (wo.heap.size);rw [← hbd] at BD ⊢;have hlo : wo.heap.size ≤ bd:=Qa;clear hv c0 c1 c2 c3 c4 c5 c6 hb hbd;obtain ⟨q0,q1,q2,q3,q4,q5,q6,ql⟩:=Qb.d7 BD;go_upto_region 7 with (go_at_call 77;refine zc (NC _ (HL.ext hx)) ?_;rintro e w2 ⟨vl,rfl,h2,hS⟩;obtain ⟨F0,m0,rfl⟩:=Jn hS;clear q0 q1 q2 q3 q4 q5 q6 ql;obtain ⟨q0,q1,q2,q3,q4,q5,q6⟩:=Qi3 (Qb.ext BD h2);have ql:=Qb.lt (Qb.ext BD h2);have f6:=Qb.frozen (Qb.ext BD h2) 6)
   have BD3:=Qi2 (Qb.ext BD h2) (.slice F0 (g k).l.length m0);have hx3 : Qc wo (w2.setCell ⟨bd,6,none⟩ (.slice F0 (g k).l.length m0)):=(hx.trans h2).setCell (p:=⟨bd,6,none⟩) hlo _;have hS3 : Yh (w2.setCell ⟨bd,6,none⟩ (.slice F0 (g k).l.length m0)) w.heap.size (.slice F0 (g k).l.length m0) (g k).l:=U4 (Je (Qb.ext BD h2) zD hS 6 _) (Nat.le_trans hE.size hx.size);generalize w2.setCell ⟨bd,6,none⟩ (.slice F0 (g k).l.length m0) = w3 at *;clear q0 q1 q2 q3 q4 q5 q6 ql f6 hS h2 BD hx NC HL;obtain ⟨q0,q1,q2,q3,q4,q5,q6,ql⟩:=Qb.d7 BD3;replace hO:=Jf hO hx3;have hLs : ∀ i,i < k → Yh w3 w.heap.size (vs' i) (g i).l:=fun i hi => Jf (hLo i hi) hx3
   replace hE:=hE.trans hx3;have hlen:=Wm (f:=fun i => Zm (g i) (vs' i)) (sz:=7) (fun _ => rfl) k;go_wp2_with (at_builtin;refine wpList_append_own_at _ rfl _ _ 53 rfl w.heap.size 57 i0 (.agg #[.int .i64 0,.int .i64 0,.bool false,.int .i64 0,.bool false,.string ⟨#[]⟩,.slice none 0 0]) 7 80 Tryz.underlying53 hi hz0 hz1 hz2 rfl zD _ _ _ rfl (hO.alloc _) ⟨w3.heap.size,0,none⟩ 1 1 (Zm (g k) (.slice F0 (g k).l.length m0)) rfl rfl (W4 _ _ _) (Qgb _ _ _ _) (by unfold maxLen;omega) Qa (by have:=hE.size;simp;omega) ?_;intro o' w5 hown hgrow _ _);have E5 : Qc w w5:=(hE.alloc _).grown hgrow (fun q hq => (hO.lt q hq).1);have D5:=Qhl hO hLs hS3 hown hgrow
   exact ⟨⟨k + 1,Qa,by go_num,D5,E5⟩,zi⟩
  ·obtain rfl : k = n:=Qa;go_wp2;go_ret;exact ⟨_,rfl,hE,vs',hO,hLo⟩
theorem Wg {W : World} {b : Nat} {t : TypeId} {cs : Array Value} (h : Qb W b t cs) (i : Nat) (u : Value) : Qb (W.setCell ⟨b,i,none⟩ u) b t (cs.setIfInBounds i u):=by unfold Qb at h ⊢;simp [World.setCell,Array.getElem?_modify,h]
theorem Ii {W : World} {b n : Nat} {v : Value} {g : Nat → Dl} (h : Ju W b v n g) : ∃ F m,v = .slice F n m:=by
 obtain ⟨_,h1,_⟩:=h;exact Jn h1
structure Y5 (W : World) (b : Nat) (p : Pd) (vo vd vc : Value) : Prop where
 o : Yh W b vo p.o
 d : Ju W b vd p.d.length (fun i => p.d.getD i Zd)
 c : Yh W b vc p.c
theorem Qmb {W : World} {b : Nat} {p : Pd} {vo vd vc : Value} (h : Y5 W b p vo vd vc) : Wb W p vo vd vc:=⟨Uy h.o,Qhi h.d,Uy h.c⟩
theorem Y5.ext {W W' : World} {b : Nat} {p : Pd} {vo vd vc : Value} (h : Y5 W b p vo vd vc) (x : Qc W W') : Y5 W' b p vo vd vc:=⟨Jf h.o x,h.d.ext x,Jf h.c x⟩
theorem Y5.le {W : World} {b b' : Nat} {p : Pd} {vo vd vc : Value} (h : Y5 W b p vo vd vc) (hb : b' ≤ b) : Y5 W b' p vo vd vc:=⟨U4 h.o hb,h.d.le hb,U4 h.c hb⟩
theorem Ju.set {W : World} {bb : Nat} {t : TypeId} {cs : Array Value} (hB : Qb W bb t cs) (h1 : t ≠ 85) (h2 : t ≠ 57) {b n : Nat} {v : Value} {g : Nat → Dl} (h : Ju W b v n g) (j : Nat) (u : Value) : Ju (W.setCell ⟨bb,j,none⟩ u) b v n g:=by
 obtain ⟨vs,g1,g2⟩:=h;exact ⟨vs,Je hB h2 g1 j u,fun i hi => Je hB h1 (g2 i hi) j u⟩
theorem Qg5 (p : Pd) (vo vd vc : Value) (w : World) (hP : Wb w p vo vd vc) (hso : p.o.length * 24 ≤ 140737488351232) (hsc : p.c.length * 24 ≤ 140737488351232) (hsl : ∀ i,i < p.d.length → (p.d.getD i Zd).l.length * 24 ≤ 140737488351232) (hsd : p.d.length * 80 ≤ 140737488351232) :
  Calls Tryz.prog 33 #[.agg #[.string p.h,.int .i64 p.a.y,.int .i64 p.a.m,.bool p.a.s,.int .i64 p.a.d,.int .i64 p.b.y,.int .i64 p.b.m,.bool p.b.s,.int .i64 p.b.d,vo,vd,vc]] w fun e w' => ∃ vo' vd' vc',e = .returned (.agg #[.string p.h,.int .i64 p.a.y,.int .i64 p.a.m,.bool p.a.s,.int .i64 p.a.d,.int .i64 p.b.y,.int .i64 p.b.m,.bool p.b.s,.int .i64 p.b.d,vo',vd',vc']) ∧ Qc w w' ∧ Y5 w' w.heap.size p vo' vd' vc':=by
 obtain ⟨t1,s1,e1,_⟩:=id hP.o;subst e1;obtain ⟨t2,s2,_,e2,_⟩:=id hP.d;subst e2;obtain ⟨t3,s3,e3,_⟩:=id hP.c;subst e3;have NO:=fun w h => G5 (.slice t1 p.o.length s1) p.o w h hso
 have NC:=fun w h => G5 (.slice t3 p.c.length s3) p.c w h hsc
 have ND:=fun w h => Qg4 (.slice t2 p.d.length s2) p.d w h hsl hsd
 go_enter Tryz.func33,Tryz.ntmps33
 go_upto_region 1 with fail
 obtain ⟨v,b1,b2,E,B1,B2,hbr1,hbr,hn21,hv,hb1,hb2⟩:=Jy w 55 #[.string p.h,.int .i64 p.a.y,.int .i64 p.a.m,.bool p.a.s,.int .i64 p.a.d,.int .i64 p.b.y,.int .i64 p.b.m,.bool p.b.s,.int .i64 p.b.d,.slice t1 p.o.length s1,.slice t2 p.d.length s2,.slice t3 p.c.length s3] 55 #[.string ⟨#[]⟩,.int .i64 0,.int .i64 0,.bool false,.int .i64 0,.int .i64 0,.int .i64 0,.bool false,.int .i64 0,.slice none 0 0,.slice none 0 0,.slice none 0 0];rw [← hv,← hb2,← hb1];clear hv hb1 hb2;obtain ⟨k0,k1,k2,k3,k4,k5,k6,k7,k8,k9,k10,k11,kl⟩:=Qb.d12 B1;go_upto_region 2 with (go_at_call 77;refine zc (NO _ (hP.ext E).o) ?_;rintro e w2 ⟨vl,rfl,h2,hS⟩;obtain ⟨F1,m1,rfl⟩:=Jn hS;clear k0 k1 k2 k3 k4 k5 k6 k7 k8 k9 k10 k11 kl;obtain ⟨k0,k1,k2,k3,k4,k5,k6,k7,k8,k9,k10,k11⟩:=Qb.c12 (Qb.ext B1 h2);have kl:=Qb.lt (Qb.ext B1 h2);have ff:=Qb.frozen (Qb.ext B1 h2) 9)
 have hEs:=E.size;replace E:=(E.trans h2).setCell (p:=⟨b1,9,none⟩) hbr1 (.slice F1 p.o.length m1);have BX : Qb _ _ _ #[.string p.h,.int .i64 p.a.y,.int .i64 p.a.m,.bool p.a.s,.int .i64 p.a.d,.int .i64 p.b.y,.int .i64 p.b.m,.bool p.b.s,.int .i64 p.b.d,.slice F1 p.o.length m1,.slice t2 p.d.length s2,.slice t3 p.c.length s3]:=Wg (Qb.ext B1 h2) 9 (.slice F1 p.o.length m1);have B2X:=Qg (Qb.ext B2 h2) hn21 9 (.slice F1 p.o.length m1);have S1 : Yh (w2.setCell ⟨b1,9,none⟩ (.slice F1 p.o.length m1)) w.heap.size (.slice F1 p.o.length m1) p.o:=U4 (Je (Qb.ext B1 h2) zD hS 9 (.slice F1 p.o.length m1)) hEs;generalize w2.setCell ⟨b1,9,none⟩ (.slice F1 p.o.length m1) = wz at *
 clear k0 k1 k2 k3 k4 k5 k6 k7 k8 k9 k10 k11 kl;clear B1 B2 h2 ff hS hEs;have B1:=BX;have B2:=B2X;clear BX B2X;obtain ⟨k0,k1,k2,k3,k4,k5,k6,k7,k8,k9,k10,k11,kl⟩:=Qb.d12 B1;go_upto_region 3 with (go_at_call 77;refine zc (NC _ (hP.ext E).c) ?_;rintro e w2 ⟨vl,rfl,h2,hS⟩;obtain ⟨F3,m3,rfl⟩:=Jn hS;clear k0 k1 k2 k3 k4 k5 k6 k7 k8 k9 k10 k11 kl;obtain ⟨k0,k1,k2,k3,k4,k5,k6,k7,k8,k9,k10,k11⟩:=Qb.c12 (Qb.ext B1 h2);have kl:=Qb.lt (Qb.ext B1 h2);have ff:=Qb.frozen (Qb.ext B1 h2) 11)
 have hEs:=E.size;replace E:=(E.trans h2).setCell (p:=⟨b1,11,none⟩) hbr1 (.slice F3 p.c.length m3);have BX : Qb _ _ _ #[.string p.h,.int .i64 p.a.y,.int .i64 p.a.m,.bool p.a.s,.int .i64 p.a.d,.int .i64 p.b.y,.int .i64 p.b.m,.bool p.b.s,.int .i64 p.b.d,.slice F1 p.o.length m1,.slice t2 p.d.length s2,.slice F3 p.c.length m3]:=Wg (Qb.ext B1 h2) 11 (.slice F3 p.c.length m3);have B2X:=Qg (Qb.ext B2 h2) hn21 11 (.slice F3 p.c.length m3);have S3 : Yh (w2.setCell ⟨b1,11,none⟩ (.slice F3 p.c.length m3)) w.heap.size (.slice F3 p.c.length m3) p.c:=U4 (Je (Qb.ext B1 h2) zD hS 11 (.slice F3 p.c.length m3)) hEs;replace S1:=Je (Qb.ext B1 h2) zD (Jf S1 h2) 11 (.slice F3 p.c.length m3)
 generalize w2.setCell ⟨b1,11,none⟩ (.slice F3 p.c.length m3) = wz at *;clear k0 k1 k2 k3 k4 k5 k6 k7 k8 k9 k10 k11 kl;clear B1 B2 h2 ff hS hEs;have B1:=BX;have B2:=B2X;clear BX B2X;obtain ⟨k0,k1,k2,k3,k4,k5,k6,k7,k8,k9,k10,k11,kl⟩:=Qb.d12 B1;go_upto_region 4 with (go_at_call 78;refine zc (ND _ (hP.ext E).d) ?_;rintro e w2 ⟨vl,rfl,h2,hS⟩;obtain ⟨F2,m2,rfl⟩:=Ii hS;clear k0 k1 k2 k3 k4 k5 k6 k7 k8 k9 k10 k11 kl;obtain ⟨k0,k1,k2,k3,k4,k5,k6,k7,k8,k9,k10,k11⟩:=Qb.c12 (Qb.ext B1 h2);have kl:=Qb.lt (Qb.ext B1 h2);have ff:=Qb.frozen (Qb.ext B1 h2) 10)
 have hEs:=E.size;replace E:=(E.trans h2).setCell (p:=⟨b1,10,none⟩) hbr1 (.slice F2 p.d.length m2);have BX : Qb _ _ _ #[.string p.h,.int .i64 p.a.y,.int .i64 p.a.m,.bool p.a.s,.int .i64 p.a.d,.int .i64 p.b.y,.int .i64 p.b.m,.bool p.b.s,.int .i64 p.b.d,.slice F1 p.o.length m1,.slice F2 p.d.length m2,.slice F3 p.c.length m3]:=Wg (Qb.ext B1 h2) 10 (.slice F2 p.d.length m2);have B2X:=Qg (Qb.ext B2 h2) hn21 10 (.slice F2 p.d.length m2);have S2 : Ju (w2.setCell ⟨b1,10,none⟩ (.slice F2 p.d.length m2)) w.heap.size (.slice F2 p.d.length m2) p.d.length (fun i => p.d.getD i Zd):=(Ju.set (Qb.ext B1 h2) zD zD hS 10 (.slice F2 p.d.length m2)).le hEs
 replace S1:=Je (Qb.ext B1 h2) zD (Jf S1 h2) 10 (.slice F2 p.d.length m2);replace S3:=Je (Qb.ext B1 h2) zD (Jf S3 h2) 10 (.slice F2 p.d.length m2);generalize w2.setCell ⟨b1,10,none⟩ (.slice F2 p.d.length m2) = wz at *;clear k0 k1 k2 k3 k4 k5 k6 k7 k8 k9 k10 k11 kl;clear B1 B2 h2 ff hS hEs;have B1:=BX;have B2:=B2X;clear BX B2X;obtain ⟨k0,k1,k2,k3,k4,k5,k6,k7,k8,k9,k10,k11,kl⟩:=Qb.d12 B1;obtain ⟨f0,f1,f2,f3,f4,f5,f6,f7,f8,f9,f10,f11,z0,z1,z2,z3,z4,z5,z6,z7,z8,z9,z10,z11,zl⟩:=Qb.e12 B2;have A0:=Je B2 zD S1 0 (.string p.h);have C0:=Je B2 zD S3 0 (.string p.h);have D0:=Ju.set B2 zD zD S2 0 (.string p.h)
 have E0:=E.setCell (p:=⟨b2,0,none⟩) hbr (.string p.h);have T1 : Qb _ _ _ #[.string p.h,.int .i64 0,.int .i64 0,.bool false,.int .i64 0,.int .i64 0,.int .i64 0,.bool false,.int .i64 0,.slice none 0 0,.slice none 0 0,.slice none 0 0]:=Wg B2 0 (.string p.h);clear S1 S2 S3;have A1:=Je T1 zD A0 1 (.int .i64 p.a.y);have C1:=Je T1 zD C0 1 (.int .i64 p.a.y);have D1:=Ju.set T1 zD zD D0 1 (.int .i64 p.a.y);have E1:=E0.setCell (p:=⟨b2,1,none⟩) hbr (.int .i64 p.a.y);have T2 : Qb _ _ _ #[.string p.h,.int .i64 p.a.y,.int .i64 0,.bool false,.int .i64 0,.int .i64 0,.int .i64 0,.bool false,.int .i64 0,.slice none 0 0,.slice none 0 0,.slice none 0 0]:=Wg T1 1 (.int .i64 p.a.y)
 clear A0 C0 D0 E0 T1;have A2:=Je T2 zD A1 2 (.int .i64 p.a.m);have C2:=Je T2 zD C1 2 (.int .i64 p.a.m);have D2:=Ju.set T2 zD zD D1 2 (.int .i64 p.a.m);have E2:=E1.setCell (p:=⟨b2,2,none⟩) hbr (.int .i64 p.a.m);have T3 : Qb _ _ _ #[.string p.h,.int .i64 p.a.y,.int .i64 p.a.m,.bool false,.int .i64 0,.int .i64 0,.int .i64 0,.bool false,.int .i64 0,.slice none 0 0,.slice none 0 0,.slice none 0 0]:=Wg T2 2 (.int .i64 p.a.m);clear A1 C1 D1 E1 T2;have A3:=Je T3 zD A2 3 (.bool p.a.s);have C3:=Je T3 zD C2 3 (.bool p.a.s);have D3:=Ju.set T3 zD zD D2 3 (.bool p.a.s);have E3:=E2.setCell (p:=⟨b2,3,none⟩) hbr (.bool p.a.s);have T4 : Qb _ _ _ #[.string p.h,.int .i64 p.a.y,.int .i64 p.a.m,.bool p.a.s,.int .i64 0,.int .i64 0,.int .i64 0,.bool false,.int .i64 0,.slice none 0 0,.slice none 0 0,.slice none 0 0]:=Wg T3 3 (.bool p.a.s)
 clear A2 C2 D2 E2 T3;have A4:=Je T4 zD A3 4 (.int .i64 p.a.d);have C4:=Je T4 zD C3 4 (.int .i64 p.a.d);have D4:=Ju.set T4 zD zD D3 4 (.int .i64 p.a.d);have E4:=E3.setCell (p:=⟨b2,4,none⟩) hbr (.int .i64 p.a.d);have T5 : Qb _ _ _ #[.string p.h,.int .i64 p.a.y,.int .i64 p.a.m,.bool p.a.s,.int .i64 p.a.d,.int .i64 0,.int .i64 0,.bool false,.int .i64 0,.slice none 0 0,.slice none 0 0,.slice none 0 0]:=Wg T4 4 (.int .i64 p.a.d);clear A3 C3 D3 E3 T4;have A5:=Je T5 zD A4 5 (.int .i64 p.b.y);have C5:=Je T5 zD C4 5 (.int .i64 p.b.y);have D5:=Ju.set T5 zD zD D4 5 (.int .i64 p.b.y);have E5:=E4.setCell (p:=⟨b2,5,none⟩) hbr (.int .i64 p.b.y)
 have T6 : Qb _ _ _ #[.string p.h,.int .i64 p.a.y,.int .i64 p.a.m,.bool p.a.s,.int .i64 p.a.d,.int .i64 p.b.y,.int .i64 0,.bool false,.int .i64 0,.slice none 0 0,.slice none 0 0,.slice none 0 0]:=Wg T5 5 (.int .i64 p.b.y);clear A4 C4 D4 E4 T5;have A6:=Je T6 zD A5 6 (.int .i64 p.b.m);have C6:=Je T6 zD C5 6 (.int .i64 p.b.m);have D6:=Ju.set T6 zD zD D5 6 (.int .i64 p.b.m);have E6:=E5.setCell (p:=⟨b2,6,none⟩) hbr (.int .i64 p.b.m);have T7 : Qb _ _ _ #[.string p.h,.int .i64 p.a.y,.int .i64 p.a.m,.bool p.a.s,.int .i64 p.a.d,.int .i64 p.b.y,.int .i64 p.b.m,.bool false,.int .i64 0,.slice none 0 0,.slice none 0 0,.slice none 0 0]:=Wg T6 6 (.int .i64 p.b.m)
 clear A5 C5 D5 E5 T6;have A7:=Je T7 zD A6 7 (.bool p.b.s);have C7:=Je T7 zD C6 7 (.bool p.b.s);have D7:=Ju.set T7 zD zD D6 7 (.bool p.b.s);have E7:=E6.setCell (p:=⟨b2,7,none⟩) hbr (.bool p.b.s);have T8 : Qb _ _ _ #[.string p.h,.int .i64 p.a.y,.int .i64 p.a.m,.bool p.a.s,.int .i64 p.a.d,.int .i64 p.b.y,.int .i64 p.b.m,.bool p.b.s,.int .i64 0,.slice none 0 0,.slice none 0 0,.slice none 0 0]:=Wg T7 7 (.bool p.b.s);clear A6 C6 D6 E6 T7;have A8:=Je T8 zD A7 8 (.int .i64 p.b.d);have C8:=Je T8 zD C7 8 (.int .i64 p.b.d);have D8:=Ju.set T8 zD zD D7 8 (.int .i64 p.b.d);have E8:=E7.setCell (p:=⟨b2,8,none⟩) hbr (.int .i64 p.b.d)
 have T9 : Qb _ _ _ #[.string p.h,.int .i64 p.a.y,.int .i64 p.a.m,.bool p.a.s,.int .i64 p.a.d,.int .i64 p.b.y,.int .i64 p.b.m,.bool p.b.s,.int .i64 p.b.d,.slice none 0 0,.slice none 0 0,.slice none 0 0]:=Wg T8 8 (.int .i64 p.b.d);clear A7 C7 D7 E7 T8;have A9:=Je T9 zD A8 9 (.slice F1 p.o.length m1);have C9:=Je T9 zD C8 9 (.slice F1 p.o.length m1);have D9:=Ju.set T9 zD zD D8 9 (.slice F1 p.o.length m1);have E9:=E8.setCell (p:=⟨b2,9,none⟩) hbr (.slice F1 p.o.length m1);have T10 : Qb _ _ _ #[.string p.h,.int .i64 p.a.y,.int .i64 p.a.m,.bool p.a.s,.int .i64 p.a.d,.int .i64 p.b.y,.int .i64 p.b.m,.bool p.b.s,.int .i64 p.b.d,.slice F1 p.o.length m1,.slice none 0 0,.slice none 0 0]:=Wg T9 9 (.slice F1 p.o.length m1)
 clear A8 C8 D8 E8 T9;have A10:=Je T10 zD A9 10 (.slice F2 p.d.length m2);have C10:=Je T10 zD C9 10 (.slice F2 p.d.length m2);have D10:=Ju.set T10 zD zD D9 10 (.slice F2 p.d.length m2);have E10:=E9.setCell (p:=⟨b2,10,none⟩) hbr (.slice F2 p.d.length m2);have T11 : Qb _ _ _ #[.string p.h,.int .i64 p.a.y,.int .i64 p.a.m,.bool p.a.s,.int .i64 p.a.d,.int .i64 p.b.y,.int .i64 p.b.m,.bool p.b.s,.int .i64 p.b.d,.slice F1 p.o.length m1,.slice F2 p.d.length m2,.slice none 0 0]:=Wg T10 10 (.slice F2 p.d.length m2);clear A9 C9 D9 E9 T10;have A11:=Je T11 zD A10 11 (.slice F3 p.c.length m3);have C11:=Je T11 zD C10 11 (.slice F3 p.c.length m3)
 have D11:=Ju.set T11 zD zD D10 11 (.slice F3 p.c.length m3);have E11:=E10.setCell (p:=⟨b2,11,none⟩) hbr (.slice F3 p.c.length m3);have T12 : Qb _ _ _ #[.string p.h,.int .i64 p.a.y,.int .i64 p.a.m,.bool p.a.s,.int .i64 p.a.d,.int .i64 p.b.y,.int .i64 p.b.m,.bool p.b.s,.int .i64 p.b.d,.slice F1 p.o.length m1,.slice F2 p.d.length m2,.slice F3 p.c.length m3]:=Wg T11 11 (.slice F3 p.c.length m3);clear A10 C10 D10 E10 T11;have wq' : ∃ wq,wq = ((((((((((((wz.setCell ⟨b2,0,none⟩ (.string p.h)).setCell ⟨b2,1,none⟩ (.int .i64 p.a.y)).setCell ⟨b2,2,none⟩ (.int .i64 p.a.m)).setCell ⟨b2,3,none⟩ (.bool p.a.s)).setCell ⟨b2,4,none⟩ (.int .i64 p.a.d)).setCell ⟨b2,5,none⟩ (.int .i64 p.b.y)).setCell ⟨b2,6,none⟩ (.int .i64 p.b.m)).setCell ⟨b2,7,none⟩ (.bool p.b.s)).setCell ⟨b2,8,none⟩ (.int .i64 p.b.d)).setCell ⟨b2,9,none⟩ (.slice F1 p.o.length m1)).setCell ⟨b2,10,none⟩ (.slice F2 p.d.length m2)).setCell ⟨b2,11,none⟩ (.slice F3 p.c.length m3)):=⟨_,rfl⟩
 obtain ⟨wq,hwq⟩:=wq';go_wp2;rw [← hwq] at A11 C11 D11 E11 T12 ⊢;clear hwq;obtain ⟨y0,y1,y2,y3,y4,y5,y6,y7,y8,y9,y10,y11⟩:=Qb.c12 T12;refine bodyPost_ret (v:=.agg #[.string p.h,.int .i64 p.a.y,.int .i64 p.a.m,.bool p.a.s,.int .i64 p.a.d,.int .i64 p.b.y,.int .i64 p.b.m,.bool p.b.s,.int .i64 p.b.d,.slice F1 p.o.length m1,.slice F2 p.d.length m2,.slice F3 p.c.length m3]) (by simp [results,Tryz.results33,go_sem,y0,y1,y2,y3,y4,y5,y6,y7,y8,y9,y10,y11]) rfl ⟨_,_,_,rfl,E11,A11,D11,C11⟩
end
section
open Go Go.RowKit Go.Shelf
attribute [local go_sem] Z8
attribute [local go_sem high] Da
theorem Qbg {l1 l2 : List Lt} {k : Nat} (h : Q8 l1 k ≠ Q8 l2 k) : l1 ≠ l2:=fun e => h (by rw [e])
theorem Qbd {l1 l2 : List Lt} (hl : l1.length = l2.length) (h : ∀ k,k < l1.length → Q8 l1 k = Q8 l2 k) : l1 = l2:=by
 refine List.ext_getElem hl fun i h1 h2 => ?_
 have:=h i h1
 rwa [Ls h1,Ls h2] at this
theorem Qbk {x y : Lt} (h1 : x.g = y.g) (h2 : x.n = y.n) : x = y:=by cases x;cases y;simp_all
theorem Rk {c : Qd} (hv : c.valid = true) (d : Dt) : 0 ≤ c.numV d ∧ c.numV d ≤ 1000000000:=by
 refine ⟨Qlq hv,?_⟩;by_cases h : c.numV d = 0
 ·omega
 ·obtain ⟨h1,h2,_⟩:=Rj hv h;have h3:=(num_le h1).2;have h4:=(Oe c c.ny).2;have h5:=Qcj hv;omega
theorem Bc (v1 v2 : Value) (l1 l2 : List Lt) (w : World) (h1 : Zl w v1 l1) (h2 : Zl w v2 l2) :
  Calls Tryz.prog 53 #[v1,v2] w fun e w' => e = .returned (.bool (decide (l1 = l2))) ∧ Qc w w':=by
 obtain ⟨A,ca,rfl,hA,hca,hca',_⟩:=h1;obtain ⟨B,cb,rfl,hB,hcb,hcb',_⟩:=h2;have hn1 : l1.length ≤ 9223372036854775807:=Nat.le_trans hca (Nat.le_trans hca' zD);have hn2 : l2.length ≤ 9223372036854775807:=Nat.le_trans hcb (Nat.le_trans hcb' zD);clear hca hca' hcb hcb';by_cases hl : l1.length = l2.length;rotate_left
 ·have hr : decide (l1 = l2) = false:=zf fun e => hl (by rw [e])
  rw [hr];have g1 : ((l1.length : Int) == (l2.length : Int)) = false:=zb Qa;have g2 : (l1.length == l2.length) = false:=zb hl;clear hr hA hB;generalize l1.length = n1 at *;generalize l2.length = n2 at *
  go_enter Tryz.func53,Tryz.ntmps53
  go_wp2;go_ret;exact ⟨rfl,Qc.refl _⟩
 obtain ⟨R,hR⟩:=Qe (decide (l1 = l2));have hno : Hid (∀ k,k < l1.length → Q8 l1 k ≠ Q8 l2 k → R = false):=fun _ _ h => by rw [hR];exact zf (Qbg h)
 have hyes : Hid ((∀ k,k < l1.length → Q8 l1 k = Q8 l2 k) → R = true):=fun h => by rw [hR];exact zt (Qbd hl h)
 rw [← hR];clear hR;rw [← hl] at hB ⊢;clear hl hn2;generalize l1.length = n at *;generalize Q8 l1 = f at *;generalize Q8 l2 = g at *
 go_enter Tryz.func53,Tryz.ntmps53
 go_upto_region 4 with fail
 go_loopw [5] (fun i wr => ∃ k : Nat,k ≤ n ∧ i = .int .i64 k ∧ Hid (∀ j,j < k → f j = g j) ∧ Qc w wr) (fun i _ => n - (intOf i).toNat)
 case atStart => exact ⟨0,Nat.zero_le _,rfl,fun j h => absurd h Qa,Qc.refl _⟩
 case round =>
  obtain ⟨k,hk,rfl,heq,hE⟩:=hrel;obtain ⟨wo,rfl⟩:=Qe wr;by_cases hlt : k < n
  ·obtain ⟨b, off, rfl, hb, hc⟩ := (hA.ext hE) Qa;have c0 : wo.cell? ⟨b, off + k * 2, none⟩ = some (.string (f k).g) := by simpa [Q5] using hc k 0 _ hlt rfl
   have c1 : wo.cell? ⟨b,off + k * 2 + 1,none⟩ = some (.int .i64 (f k).n):=by simpa [Q5] using hc k 1 _ hlt rfl
   clear hc;obtain ⟨b2,off2,rfl,hb2,hc⟩:=(hB.ext hE) Qa;have d0 : wo.cell? ⟨b2,off2 + k * 2,none⟩ = some (.string (g k).g):=by simpa [Q5] using hc k 0 _ hlt rfl
   have d1 : wo.cell? ⟨b2,off2 + k * 2 + 1,none⟩ = some (.int .i64 (g k).n):=by simpa [Q5] using hc k 1 _ hlt rfl
   clear hc hA hB;by_cases e : f k = g k
   ·have hall : Hid (∀ j,j < k + 1 → f j = g j):=fun j hj => by
     by_cases e2 : j = k
     ·subst e2;exact e
     ·exact heq.out j Qa
    rw [← e] at d0 d1;clear heq hno hyes e;generalize (f k).g = s at *;generalize (f k).n = z at *;go_upto_region 6 with fail
    refine Qy wo ?_;intro w2 h2;obtain ⟨hcbw2,hfbw2,hzbw2,hzw2⟩:=Qv wo h2;go_wp2;exact ⟨⟨k + 1,Qa,by go_num,hall,hE.trans h2⟩,zi⟩
   ·obtain rfl:=hno.out k hlt e
    have hq : (((f k).g.toList == (g k).g.toList) && ((f k).n == (g k).n)) = false:=by
     rw [Bool.and_eq_false_iff];by_cases e1 : (f k).g = (g k).g
     ·exact .inr (zb fun e2 => e (Qbk e1 e2))
     ·exact .inl (zb fun e2 => e1 (Wu e2))
    clear heq hno hyes e;generalize (f k).g = s at *;generalize (f k).n = z at *;generalize (g k).g = s' at *;generalize (g k).n = z' at *;generalize hq1 : (s.toList == s'.toList) = q1 at *;generalize hq2 : (z == z') = q2 at *;have hq' : (q1 = true → q2 = false):=by cases q1 <;> simp_all
    go_upto_region 6 with fail
    refine Qy wo ?_;intro w2 h2;obtain ⟨hcbw2,hfbw2,hzbw2,hzw2⟩:=Qv wo h2;cases q1 <;> cases q2 <;> first | (exact absurd (hq' rfl) zD) | (go_wp2;go_ret;exact ⟨rfl,hE.trans h2⟩)
  ·obtain rfl : k = n:=Qa;obtain rfl:=hyes.out heq.out;go_wp2;go_ret;exact ⟨rfl,hE⟩
theorem S8 (v1 v2 : Value) (l1 l2 : List Lt) (w : World) (h1 : Zl w v1 l1) (h2 : Zl w v2 l2) :
  Calls Tryz.prog 74 #[v1,v2] w fun e w' => e = .returned (.bool (decide (l1 = l2))) ∧ Qc w w':=by
 obtain ⟨A,ca,rfl,hA,hca,hca',_⟩:=h1;obtain ⟨B,cb,rfl,hB,hcb,hcb',_⟩:=h2;have hn1 : l1.length ≤ 9223372036854775807:=Nat.le_trans hca (Nat.le_trans hca' zD);have hn2 : l2.length ≤ 9223372036854775807:=Nat.le_trans hcb (Nat.le_trans hcb' zD);clear hca hca' hcb hcb';by_cases hl : l1.length = l2.length;rotate_left
 ·have hr : decide (l1 = l2) = false:=zf fun e => hl (by rw [e])
  rw [hr];have g1 : ((l1.length : Int) == (l2.length : Int)) = false:=zb Qa;have g2 : (l1.length == l2.length) = false:=zb hl;clear hr hA hB;generalize l1.length = n1 at *;generalize l2.length = n2 at *
  go_enter Tryz.func74,Tryz.ntmps74
  go_wp2;go_ret;exact ⟨rfl,Qc.refl _⟩
 obtain ⟨R,hR⟩:=Qe (decide (l1 = l2));have hno : Hid (∀ k,k < l1.length → Q8 l1 k ≠ Q8 l2 k → R = false):=fun _ _ h => by rw [hR];exact zf (Qbg h)
 have hyes : Hid ((∀ k,k < l1.length → Q8 l1 k = Q8 l2 k) → R = true):=fun h => by rw [hR];exact zt (Qbd hl h)
 rw [← hR];clear hR;rw [← hl] at hB ⊢;clear hl hn2;generalize l1.length = n at *;generalize Q8 l1 = f at *;generalize Q8 l2 = g at *
 go_enter Tryz.func74,Tryz.ntmps74
 go_upto_region 4 with fail
 go_loopw [13] (fun i wr => ∃ k : Nat,k ≤ n ∧ i = .int .i64 k ∧ Hid (∀ j,j < k → f j = g j) ∧ Qc w wr) (fun i _ => n - (intOf i).toNat)
 case atStart => exact ⟨0,Nat.zero_le _,rfl,fun j h => absurd h Qa,Qc.refl _⟩
 case round =>
  obtain ⟨k,hk,rfl,heq,hE⟩:=hrel;obtain ⟨wo,rfl⟩:=Qe wr;by_cases hlt : k < n
  ·obtain ⟨b, off, rfl, hb, hc⟩ := (hA.ext hE) Qa;have c0 : wo.cell? ⟨b, off + k * 2, none⟩ = some (.string (f k).g) := by simpa [Q5] using hc k 0 _ hlt rfl
   have c1 : wo.cell? ⟨b,off + k * 2 + 1,none⟩ = some (.int .i64 (f k).n):=by simpa [Q5] using hc k 1 _ hlt rfl
   clear hc;obtain ⟨b2,off2,rfl,hb2,hc⟩:=(hB.ext hE) Qa;have d0 : wo.cell? ⟨b2,off2 + k * 2,none⟩ = some (.string (g k).g):=by simpa [Q5] using hc k 0 _ hlt rfl
   have d1 : wo.cell? ⟨b2,off2 + k * 2 + 1,none⟩ = some (.int .i64 (g k).n):=by simpa [Q5] using hc k 1 _ hlt rfl
   clear hc hA hB;by_cases e : f k = g k
   ·have hall : Hid (∀ j,j < k + 1 → f j = g j):=fun j hj => by
     by_cases e2 : j = k
     ·subst e2;exact e
     ·exact heq.out j Qa
    rw [← e] at d0 d1;clear heq hno hyes e;generalize (f k).g = s at *;generalize (f k).n = z at *;go_upto_region 6 with fail
    refine Qy wo ?_;intro w2 h2;obtain ⟨hcbw2,hfbw2,hzbw2,hzw2⟩:=Qv wo h2;go_wp2;exact ⟨⟨k + 1,Qa,by go_num,hall,hE.trans h2⟩,zi⟩
   ·obtain rfl:=hno.out k hlt e
    have hq : (((f k).g.toList == (g k).g.toList) && ((f k).n == (g k).n)) = false:=by
     rw [Bool.and_eq_false_iff];by_cases e1 : (f k).g = (g k).g
     ·exact .inr (zb fun e2 => e (Qbk e1 e2))
     ·exact .inl (zb fun e2 => e1 (Wu e2))
    clear heq hno hyes e;generalize (f k).g = s at *;generalize (f k).n = z at *;generalize (g k).g = s' at *;generalize (g k).n = z' at *;generalize hq1 : (s.toList == s'.toList) = q1 at *;generalize hq2 : (z == z') = q2 at *;have hq' : (q1 = true → q2 = false):=by cases q1 <;> simp_all
    go_upto_region 6 with fail
    refine Qy wo ?_;intro w2 h2;obtain ⟨hcbw2,hfbw2,hzbw2,hzw2⟩:=Qv wo h2;cases q1 <;> cases q2 <;> first | (exact absurd (hq' rfl) zD) | (go_wp2;go_ret;exact ⟨rfl,hE.trans h2⟩)
  ·obtain rfl : k = n:=Qa;obtain rfl:=hyes.out heq.out;go_wp2;go_ret;exact ⟨rfl,hE⟩
end
section
open Go Go.RowKit Go.Shelf
attribute [local go_sem] Z8
attribute [local go_sem high] Qlf
theorem Fe {W : World} {b : Nat} {t : TypeId} {v0 v1 v2 v3 v4 v5 v6 : Value} (h : Qb W b t #[v0,v1,v2,v3,v4,v5,v6]) (u0 u1 u2 u3 u4 u5 u6 : Value) : Qb (((((((W.setCell ⟨b,0,none⟩ u0).setCell ⟨b,1,none⟩ u1).setCell ⟨b,2,none⟩ u2).setCell ⟨b,3,none⟩ u3).setCell ⟨b,4,none⟩ u4).setCell ⟨b,5,none⟩ u5).setCell ⟨b,6,none⟩ u6) b t #[u0,u1,u2,u3,u4,u5,u6]:=by unfold Qb at h ⊢;simp [World.setCell,Array.getElem?_modify,h]
theorem G9 {w W : World} {b : Nat} (h : Qc w W) (hb : w.heap.size ≤ b) (u0 u1 u2 u3 u4 u5 u6 : Value) : Qc w (((((((W.setCell ⟨b,0,none⟩ u0).setCell ⟨b,1,none⟩ u1).setCell ⟨b,2,none⟩ u2).setCell ⟨b,3,none⟩ u3).setCell ⟨b,4,none⟩ u4).setCell ⟨b,5,none⟩ u5).setCell ⟨b,6,none⟩ u6):=(((((((h.setCell (p:=⟨b,0,none⟩) hb u0).setCell (p:=⟨b,1,none⟩) hb u1).setCell (p:=⟨b,2,none⟩) hb u2).setCell (p:=⟨b,3,none⟩) hb u3).setCell (p:=⟨b,4,none⟩) hb u4).setCell (p:=⟨b,5,none⟩) hb u5).setCell (p:=⟨b,6,none⟩) hb u6)
theorem Kt {W : World} {b b' : Nat} {t : TypeId} {cs : Array Value} (h : Qb W b' t cs) (hne : b' ≠ b) (u0 u1 u2 u3 u4 u5 u6 : Value) : Qb (((((((W.setCell ⟨b,0,none⟩ u0).setCell ⟨b,1,none⟩ u1).setCell ⟨b,2,none⟩ u2).setCell ⟨b,3,none⟩ u3).setCell ⟨b,4,none⟩ u4).setCell ⟨b,5,none⟩ u5).setCell ⟨b,6,none⟩ u6) b' t cs:=(Qg (Qg (Qg (Qg (Qg (Qg (Qg h hne 0 u0) hne 1 u1) hne 2 u2) hne 3 u3) hne 4 u4) hne 5 u5) hne 6 u6)
theorem Qng (p : Pd) (vo1 vd1 vc1 vo2 vd2 vc2 : Value) (w : World) (hP1 : Wb w p vo1 vd1 vc1) (hP2 : Wb w p vo2 vd2 vc2) :
  Calls Tryz.prog 38 #[.agg #[.string p.h,.int .i64 p.a.y,.int .i64 p.a.m,.bool p.a.s,.int .i64 p.a.d,.int .i64 p.b.y,.int .i64 p.b.m,.bool p.b.s,.int .i64 p.b.d,vo1,vd1,vc1],.agg #[.string p.h,.int .i64 p.a.y,.int .i64 p.a.m,.bool p.a.s,.int .i64 p.a.d,.int .i64 p.b.y,.int .i64 p.b.m,.bool p.b.s,.int .i64 p.b.d,vo2,vd2,vc2]] w fun e w' => e = .returned (.bool true) ∧ Qc w w':=by
 obtain ⟨T1,c1,rfl,_⟩:=id hP1.o;obtain ⟨S1,f1,rfl,_⟩:=id hP1.c;obtain ⟨D1,e1,vs1,rfl,hD1,hcap1,hmax1,_,hat1⟩:=id hP1.d;obtain ⟨T2,c2,rfl,_⟩:=id hP2.o;obtain ⟨S2,f2,rfl,_⟩:=id hP2.c;obtain ⟨D2,e2,vs2,rfl,hD2,hcap2,hmax2,_,hat2⟩:=id hP2.d;have hn : p.d.length ≤ 9223372036854775807:=Nat.le_trans hcap1 (Nat.le_trans hmax1 zD);clear hcap1 hmax1 hcap2 hmax2;have NSO:=fun w h1 h2 => Bd (.slice T1 p.o.length c1) (.slice T2 p.o.length c2) p.o w h1 h2
 have NSC:=fun w h1 h2 => Bd (.slice S1 p.c.length f1) (.slice S2 p.c.length f2) p.c w h1 h2
 go_enter Tryz.func38,Tryz.ntmps38
 go_upto_region 1 with fail
 obtain ⟨v,b1,b2,E,B1,B2,hbr1,hbr,hn21,hv,hb1,hb2⟩:=Jy w 55 #[.string p.h,.int .i64 p.a.y,.int .i64 p.a.m,.bool p.a.s,.int .i64 p.a.d,.int .i64 p.b.y,.int .i64 p.b.m,.bool p.b.s,.int .i64 p.b.d,.slice T1 p.o.length c1,.slice D1 p.d.length e1,.slice S1 p.c.length f1] 55 #[.string p.h,.int .i64 p.a.y,.int .i64 p.a.m,.bool p.a.s,.int .i64 p.a.d,.int .i64 p.b.y,.int .i64 p.b.m,.bool p.b.s,.int .i64 p.b.d,.slice T2 p.o.length c2,.slice D2 p.d.length e2,.slice S2 p.c.length f2];rw [← hv,← hb2,← hb1];clear hv hb1 hb2;have Q1:=hP1.ext E;have Q2:=hP2.ext E;clear hP1 hP2;obtain ⟨j0,j1,j2,j3,j4,j5,j6,j7,j8,j9,j10,j11,jl⟩:=Qb.d12 B1;obtain ⟨k0,k1,k2,k3,k4,k5,k6,k7,k8,k9,k10,k11,kl⟩:=Qb.d12 B2
 go_upto_region 3 with (first | (go_at_call 53;(with_reducible refine zc (NSO _ Q1.o Q2.o) ?_);rintro e w1 ⟨rfl,hx⟩;replace E:=E.trans hx;replace Q1:=Q1.ext hx;replace Q2:=Q2.ext hx;replace B1:=B1.ext hx;replace B2:=B2.ext hx;clear hx;clear j0 j1 j2 j3 j4 j5 j6 j7 j8 j9 j10 j11 jl k0 k1 k2 k3 k4 k5 k6 k7 k8 k9 k10 k11 kl;obtain ⟨j0,j1,j2,j3,j4,j5,j6,j7,j8,j9,j10,j11⟩:=B1.c12;have jl:=B1.lt;obtain ⟨k0,k1,k2,k3,k4,k5,k6,k7,k8,k9,k10,k11⟩:=B2.c12;have kl:=B2.lt) | (go_at_call 53;(with_reducible refine zc (NSC _ Q1.c Q2.c) ?_);rintro e w2 ⟨rfl,hx⟩;replace E:=E.trans hx;replace Q1:=Q1.ext hx;replace Q2:=Q2.ext hx;replace B1:=B1.ext hx;replace B2:=B2.ext hx;clear hx;clear j0 j1 j2 j3 j4 j5 j6 j7 j8 j9 j10 j11 jl k0 k1 k2 k3 k4 k5 k6 k7 k8 k9 k10 k11 kl;obtain ⟨j0,j1,j2,j3,j4,j5,j6,j7,j8,j9,j10,j11⟩:=B1.c12;have jl:=B1.lt;obtain ⟨k0,k1,k2,k3,k4,k5,k6,k7,k8,k9,k10,k11⟩:=B2.c12;have kl:=B2.lt))
 clear NSO NSC;obtain ⟨g,hg⟩:=Qe (fun i => p.d.getD i Zd);have hg' : ∀ i,p.d.getD i Zd = g i:=fun i => by rw [hg]
 simp only [hg'] at hD1 hat1 hD2 hat2;clear hg hg' Q1 Q2;replace hD1:=hD1.ext E;replace hD2:=hD2.ext E;generalize p.d.length = n at *;replace hat1:=zh (fun i hi => (hat1 i hi).ext E);replace hat2:=zh (fun i hi => (hat2 i hi).ext E);go_upto_region 4 with fail
 go_loopw [5] (fun iv wr => ∃ k : Nat,k ≤ n ∧ iv = .int .i64 k ∧ Qc w2 wr) (fun iv _ => n - (intOf iv).toNat)
 case atStart => exact ⟨0,Nat.zero_le _,rfl,Qc.refl _⟩
 case round =>
  obtain ⟨k,hk,rfl,hE⟩:=hrel;obtain ⟨wo,rfl⟩:=Qe wr;clear j0 j1 j2 j3 j4 j5 j6 j7 j8 j9 j10 j11 jl k0 k1 k2 k3 k4 k5 k6 k7 k8 k9 k10 k11 kl;have B1o:=B1.ext hE;have B2o:=B2.ext hE;obtain ⟨j0,j1,j2,j3,j4,j5,j6,j7,j8,j9,j10,j11,jl⟩:=Qb.d12 B1o;obtain ⟨k0,k1,k2,k3,k4,k5,k6,k7,k8,k9,k10,k11,kl⟩:=Qb.d12 B2o;by_cases hlt : k < n
  ·obtain ⟨b,off,rfl,hb,hc⟩:=(hD1.ext hE) Qa;obtain ⟨c0,c1,c2,c3,c4,c5,c6⟩:=zp7 hc hlt;clear hc;obtain ⟨b',off',rfl,hb',hc⟩:=(hD2.ext hE) Qa;obtain ⟨d0,d1,d2,d3,d4,d5,d6⟩:=zp7 hc hlt;clear hc;have L1:=(hat1.out k hlt).ext hE;have L2:=(hat2.out k hlt).ext hE;obtain ⟨VL1,hv1⟩:=Qe (vs1 k);obtain ⟨VL2,hv2⟩:=Qe (vs2 k);rw [← hv1] at c6 L1;rw [← hv2] at d6 L2;clear hv1 hv2 hat1 hat2 hD1 hD2;generalize g k = G at *;obtain ⟨TL1,cl1,hVL,_⟩:=id L1;subst hVL;obtain ⟨TL2,cl2,hVL,_⟩:=id L2;subst hVL;have NSL:=fun w h1 h2 => Bd (.slice TL1 G.l.length cl1) (.slice TL2 G.l.length cl2) G.l w h1 h2
   go_upto_region 6 with fail
   clear j0 j1 j2 j3 j4 j5 j6 j7 j8 j9 j10 j11 jl k0 k1 k2 k3 k4 k5 k6 k7 k8 k9 k10 k11 kl;apply Ul (S:=fun w' p1 p2 => Qc wo w' ∧ p1 ≠ p2 ∧ Qb w' p1 57 #[.int .i64 G.on.y,.int .i64 G.on.m,.bool G.on.s,.int .i64 G.on.d,.bool G.i,.string G.w,.slice TL1 G.l.length cl1] ∧ Qb w' p2 57 #[.int .i64 G.on.y,.int .i64 G.on.m,.bool G.on.s,.int .i64 G.on.d,.bool G.i,.string G.w,.slice TL2 G.l.length cl2])
   ·refine Zc 14 [13] (fun x => Qc wo x) mixed rfl ?_;intro vz hvz;have HC:=hvz;refine Qs (g:=4) [0,1,2,3,4,5,6,7,8,9] HC ?_
    constructor
    refine ⟨fun u hu => ?_,?_⟩
    ·obtain ⟨j0,j1,j2,j3,j4,j5,j6,j7,j8,j9,j10,j11,jl⟩:=Qb.d12 (Qb.ext B1o hu);obtain ⟨k0,k1,k2,k3,k4,k5,k6,k7,k8,k9,k10,k11,kl⟩:=Qb.d12 (Qb.ext B2o hu);have r0:=(hu.cell (p:=⟨b,off + k * 7,none⟩) hb).trans c0;have r1:=(hu.cell (p:=⟨b,off + k * 7 + 1,none⟩) hb).trans c1;have r2:=(hu.cell (p:=⟨b,off + k * 7 + 2,none⟩) hb).trans c2;have r3:=(hu.cell (p:=⟨b,off + k * 7 + 3,none⟩) hb).trans c3;have r4:=(hu.cell (p:=⟨b,off + k * 7 + 4,none⟩) hb).trans c4;have r5:=(hu.cell (p:=⟨b,off + k * 7 + 5,none⟩) hb).trans c5;have r6:=(hu.cell (p:=⟨b,off + k * 7 + 6,none⟩) hb).trans c6;have s0:=(hu.cell (p:=⟨b',off' + k * 7,none⟩) hb').trans d0
     have s1:=(hu.cell (p:=⟨b',off' + k * 7 + 1,none⟩) hb').trans d1;have s2:=(hu.cell (p:=⟨b',off' + k * 7 + 2,none⟩) hb').trans d2;have s3:=(hu.cell (p:=⟨b',off' + k * 7 + 3,none⟩) hb').trans d3;have s4:=(hu.cell (p:=⟨b',off' + k * 7 + 4,none⟩) hb').trans d4;have s5:=(hu.cell (p:=⟨b',off' + k * 7 + 5,none⟩) hb').trans d5;have s6:=(hu.cell (p:=⟨b',off' + k * 7 + 6,none⟩) hb').trans d6;have hbu:=Nat.lt_of_lt_of_le hb hu.size;have hbu':=Nat.lt_of_lt_of_le hb' hu.size;exact Qk
    refine Zq 10 11 ?_ ?_
    ·go_wp2;obtain ⟨p1, wb, hbq, hwb, H10, HC', hx, gp1⟩ := Ql HC 57 #[.int .i64 0, .int .i64 0, .bool false, .int .i64 0, .bool false, .string ⟨#[]⟩, .slice none 0 0];rw [← hbq, ← hwb];try have ne : p2 < p1 := by have := H11.lt; omega
     replace HC:=HC';try replace H11:=H11.ext hx
     clear hbq hwb hx HC';refine Qf HC ?_;refine Qj 11 ?_;go_wp2;obtain ⟨p2,wb,hbq,hwb,H11,HC',hx,gp2⟩:=Ql HC 57 #[.int .i64 0,.int .i64 0,.bool false,.int .i64 0,.bool false,.string ⟨#[]⟩,.slice none 0 0];rw [← hbq,← hwb];try have ne : p1 < p2:=by have:=H10.lt;omega
     replace HC:=HC';try replace H10:=H10.ext hx
     clear hbq hwb hx HC';refine Qf HC ?_;refine Qj 12 ?_;obtain ⟨z0,z1,z2,z3,z4,z5,z6,x0,x1,x2,x3,x4,x5,x6,lx⟩:=Qb.e7 H10;go_wp2;have Hn:=Fe H10 (.int .i64 G.on.y) (.int .i64 G.on.m) (.bool G.on.s) (.int .i64 G.on.d) (.bool G.i) (.string G.w) (.slice TL1 G.l.length cl1);try have On:=Kt H11 (show p2 ≠ p1 by omega) (.int .i64 G.on.y) (.int .i64 G.on.m) (.bool G.on.s) (.int .i64 G.on.d) (.bool G.i) (.string G.w) (.slice TL1 G.l.length cl1)
     replace HC:=G9 HC gp1 (.int .i64 G.on.y) (.int .i64 G.on.m) (.bool G.on.s) (.int .i64 G.on.d) (.bool G.i) (.string G.w) (.slice TL1 G.l.length cl1);clear H10 z0 z1 z2 z3 z4 z5 z6 x0 x1 x2 x3 x4 x5 x6 lx;have H10:=Hn;try (replace H11:=On;clear On)
     clear Hn;generalize World.setCell _ _ _ = wq at *;refine Qf HC ?_;refine Qr 13 ?_;obtain ⟨z0,z1,z2,z3,z4,z5,z6,x0,x1,x2,x3,x4,x5,x6,lx⟩:=Qb.e7 H11;go_wp2;have Hn:=Fe H11 (.int .i64 G.on.y) (.int .i64 G.on.m) (.bool G.on.s) (.int .i64 G.on.d) (.bool G.i) (.string G.w) (.slice TL2 G.l.length cl2);try have On:=Kt H10 (show p1 ≠ p2 by omega) (.int .i64 G.on.y) (.int .i64 G.on.m) (.bool G.on.s) (.int .i64 G.on.d) (.bool G.i) (.string G.w) (.slice TL2 G.l.length cl2)
     replace HC:=G9 HC gp2 (.int .i64 G.on.y) (.int .i64 G.on.m) (.bool G.on.s) (.int .i64 G.on.d) (.bool G.i) (.string G.w) (.slice TL2 G.l.length cl2);clear H11 z0 z1 z2 z3 z4 z5 z6 x0 x1 x2 x3 x4 x5 x6 lx;have H11:=Hn;try (replace H10:=On;clear On)
     clear Hn;generalize World.setCell _ _ _ = wq at *;refine Qq ?_;refine Qx ?_;exact Jl p1 p2 ⟨HC,Qa,H10,H11⟩ rfl
    ·go_wp2;obtain ⟨p2, wb, hbq, hwb, H11, HC', hx, gp2⟩ := Ql HC 57 #[.int .i64 0, .int .i64 0, .bool false, .int .i64 0, .bool false, .string ⟨#[]⟩, .slice none 0 0];rw [← hbq, ← hwb];try have ne : p1 < p2 := by have := H10.lt; omega
     replace HC:=HC';try replace H10:=H10.ext hx
     clear hbq hwb hx HC';refine Qf HC ?_;refine Qj 10 ?_;go_wp2;obtain ⟨p1,wb,hbq,hwb,H10,HC',hx,gp1⟩:=Ql HC 57 #[.int .i64 0,.int .i64 0,.bool false,.int .i64 0,.bool false,.string ⟨#[]⟩,.slice none 0 0];rw [← hbq,← hwb];try have ne : p2 < p1:=by have:=H11.lt;omega
     replace HC:=HC';try replace H11:=H11.ext hx
     clear hbq hwb hx HC';refine Qf HC ?_;refine Qj 12 ?_;obtain ⟨z0,z1,z2,z3,z4,z5,z6,x0,x1,x2,x3,x4,x5,x6,lx⟩:=Qb.e7 H10;go_wp2;have Hn:=Fe H10 (.int .i64 G.on.y) (.int .i64 G.on.m) (.bool G.on.s) (.int .i64 G.on.d) (.bool G.i) (.string G.w) (.slice TL1 G.l.length cl1);try have On:=Kt H11 (show p2 ≠ p1 by omega) (.int .i64 G.on.y) (.int .i64 G.on.m) (.bool G.on.s) (.int .i64 G.on.d) (.bool G.i) (.string G.w) (.slice TL1 G.l.length cl1)
     replace HC:=G9 HC gp1 (.int .i64 G.on.y) (.int .i64 G.on.m) (.bool G.on.s) (.int .i64 G.on.d) (.bool G.i) (.string G.w) (.slice TL1 G.l.length cl1);clear H10 z0 z1 z2 z3 z4 z5 z6 x0 x1 x2 x3 x4 x5 x6 lx;have H10:=Hn;try (replace H11:=On;clear On)
     clear Hn;generalize World.setCell _ _ _ = wq at *;refine Qf HC ?_;refine Qr 13 ?_;obtain ⟨z0,z1,z2,z3,z4,z5,z6,x0,x1,x2,x3,x4,x5,x6,lx⟩:=Qb.e7 H11;go_wp2;have Hn:=Fe H11 (.int .i64 G.on.y) (.int .i64 G.on.m) (.bool G.on.s) (.int .i64 G.on.d) (.bool G.i) (.string G.w) (.slice TL2 G.l.length cl2);try have On:=Kt H10 (show p1 ≠ p2 by omega) (.int .i64 G.on.y) (.int .i64 G.on.m) (.bool G.on.s) (.int .i64 G.on.d) (.bool G.i) (.string G.w) (.slice TL2 G.l.length cl2)
     replace HC:=G9 HC gp2 (.int .i64 G.on.y) (.int .i64 G.on.m) (.bool G.on.s) (.int .i64 G.on.d) (.bool G.i) (.string G.w) (.slice TL2 G.l.length cl2);clear H11 z0 z1 z2 z3 z4 z5 z6 x0 x1 x2 x3 x4 x5 x6 lx;have H11:=Hn;try (replace H10:=On;clear On)
     clear Hn;generalize World.setCell _ _ _ = wq at *;refine Qq ?_;refine Qx ?_;exact Jl p1 p2 ⟨HC,Qa,H10,H11⟩ rfl
   rintro p1 p2 w3 ⟨h3,ne,H10,H11⟩;replace L1:=L1.ext h3;replace L2:=L2.ext h3;clear c0 c1 c2 c3 c4 c5 c6 d0 d1 d2 d3 d4 d5 d6 hb hb';obtain ⟨x0,x1,x2,x3,x4,x5,x6,xl⟩:=Qb.d7 H10;obtain ⟨y0,y1,y2,y3,y4,y5,y6,yl⟩:=Qb.d7 H11;go_wp2_with (go_at_call 53;refine zc (NSL _ L1 L2) ?_;rintro e w4 ⟨rfl,h4⟩);exact ⟨⟨k + 1,Qa,by go_num,(hE.trans h3).trans h4⟩,zi⟩
  ·obtain rfl : k = n:=Qa;go_wp2;go_ret;exact ⟨rfl,E.trans hE⟩
end
section
open Go Go.ChangeShapes Go.WideShapes Go.ChangeAt Go.RowKit Go.Deep
section
variable {H : Type} {enc : TypeId × Value → H} {w : World} {base : Nat} {spare : Nat → Bool} {held : Bool} {r : Reach} {b0 : Nat} {v : Value} {d : DataW H} {p : List MemPlace}
theorem Qjo (hv : Value.okWide Tryz.prog w r b0 3 v) (h : DataW.Trod enc Tryz.prog w base spare held 3 v d p) : ∃ z : Int,v = .int .i64 z ∧ -9223372036854775808 ≤ z ∧ z ≤ 9223372036854775807:=by
 obtain ⟨z,rfl⟩:=okWide_int Tryz.underlying3 hv;obtain ⟨n,h⟩:=h;obtain ⟨z',e,h1⟩:=Ko (v:=.int .i64 z) ⟨_,h⟩;cases e
 exact ⟨z,rfl,h1⟩
end
section
variable {H : Type} {enc : TypeId × Value → H} {w : World} {base : Nat} {spare : Nat → Bool} {held : Bool} {r : Reach} {b0 : Nat} {v : Value} {d : DataW H} {p : List MemPlace}
theorem Qnj {P : Program} {ts : List TypeId} {ds : List (DataW H)} {j : Nat} {t : TypeId} (h : (DataW.weightsEach P ts ds).all (· ≤ reachBytes) = true) (ht : ts[j]? = some t) (hd : ds[j]? = some d) : ∀ n ∈ d.weights P t,n ≤ reachBytes:=fun n hn => by
 have:=List.all_eq_true.1 h _ (DataW.weights_mem_each ht hd n hn)
 simpa using this
theorem Np {P : Program} {m : Nat} {t : TypeId} {cs : List Value} {o : Nat} {xs : List (DataW H × List MemPlace)} {n i : Nat} (hi : i < xs.length) (h : DataW.trod enc P w base spare held m t ((cs.drop o).take (P.cellsOf t)) = xs[i]?) (hn : P.cellsOf t = n) :
  DataW.trod enc P w base spare held m t ((cs.drop o).take n) = some xs[i]:=by
 rw [hn] at h;rw [h,List.getElem?_eq_getElem hi]
theorem Ds : reachBytes = 140737488351232:=rfl
end
end
section
structure Y3 where
 e : Int
 r : Int
 l : Int
 deriving DecidableEq
def Mr : Y3:=⟨0,0,0⟩
def nOk (n : Int) : Bool:=decide (0 ≤ n) && decide (n ≤ 1048576)
def Y3.ok (h : Y3) : Bool:=nOk h.e && nOk h.r && nOk h.l
def Zn (n : Int) (d : Rt) : Int:=n - d.n * n / d.d
def Mk (b d : Rt) (h : Y3) : Y3:=⟨Zn h.e d + (Zn h.l d + 1) / 2,Zn h.r d + Zn h.l d / 2,b.n * Zn h.e d / b.d⟩
def Mj (b d : Rt) : Nat → Y3 → Y3 × Int
 | 0,h => (h,0)
 | m + 1,h => if (Mk b d h).ok then Mj b d m (Mk b d h) else (Mr,6)
def Ve (h : Y3) (b d : Rt) (y : Int) : Y3 × Int:=if h.ok then (if b.shr && d.shr then (if y < 0 ∨ 40 < y then (Mr,8) else Mj b d y.toNat h) else (Mr,2)) else (Mr,82)
theorem P9 {n : Int} : nOk n = true ↔ 0 ≤ n ∧ n ≤ 1048576:=by simp [nOk]
theorem Bf {r : Rt} (h : r.shr = true) : 0 ≤ r.n ∧ r.n ≤ r.d ∧ 1 ≤ r.d ∧ r.d ≤ 1048576:=by
 simp only [Rt.shr,Bool.and_eq_true,decide_eq_true_eq] at h;have:=Yl h.1.1;omega
theorem Hu {n : Int} {r : Rt} (h : r.shr = true) (h1 : 0 ≤ n) (h2 : n ≤ 1048576) : 0 ≤ r.n * n ∧ r.n * n ≤ 1099511627776 ∧ 0 ≤ r.n * n / r.d ∧ r.n * n / r.d ≤ n:=by
 obtain ⟨r1,r2,r3,r4⟩:=Bf h;have m0:=Int.mul_nonneg r1 h1;have m1:=My (a:=r.n) (b:=n) (A:=1048576) (B:=1048576) Qa Qa h1 h2;refine ⟨m0,by omega,Int.ediv_nonneg m0 Qa,Int.ediv_le_of_le_mul Qa ?_⟩;rw [Int.mul_comm n];exact Int.mul_le_mul_of_nonneg_right r2 h1
theorem S0 {n : Int} {d : Rt} (h : d.shr = true) (h1 : 0 ≤ n) (h2 : n ≤ 1048576) : 0 ≤ Zn n d ∧ Zn n d ≤ 1048576:=by
 have:=Hu h h1 h2;unfold Zn;omega
end
end Go.Proofs.YtoflcheopfppoaaGreatDoor

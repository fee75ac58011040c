/- Walks and plain facts, packed; no conditions but those that each states. -/
import Derived.Test.YtoflcheopfppoaaGreatDoorK13
import Derived.Laws.StructEq
set_option maxRecDepth 100000
set_option maxHeartbeats 4000000
namespace Go.Proofs.YtoflcheopfppoaaGreatDoor
section
open Go Go.RowKit Go.Shelf
attribute [local go_sem] Z8
def X8 (r : Rf) : List Value:=[.int .i64 r.1,.int .i64 r.2]
theorem Qam : (Tryz.prog.info? 33).map (fun i => (i.zero,i.size,i.bytes)) = some (some (.agg #[.int .i64 0,.int .i64 0]),2,16):=by kernel_rfl
theorem Sl (a b : Int) : ∀ u ∈ [Value.int .i64 a,.int .i64 b],u.oneCell' = true:=by simp [Value.oneCell']
structure X0 (wE wr : World) (Lo Li : List Rf) (x y : Value) : Prop where
 e : Qc wE wr
 a : wr.ownsRow wE.heap.size 33 2 x Lo.length (Lo.flatMap X8)
 b : wr.ownsRow wE.heap.size 33 2 y Li.length (Li.flatMap X8)
 ne : ∀ q,x.ownBlock = some q → y.ownBlock ≠ some q
namespace X0
variable {wE wr w1 : World} {Lo Li : List Rf} {x y x' y' : Value}
theorem zero (w : World) : X0 w w [] [] (.slice none 0 0) (.slice none 0 0):=⟨Qc.refl _,⟨rfl,.inl ⟨rfl,rfl⟩⟩,⟨rfl,.inl ⟨rfl,rfl⟩⟩,fun q h => by cases h⟩
theorem ext (h : X0 wE wr Lo Li x y) (k : Qc wr w1) : X0 wE w1 Lo Li x y:=⟨h.e.trans k,J0 h.a k,J0 h.b k,h.ne⟩
theorem fst (h : X0 wE wr Lo Li x y) {r : Rf} (hown : w1.ownsRow wE.heap.size 33 2 x' (Lo.length + 1) (Lo.flatMap X8 ++ X8 r)) (hg : wr.grownBy w1 x.ownBlock)
  (hb : x'.ownBlock = x.ownBlock ∨ x'.ownBlock = some wr.heap.size) : X0 wE w1 (Lo ++ [r]) Li x' y:=by
 refine ⟨h.e.grown hg (fun q hq => (h.a.lt q hq).1),by rw [List.length_append,List.flatMap_append];simpa using hown,h.b.kept hg ?_,fun q hq => ?_⟩
 ·cases hx : x.ownBlock with
  | none => cases hy : y.ownBlock with
   | none => exact .inl rfl
   | some r => exact .inr (fun e => by cases e)
  | some q => exact .inr (h.ne q hx)
 ·rcases hb with hb | hb
  ·exact h.ne q (hb ▸ hq)
  ·intro hy;rw [hb] at hq;have:=(h.b.lt q hy).2;have e:=Option.some.inj hq;omega
theorem snd (h : X0 wE wr Lo Li x y) {r : Rf} (hown : w1.ownsRow wE.heap.size 33 2 y' (Li.length + 1) (Li.flatMap X8 ++ X8 r)) (hg : wr.grownBy w1 y.ownBlock)
  (hb : y'.ownBlock = y.ownBlock ∨ y'.ownBlock = some wr.heap.size) : X0 wE w1 Lo (Li ++ [r]) x y':=by
 refine ⟨h.e.grown hg (fun q hq => (h.b.lt q hq).1),h.a.kept hg ?_,by rw [List.length_append,List.flatMap_append];simpa using hown,fun q hq => ?_⟩
 ·cases hx : x.ownBlock with
  | none => exact .inl rfl
  | some q => exact .inr (fun e => h.ne q hx e.symm)
 ·rcases hb with hb | hb
  ·rw [hb];exact h.ne q hq
  ·rw [hb];intro e;have:=(h.a.lt q hq).2;have e:=Option.some.inj e;omega
end X0
theorem Qda : ∀ (L : List Rf) (i j : Nat),i < L.length → j < 2 → (L.flatMap X8)[i * 2 + j]? = (X8 (L.getD i Qn))[j]?
 | r :: L,0,j,_,hj => by
  match j,hj with
  | 0,_ => simp [X8]
  | 1,_ => simp [X8]
 | r :: L,i + 1,j,h,hj => by
  have hl : (X8 r).length = 2:=rfl;rw [List.flatMap_cons,List.getElem?_append_right Qa,hl,show (i + 1) * 2 + j - 2 = i * 2 + j by omega,Qda L i j (by simpa using h) hj];rfl
theorem Kw {w : World} {base : Nat} {v : Value} {L : List Rf} (h : w.ownsRow base 33 2 v L.length (L.flatMap X8)) : ∃ F c,v = .slice F L.length c ∧ Qm w F L.length 2 (fun i => [.int .i64 ((L.getD i Qn).1 : Nat),.int .i64 ((L.getD i Qn).2 : Nat)]):=by
 rcases h.2 with ⟨rfl,h0⟩ | ⟨q,cap,cur,rfl,hb,hq,hn,hm,_⟩
 ·exact ⟨none,0,by rw [h0],fun hp => by omega⟩
 ·refine ⟨_,_,rfl,fun _ => ⟨q,0,rfl,(Array.getElem?_eq_some_iff.1 hq).1,fun i j v hi hv => ?_⟩⟩;have hj : j < 2:=(List.getElem?_eq_some_iff.1 hv).1;have hlt : i * 2 + j < L.length * 2:=Qa;rw [Nat.zero_add,World.ownsRow.cellAt h (i * 2 + j) hlt,Qda L i j hi hj];exact hv
theorem Qjk : (Tryz.prog.info? 125).map (fun i => (i.zero,i.size,i.bytes)) = some (some (.slice none 0 0),1,24):=by kernel_rfl
theorem Qkr (n : Nat) (hn : n ≤ 1000000) (w : World) : (Instr.makeSlice 164 (.int .i64 (n : Int)) (.int .i64 (n : Int))).run Tryz.prog w = .ok (.slice (some ⟨w.heap.size,0,none⟩) n n) (w.alloc (.cells (Array.replicate n (.slice none 0 0)) 125)):=by
 obtain ⟨i0,hi,hz0,hz1,hz2⟩:=info_parts Qjk;have h:=Ba (P:=Tryz.prog) 164 125 i0 _ Tryz.underlying164 hi hz0 .i64 .i64 n (by rw [hz2];omega) Qa w;rw [hz1] at h;rw [h];exact congrArg _ (P3 n w rfl)
theorem Dh {W : World} {b b' n s : Nat} {e : TypeId} {v : Value} {xs : List Value} (h : W.ownsRow b e s v n xs) (hb : b' ≤ b) : W.ownsRow b' e s v n xs:=by
 refine ⟨h.1,?_⟩;rcases h.2 with hn | ⟨g,cap,cur,hv,h1,rest⟩
 ·exact .inl hn
 ·exact .inr ⟨g,cap,cur,hv,Nat.le_trans hb h1,rest⟩
def FM (W W' : World) : Prop:=∀ b t (cs : Array Value),Qb W b t cs → t ≠ 125 → Qb W' b t cs
theorem FM.refl (W : World) : FM W W:=fun _ _ _ h _ => h
theorem FM.ext {W W1 W2 : World} (h : FM W W1) (x : Qc W1 W2) : FM W W2:=fun b t cs hb ht => (h b t cs hb ht).ext x
theorem FM.set {W W1 : World} {b : Nat} {cs : Array Value} (h : FM W W1) (hb : Qb W1 b 125 cs) (j : Nat) (u : Value) : FM W (W1.setCell ⟨b,j,none⟩ u):=fun b' t' cs' hb' ht' => Wn (h b' t' cs' hb' ht') (Y7 (h b' t' cs' hb' ht') hb ht') j u
theorem FM.grown {W W1 W2 : World} {v : Value} {e : TypeId} {s n : Nat} {xs : List Value} (h : FM W W1) (ho : W1.ownsRow W.heap.size e s v n xs) (hg : W1.grownBy W2 v.ownBlock) : FM W W2:=fun b t cs hb ht => (h b t cs hb ht).kept hg (fun e => by have:=(Xe ho b e.symm).1;have:=hb.lt;omega)
theorem Qcs {W W' : World} {base n s : Nat} {e : TypeId} {v : Value} {xs : List Value} (h : W.ownsRow base e s v n xs) (he : e ≠ 125) (f : FM W W') : W'.ownsRow base e s v n xs:=by
 refine ⟨h.1,?_⟩;rcases h.2 with hn | ⟨g,cap,cur,hv,hb,hg,rest⟩
 ·exact .inl hn
 ·exact .inr ⟨g,cap,cur,hv,hb,f g e cur hg he,rest⟩
theorem X0.fm {wE wr w1 : World} {Lo Li : List Rf} {x y : Value} (h : X0 wE wr Lo Li x y) (f : FM wr w1) (e : Qc wE w1) : X0 wE w1 Lo Li x y:=⟨e,Qcs h.a zD f,Qcs h.b zD f,h.ne⟩
def K7 (W : World) (v : Value) (xs : List Nat) : Prop:=∃ D cd bD,v = .slice D xs.length cd ∧ Qw W 3 D xs.length bD (fun k => .int .i64 ((xs.getD k 0 : Nat) : Int))
theorem K7.fm {W W' : World} {v : Value} {xs : List Nat} (h : K7 W v xs) (f : FM W W') : K7 W' v xs:=by
 obtain ⟨D,cd,bD,e,ha⟩:=h;refine ⟨D,cd,bD,e,ha.a,fun hn => ?_⟩;obtain ⟨cs,h1,h2⟩:=ha.h hn;exact ⟨cs,f _ _ _ h1 zD,h2⟩
theorem Ga (p : Pd) (b : Bool) (i : Nat) : ∀ n,(Yt p b i n).length ≤ n
 | 0 => Nat.le_refl _
 | n + 1 => by
  have:=Ga p b i n;unfold Yt;rw [List.length_append]
  split <;> simp <;> omega
theorem V6 {l : List Pd} (b : Bool) {m : Nat} (hm : ∀ i,i < l.length → (l.getD i Qp).d.length ≤ m) : ∀ n,n ≤ l.length → (Ys l b n).length ≤ n * m
 | 0,_ => by simp [Ys]
 | n + 1,hn => by
  have h1:=V6 b hm n Qa;have h2:=Ga (l.getD n Qp) b n (l.getD n Qp).d.length;have h3:=hm n Qa;unfold Ys;rw [List.length_append,Nat.succ_mul];omega
theorem Dw {p : Pd} {b : Bool} {i n : Nat} (h : (p.d.getD n Zd).i = b) : Yt p b i (n + 1) = Yt p b i n ++ [(i,n)]:=by
 conv => lhs;unfold Yt
 rw [if_pos h]
theorem Dv {p : Pd} {b : Bool} {i n : Nat} (h : (p.d.getD n Zd).i ≠ b) : Yt p b i (n + 1) = Yt p b i n:=by
 conv => lhs;unfold Yt
 rw [if_neg h,List.append_nil]
theorem Qkl (A A' : OA) (ca cb : Nat) (c : Qd) (l : List Pd) (vl : Value) (ba : Nat) (days : Int) (w : World) (hA : K3 w ba A A' ca cb c vl l) (hv : c.valid = true) (hb1 : l.length ≤ 1000) (hb2 : ∀ i,i < l.length → (l.getD i Qp).d.length ≤ 1000) :
  Calls Tryz.prog 35 #[.pointer (some ⟨ba,0,none⟩),.int .i64 days] w fun e w' => ∃ v,e = .returned v ∧ Qc w w' ∧ w'.ownsRow w.heap.size 35 4 v (c.matchI l days).length ((c.matchI l days).flatMap (Uf (fun o => (Zb l false).getD o Qn) (fun k => (Zb l true).getD k Qn))):=by
 obtain ⟨i0,hi0,hz0,hz1,hz2⟩:=info_parts Qam;obtain ⟨j0,hj0,hy3,hy4,hy5⟩:=info_parts Ms;obtain ⟨D,cap,vo,vd,vc,rfl,hD,hcap,hmax,_,hat⟩:=id hA.P;have hn : l.length ≤ 9223372036854775807:=Qa;obtain ⟨g,hg⟩:=Qe (fun i => l.getD i Qp);have hg' : ∀ i,l.getD i Qp = g i:=fun i => by rw [hg]
 simp only [hg'] at hD hat;replace hg':=zh hg';clear hg hcap hmax
 go_enter Tryz.func35,Tryz.ntmps35
 obtain ⟨a0,a1,a2,a3,al⟩:=Qb.d4 hA.b;go_upto_region 3 with fail
 clear a0 a1 a2 a3 al
 go_loopw [5,6,22] (fun ov iv jv wr => ∃ i : Nat,i ≤ l.length ∧ jv = .int .i64 i ∧ X0 w wr (Ys l false i) (Ys l true i) ov iv) (fun _ _ jv _ => l.length - (intOf jv).toNat)
 case atStart => exact ⟨0,Nat.zero_le _,rfl,X0.zero w⟩
 case round =>
  obtain ⟨i,hi,rfl,T⟩:=hrel;obtain ⟨wo,rfl⟩:=Qe wr;by_cases hlt : i < l.length;rotate_left
  ·obtain rfl : i = l.length := Qa;have hLo := V6 false hb2 l.length (Nat.le_refl _);have hLi := V6 true hb2 l.length (Nat.le_refl _);obtain ⟨Lo, hLoe⟩ := Qe (Zb l false);obtain ⟨Li, hLie⟩ := Qe (Zb l true);have q1 : Ys l false l.length = Lo := by rw [hLoe]; rfl
   have q2 : Ys l true l.length = Li:=by rw [hLie];rfl
   rw [q1] at T hLo;rw [q2] at T hLi;have hno : Lo.length ≤ 1000000:=Qa;have hni : Li.length ≤ 1000000:=Qa;replace hLoe:=zh hLoe;replace hLie:=zh hLie;clear q1 q2 hLo hLi hat hD;obtain ⟨Vo,co,rfl,_⟩:=Kw T.a;obtain ⟨Vi,ci,rfl,_⟩:=Kw T.b;have hmkr:=fun w => Qkr Lo.length hno w
   go_upto_region 16 with fail
   clear hmkr;obtain ⟨wy,hwy⟩:=Qe (wo.alloc (.cells (Array.replicate Lo.length (.slice none 0 0)) 125));rw [← hwy];have AY : Qw wy 125 (some ⟨wo.heap.size,0,none⟩) Lo.length wo.heap.size (fun _ => .slice none 0 0):=by rw [hwy];exact Tv wo _ _ _
   have x1 : Qc wo wy:=by rw [hwy];exact (Qc.refl wo).alloc _
   have T2:=T.ext x1;have hwb:=T.e.size;generalize wo.heap.size = bY at *;clear hwy T x1
   go_loopw [55] (fun jv wr => ∃ (i : Nat) (rv : Nat → Value),i ≤ Lo.length ∧ jv = .int .i64 i ∧ X0 w wr Lo Li (.slice Vo Lo.length co) (.slice Vi Li.length ci) ∧ Qw wr 125 (some ⟨bY,0,none⟩) Lo.length bY rv ∧ (∀ x,x < i → K7 wr (rv x) (c.adjA l days x)) ∧ ∀ x,i ≤ x → rv x = .slice none 0 0) (fun jv _ => Lo.length - (intOf jv).toNat)
   case atStart => exact ⟨0,_,Nat.zero_le _,rfl,T2,AY,fun x hx => absurd hx Qa,fun _ _ => rfl⟩
   case round =>
    clear T2 AY;obtain ⟨i,rv,hi,rfl,T,AY,hrow,hnil⟩:=hrel;obtain ⟨wo,rfl⟩:=Qe wr;by_cases hlt : i < Lo.length;rotate_left
    ·obtain rfl : i = Lo.length:=Qa;obtain ⟨F,cF,e,RO⟩:=Kw T.a;injection e with e1 _ e3
     subst e1;subst e3;obtain ⟨F2,cF2,e',RI⟩:=Kw T.b;injection e' with e1 _ e3
     subst e1;subst e3;have hadj:=Cm c l days;rw [← hLie.out] at hadj
     have hY : Nw wo (.slice (some ⟨bY,0,none⟩) Lo.length Lo.length) Lo.length (c.adjA l days):=⟨_,_,rv,rfl,K9 AY,fun x hx => by
      obtain ⟨D,cd,bD,e,ha⟩:=hrow x hx;refine ⟨D,cd,Nat.le_trans ?_ hni,e,K9 ha⟩;unfold Qd.adjA;rw [← hLie.out];exact Nat.le_trans (List.length_filter_le _ _) (by simp)⟩
     have N1:=fun Vo Vi co ci => Qlk Vo Vi Lo.length Li.length co ci _ wo hadj hY hno hni
     have hG:=Pk (no:=Lo.length) hadj (fun _ => false) Lo.length 0 Jg Qa Qll;have N2:=fun bm bs Vo Vi co ci O I X cO cI cX bo bi bf h1 h2 (h : wo.heap.size ≤ bs) W hM => Qgs wo bm bs Vo Vi co ci _ O I X Lo.length Li.length cO cI cX bo bi bf _ (fun o => Lo.getD o Qn) (fun k => Li.getD k Qn) hadj hY h1 h2 hno hni h hG W hM
     have hE:=T.e
     have hch : Hid (c.matchI l days = Ya (c.adjA l days) Li.length Lo.length Lo.length 0 (Zt (c.adjA l days) Li.length (fun _ => false) Lo.length 0 Jg).1 (fun _ => false)):=by
      unfold Hid Qd.matchI Kh;rw [← hLie.out,← hLoe.out]
     clear hadj hY hrow hnil AY T;go_wp2_with (first | (go_at_call 80;refine zc (N1 _ _ _ _) ?_;rintro e w5 ⟨bm,bs,O,I,X,cO,cI,cX,bo,bi,bf,rfl,hbs,hM⟩) | (go_at_call 81;refine zc (N2 _ _ _ _ _ _ _ _ _ _ _ _ _ _ _ RO RI hbs _ hM) ?_;rintro e w6 ⟨v,rfl,x6,hO⟩));go_ret;rw [hch.out,← hLoe.out,← hLie.out];exact ⟨_,rfl,hE.trans x6,Dh hO hE.size⟩
    obtain ⟨F,cF,e,RO⟩:=Kw T.a;injection e with e1 _ e3
    subst e1;subst e3;obtain ⟨bo,oo,rfl,hbo,hco⟩:=RO Qa;obtain ⟨x,hx⟩:=Qe (Lo.getD i Qn)
    have c0 : wo.cell? ⟨bo,oo + i * 2,none⟩ = some (.int .i64 (x.1 : Nat)):=by
     have:=hco i 0 (.int .i64 ((Lo.getD i Qn).1 : Nat)) hlt rfl;rw [← hx] at this;exact this
    have c1 : wo.cell? ⟨bo,oo + i * 2 + 1,none⟩ = some (.int .i64 (x.2 : Nat)):=by
     have:=hco i 1 (.int .i64 ((Lo.getD i Qn).2 : Nat)) hlt rfl;rw [← hx] at this;exact this
    clear hco RO;replace hx:=zh hx;go_upto_region 19 with fail
    obtain ⟨wx,hwx⟩:=Qe (wo.alloc (.cells #[.int .i64 (x.1 : Nat),.int .i64 (x.2 : Nat)] 33));rw [← hwx];have x1 : Qc wo wx:=by rw [hwx];exact (Qc.refl wo).alloc _
    have BX : Qb wx wo.heap.size 33 #[.int .i64 (x.1 : Nat),.int .i64 (x.2 : Nat)]:=by rw [hwx];exact Qb.new _ _ _
    replace T:=T.ext x1;replace AY:=AY.ext x1;have hrow2 : ∀ y,y < i → K7 wx (rv y) (c.adjA l days y):=fun y hy => (hrow y hy).fm ((FM.refl _).ext x1)
    have hxm:=Vl.1 (show x ∈ Zb l false by rw [← hLoe.out,hx.out];exact J6 hlt);obtain ⟨hx1,hx2,_⟩:=hxm;generalize wo.heap.size = bx at *;clear hwx x1 c0 c1 hbo hrow;have hnii : rv i = .slice none 0 0:=hnil i (Nat.le_refl _)
    go_loopw [62] (fun kv wr => ∃ (k : Nat) (v : Value) (xs : List Nat),k ≤ Li.length ∧ kv = .int .i64 k ∧ Qc w wr ∧ FM wx wr ∧ wx.heap.size ≤ wr.heap.size ∧ Qw wr 125 (some ⟨bY,0,none⟩) Lo.length bY (fun y => if y = i then v else rv y) ∧ wr.ownsRow wx.heap.size 3 1 v xs.length (xs.map fun z : Nat => Value.int .i64 (z : Int)) ∧ Hid (xs = (List.range k).filter fun k => c.mayB l days x (Li.getD k Qn))) (fun kv _ => Li.length - (intOf kv).toNat)
    case atStart => exact ⟨0,.slice none 0 0,[],Nat.zero_le _,rfl,T.e,FM.refl _,Nat.le_refl _,AY.congr (fun y _ => by by_cases e : y = i <;> simp [e,hnii]),⟨rfl,.inl ⟨rfl,rfl⟩⟩,zh rfl⟩
    case round =>
     obtain ⟨k,v,xs,hk,rfl,E,M,hsz,A2,hO,hxs⟩:=hrel;obtain ⟨wo,rfl⟩:=Qe wr;have T2:=T.fm M E;by_cases hlk : k < Li.length;rotate_left
     ·obtain rfl : k = Li.length:=Qa
      have hadj : xs = c.adjA l days i:=by
       rw [hxs.out];unfold Qd.adjA;rw [← hLoe.out,← hLie.out,hx.out]
      obtain ⟨A5,c5,b5,ev,_,_,AR⟩:=Oa (g:=fun k => .int .i64 ((xs.getD k 0 : Nat) : Int)) hO (fun k hk => by simp [hk]);have hri : K7 wo v (c.adjA l days i):=by rw [← hadj];exact ⟨A5,c5,b5,ev,AR⟩
      have hro : ∀ y,y < i + 1 → K7 wo ((fun y => if y = i then v else rv y) y) (c.adjA l days y):=fun y hy => by
       by_cases e : y = i
       ·subst e;simpa using hri
       ·simp only [if_neg e];exact (hrow2 y Qa).fm M
      have hni2 : ∀ y,i + 1 ≤ y → (fun y => if y = i then v else rv y) y = .slice none 0 0:=fun y hy => by
       have e : y ≠ i:=Qa;simp only [if_neg e];exact hnil y Qa
      clear hri hadj AR T AY hrow2;go_wp2;exact ⟨⟨i + 1,_,Qa,by go_num,T2,A2,hro,hni2⟩,zi⟩
     obtain ⟨F,cF,e,RI⟩:=Kw T2.b;injection e with e1 _ e3
     subst e1;subst e3;obtain ⟨bi,oi,rfl,hbi,hci⟩:=RI Qa;obtain ⟨y,hy⟩:=Qe (Li.getD k Qn)
     have c0 : wo.cell? ⟨bi,oi + k * 2,none⟩ = some (.int .i64 (y.1 : Nat)):=by
      have:=hci k 0 (.int .i64 ((Li.getD k Qn).1 : Nat)) hlk rfl;rw [← hy] at this;exact this
     have c1 : wo.cell? ⟨bi,oi + k * 2 + 1,none⟩ = some (.int .i64 (y.2 : Nat)):=by
      have:=hci k 1 (.int .i64 ((Li.getD k Qn).2 : Nat)) hlk rfl;rw [← hy] at this;exact this
     clear hci RI;have hym:=Vl.1 (show y ∈ Zb l true by rw [← hLie.out,hy];exact J6 hlk);obtain ⟨hy1,hy2,_⟩:=hym
     have hxs2 : ∀ q : Bool,c.mayB l days x y = q → (if q then xs ++ [k] else xs) = (List.range (k + 1)).filter fun k => c.mayB l days x (Li.getD k Qn):=fun q hq => by
      have e : c.mayB l days x (Li.getD k Qn) = q:=by rw [← hy];exact hq
      rw [List.range_succ,List.filter_append,← hxs.out];simp only [List.filter_cons,List.filter_nil,e];cases q <;> simp
     have hxl : xs.length ≤ k:=by rw [hxs.out];exact Nat.le_trans (List.length_filter_le _ _) (by simp)
     replace hy:=zh hy;go_upto_region 21 with fail
     obtain ⟨wz,hwz⟩:=Qe (wo.alloc (.cells #[.int .i64 (y.1 : Nat),.int .i64 (y.2 : Nat)] 33));rw [← hwz];have x1 : Qc wo wz:=by rw [hwz];exact (Qc.refl wo).alloc _
     have BY : Qb wz wo.heap.size 33 #[.int .i64 (y.1 : Nat),.int .i64 (y.2 : Nat)]:=by rw [hwz];exact Qb.new _ _ _
     have BX2:=(M _ _ _ BX zD).ext x1;replace E:=E.trans x1;replace M:=M.ext x1;replace A2:=A2.ext x1;replace hO:=J0 hO x1;replace hsz:=Nat.le_trans hsz x1.size;have NM:=Qkj A A' ca cb c l _ ba days x y w wz E hA hv hx1 hx2 hy1 hy2;generalize wo.heap.size = by' at *
     clear hwz x1 c0 c1 hbi T2;obtain ⟨k0,k1,kl⟩:=Qb.d2 BX2;obtain ⟨l0,l1,ll⟩:=Qb.d2 BY;cases hmb : c.mayB l days x y
     ·rw [hmb] at NM;have h2:=hxs2 false hmb;go_upto_region 23 with (go_at_call 79;(with_reducible refine Calls.mono NM ?_);rintro e w5 ⟨rfl,x5⟩)
      replace E:=E.trans x5;replace M:=M.ext x5;replace A2:=A2.ext x5;replace hO:=J0 hO x5;replace hsz:=Nat.le_trans hsz x5.size;go_wp2;exact ⟨⟨k + 1,v,xs,Qa,by go_num,E,M,hsz,A2,hO,zh h2⟩,zi⟩
     rw [hmb] at NM;have h2:=hxs2 true hmb;obtain ⟨Fv,mv,rfl⟩:=Jn hO;go_upto_region 22 with (go_at_call 79;(with_reducible refine Calls.mono NM ?_);rintro e w5 ⟨rfl,x5⟩)
     have hno0 : 0 < Lo.length:=Qa;have x6:=x5.alloc (.cells #[.int .i64 (k : Int)] 3);have A5:=A2.ext x5
     have m0 : w5.cell? ⟨bY,i,none⟩ = some (.slice Fv xs.length mv):=by
      have:=A5.cell hlt
      simpa using this
     have ml:=A5.lt hno0;have O6:=J0 hO x6;have A6:=A2.ext x6;have M6:=M.ext x6;have E6:=E.trans x6;have s6:=Nat.le_trans hsz x6.size;clear NM k0 k1 kl l0 l1 ll BX2 BY E M A2 hO hsz hxs2;go_wp2_with (at_builtin;refine wpList_append_own_at _ rfl _ _ 125 rfl wx.heap.size 3 j0 (.int .i64 0) 1 8 Tryz.underlying125 hj0 hy3 hy4 hy5 rfl zD _ _ _ rfl O6 ⟨w5.heap.size,0,none⟩ 1 1 [.int .i64 k] rfl rfl (Wf (Qb.new _ _ _)) (by simp [Value.oneCell']) (by unfold maxLen;omega) Qa s6 ?_;intro vn wn hown hgrow _ hob;obtain ⟨Fn,mn,rfl⟩:=Jn hown;have A7:=A6.kept hgrow (fun hn => by obtain ⟨cs,h1,_⟩:=A6.h hn;exact h1.not_row zD O6);have fz:=A7.frozen hno0 i;have fc:=A7.cell hlt;have fl:=A7.lt hno0)
     have E7:=(E6.grown hgrow (fun q hq => Nat.le_trans T.e.size (Xe O6 q hq).1)).setCell (p:=⟨bY,i,none⟩) hwb (.slice Fn (xs.length + 1) mn);obtain ⟨cs7,H7,_⟩:=A7.h hno0;have M7:=(M6.grown O6 hgrow).set H7 i (.slice Fn (xs.length + 1) mn);have O7:=Je H7 zD hown i (.slice Fn (xs.length + 1) mn);have A8:=(A7.set hlt (.slice Fn (xs.length + 1) mn)).congr (g':=fun y => if y = i then (.slice Fn (xs.length + 1) mn) else rv y) (fun y _ => by by_cases e : y = i <;> simp [e])
     have s7 : wx.heap.size ≤ (wn.setCell ⟨bY,i,none⟩ (.slice Fn (xs.length + 1) mn)).heap.size:=by
      have:=hgrow.size;have e : (wn.setCell ⟨bY,i,none⟩ (.slice Fn (xs.length + 1) mn)).heap.size = wn.heap.size:=by simp [World.setCell]
      omega
     refine ⟨⟨k + 1,.slice Fn (xs.length + 1) mn,xs ++ [k],Qa,by go_num,E7,M7,s7,A8,?_,zh h2⟩,zi⟩;rw [List.length_append,List.map_append];exact O7
  obtain ⟨b,off,rfl,hb,hc⟩:=(hD.ext T.e) Qa;obtain ⟨c0,c1,c2,c3,c4,c5,c6,c7,c8,c9,c10,c11⟩:=L4 hc hlt;clear hc;have P1:=hat i hlt;obtain ⟨t1,s1,e1,_⟩:=id P1.o;obtain ⟨t3,s3,e3,_⟩:=id P1.c;obtain ⟨t2,s2,ws,e2,hT,hs2,hms2,_,hatT⟩:=id P1.d;rw [e1] at c9;rw [e2] at c10;rw [e3] at c11;have hbi:=hb2 i hlt;have hLo:=V6 false hb2 i hi;have hLi:=V6 true hb2 i hi;rw [hg'.out] at hbi;replace hatT:=zh hatT;clear e1 e2 e3 P1 hat hs2;have hbw:=hb
  have hst : ∀ b,Ys l b (i + 1) = Ys l b i ++ Yt (g i) b i (g i).d.length:=fun b => by
   conv => lhs;unfold Ys
   rw [hg'.out]
  replace hst:=zh hst;obtain ⟨Lo,hLoe⟩:=Qe (Ys l false i);obtain ⟨Li,hLie⟩:=Qe (Ys l true i);rw [← hLoe] at T hLo;rw [← hLie] at T hLi;replace hLoe:=zh hLoe;replace hLie:=zh hLie;go_upto_region 6 with fail
  obtain ⟨wp,hwp⟩:=Qe (wo.alloc (.cells #[.string (g i).h,.int .i64 (g i).a.y,.int .i64 (g i).a.m,.bool (g i).a.s,.int .i64 (g i).a.d,.int .i64 (g i).b.y,.int .i64 (g i).b.m,.bool (g i).b.s,.int .i64 (g i).b.d,.slice t1 (g i).o.length s1,.slice t2 (g i).d.length s2,.slice t3 (g i).c.length s3] 55));rw [← hwp];have x1 : Qc wo wp:=by rw [hwp];exact (Qc.refl wo).alloc _
  replace T:=T.ext x1;clear hwp x1 c0 c1 c2 c3 c4 c5 c6 c7 c8 c9 c10 c11 hb hbw
  go_loopw [5,6,30] (fun ov iv jv wr => ∃ k : Nat,k ≤ (g i).d.length ∧ jv = .int .i64 k ∧ X0 w wr (Lo ++ Yt (g i) false i k) (Li ++ Yt (g i) true i k) ov iv) (fun _ _ jv _ => (g i).d.length - (intOf jv).toNat)
  case atStart => exact ⟨0,Nat.zero_le _,rfl,by simpa [Yt] using T⟩
  case round =>
   clear T;obtain ⟨k,hk,rfl,T⟩:=hrel;obtain ⟨wo,rfl⟩:=Qe wr;by_cases hlk : k < (g i).d.length;rotate_left
   ·obtain rfl : k = (g i).d.length:=Qa;rw [hLoe.out,hLie.out,← hst.out,← hst.out] at T;go_wp2;exact ⟨⟨i + 1,Qa,by go_num,T⟩,zi⟩
   obtain ⟨b',off',rfl,hb',hc'⟩:=(hT.ext T.e) Qa;obtain ⟨d0,d1,d2,d3,d4,d5,zq6⟩:=zp7 hc' hlk;clear zq6;have c6:=hc' k 6 (ws k) hlk rfl;clear hc';obtain ⟨F7,m7,e7,_⟩:=id (hatT.out k hlk);obtain ⟨G,hG⟩:=Qe ((g i).d.getD k Zd);rw [← hG] at d0 d1 d2 d3 d4 d5 e7
   replace c6 : wo.cell? ⟨b',off' + k * 7 + 6,none⟩ = some (.slice F7 G.l.length m7):=by
    have:=c6;rw [e7] at this;exact this
   clear e7;have hlp1:=Ga (g i) false i k;have hlp2:=Ga (g i) true i k;cases hgi : G.i
   ·rw [hgi] at d4;have y1:=Dw (p:=g i) (b:=false) (i:=i) (n:=k) (by rw [← hG];exact hgi);have y2:=Dv (p:=g i) (b:=true) (i:=i) (n:=k) (by rw [← hG,hgi];decide);replace y1:=zh y1;replace y2:=zh y2;clear hG hgi;go_upto_region 11 with fail
    obtain ⟨wx,hwx⟩:=Qe ((wo.alloc (.cells #[.int .i64 G.on.y,.int .i64 G.on.m,.bool G.on.s,.int .i64 G.on.d,.bool false,.string G.w,.slice F7 G.l.length m7] 57)).alloc (.cells #[.int .i64 i,.int .i64 k] 33));rw [← hwx];have x2 : Qc wo wx:=by rw [hwx];exact ((Qc.refl wo).alloc _).alloc _
    have k1 : Qb wx (wo.heap.size + 1) 33 #[.int .i64 i,.int .i64 k]:=by
     rw [hwx];have h:=Qb.new (wo.alloc (.cells #[.int .i64 G.on.y,.int .i64 G.on.m,.bool G.on.s,.int .i64 G.on.d,.bool false,.string G.w,.slice F7 G.l.length m7] 57)) 33 #[.int .i64 (i : Int),.int .i64 (k : Int)]
     simpa using h
    have T2:=T.ext x2;have T3:=T2.ext ((Qc.refl wx).alloc (.cells #[.int .i64 i,.int .i64 k] 33));clear hwx x2 d0 d1 d2 d3 d4 d5 c6 hb' T;obtain ⟨q0,q1,ql⟩:=Qb.d2 k1;go_wp2_with (at_builtin;refine wpList_append_own_at _ rfl _ _ 163 rfl w.heap.size 33 i0 (.agg #[.int .i64 0,.int .i64 0]) 2 16 Tryz.underlying163 hi0 hz0 hz1 hz2 rfl zD _ _ _ rfl T3.a ⟨wx.heap.size,0,none⟩ 1 1 [.int .i64 i,.int .i64 k] rfl rfl (Wf (Qb.new _ _ _)) (Sl _ _) (by rw [List.length_append];unfold maxLen;omega) (by rw [List.length_append];omega) T3.e.size ?_;intro vn wn hown hgrow _ hob);have T4:=T3.fst (r:=(i,k)) hown hgrow hob;rw [List.append_assoc,← y1.out,← y2.out] at T4;exact ⟨⟨k + 1,Qa,by go_num,T4⟩,zi⟩
   ·rw [hgi] at d4;have y1:=Dw (p:=g i) (b:=true) (i:=i) (n:=k) (by rw [← hG];exact hgi);have y2:=Dv (p:=g i) (b:=false) (i:=i) (n:=k) (by rw [← hG,hgi];decide);replace y1:=zh y1;replace y2:=zh y2;clear hG hgi;go_upto_region 10 with fail
    obtain ⟨wx,hwx⟩:=Qe ((wo.alloc (.cells #[.int .i64 G.on.y,.int .i64 G.on.m,.bool G.on.s,.int .i64 G.on.d,.bool true,.string G.w,.slice F7 G.l.length m7] 57)).alloc (.cells #[.int .i64 i,.int .i64 k] 33));rw [← hwx];have x2 : Qc wo wx:=by rw [hwx];exact ((Qc.refl wo).alloc _).alloc _
    have k1 : Qb wx (wo.heap.size + 1) 33 #[.int .i64 i,.int .i64 k]:=by
     rw [hwx];have h:=Qb.new (wo.alloc (.cells #[.int .i64 G.on.y,.int .i64 G.on.m,.bool G.on.s,.int .i64 G.on.d,.bool true,.string G.w,.slice F7 G.l.length m7] 57)) 33 #[.int .i64 (i : Int),.int .i64 (k : Int)]
     simpa using h
    have T2:=T.ext x2;have T3:=T2.ext ((Qc.refl wx).alloc (.cells #[.int .i64 i,.int .i64 k] 33));clear hwx x2 d0 d1 d2 d3 d4 d5 c6 hb' T;obtain ⟨q0,q1,ql⟩:=Qb.d2 k1;go_wp2_with (at_builtin;refine wpList_append_own_at _ rfl _ _ 163 rfl w.heap.size 33 i0 (.agg #[.int .i64 0,.int .i64 0]) 2 16 Tryz.underlying163 hi0 hz0 hz1 hz2 rfl zD _ _ _ rfl T3.b ⟨wx.heap.size,0,none⟩ 1 1 [.int .i64 i,.int .i64 k] rfl rfl (Wf (Qb.new _ _ _)) (Sl _ _) (by rw [List.length_append];unfold maxLen;omega) (by rw [List.length_append];omega) T3.e.size ?_;intro vn wn hown hgrow _ hob);have T4:=T3.snd (r:=(i,k)) hown hgrow hob;rw [List.append_assoc,← y1.out,← y2.out] at T4;exact ⟨⟨k + 1,Qa,by go_num,T4⟩,zi⟩
def Ug (p : Rf × Rf) : List Value:=[.int .i64 (p.1.1 : Nat),.int .i64 (p.1.2 : Nat),.int .i64 (p.2.1 : Nat),.int .i64 (p.2.2 : Nat)]
theorem Qbo (c : Qd) (l : List Pd) (days : Int) : (c.matchI l days).flatMap (Uf (fun o => (Zb l false).getD o Qn) (fun k => (Zb l true).getD k Qn)) = (c.matchL l days).flatMap Ug:=by
 unfold Qd.matchL;rw [List.flatMap_map];rfl
theorem Gp {c : Qd} {l : List Pd} (h : c.archE l = 0) : l.length ≤ 32:=by
 refine Nat.le_of_not_lt fun hn => ?_
 unfold Qd.archE at h;by_cases hc : c.chk ≠ 0
 ·rw [if_pos hc] at h;exact hc h
 ·rw [if_neg hc,if_pos hn] at h;exact absurd h zD
theorem Gu {c : Qd} {l : List Pd} {days : Int} (h : c.audE l days = 0) : c.archE l = 0:=by
 unfold Qd.audE at h;by_cases hc : c.archE l ≠ 0
 ·rw [if_pos hc] at h;exact absurd h hc
 ·simpa using hc
end
section
def fl (my : Nat → Bool) (ni k : Nat) : List Nat:=(List.range' k (ni - k)).filter my
theorem Im {my : Nat → Bool} {ni : Nat} : fl my ni ni = []:=by simp [fl]
theorem Ip {my : Nat → Bool} {ni k : Nat} (hk : k < ni) (h : my k = false) : fl my ni k = fl my ni (k + 1):=by
 unfold fl;rw [show ni - k = (ni - (k + 1)) + 1 by omega,List.range'_succ,List.filter_cons,h];rfl
theorem Iq {my : Nat → Bool} {ni k : Nat} (hk : k < ni) (h : my k = true) : fl my ni k = k :: fl my ni (k + 1):=by
 unfold fl;rw [show ni - k = (ni - (k + 1)) + 1 by omega,List.range'_succ,List.filter_cons,h];rfl
def Zv (my : Nat → Nat → Bool) (ni : Nat) (o : Nat) : List Nat:=(List.range ni).filter (my o)
theorem Cn (my : Nat → Nat → Bool) (ni o : Nat) : Zv my ni o = fl (my o) ni 0:=by
 unfold Zv fl;rw [List.range_eq_range'];rfl
theorem Tt (my : Nat → Nat → Bool) (ni : Nat) : ∀ o,∀ k ∈ Zv my ni o,k < ni:=fun _ _ hk => List.mem_range.1 (List.mem_filter.1 hk).1
theorem Iy {adj : Nat → List Nat} {ni n s : Nat} {fx : Bl} {m : Mt} (h : (Q4 adj ni m fx s).1 = none) : Zt adj ni fx (n + 1) s m = Zt adj ni fx n (s + 1) m:=by
 conv => lhs;unfold Zt
 rw [h]
theorem Iz {adj : Nat → List Nat} {ni n s : Nat} {fx : Bl} {m m' : Mt} (h : (Q4 adj ni m fx s).1 = some m') : (Zt adj ni fx (n + 1) s m).2 = (Zt adj ni fx n (s + 1) m').2 + 1:=by
 conv => lhs;unfold Zt
 rw [h]
theorem Fb {adj : Nat → List Nat} {ni : Nat} {fx : Bl} : ∀ (n s : Nat) (m : Mt),(Zt adj ni fx n s m).2 ≤ n
 | 0,_,_ => Nat.le_refl _
 | n + 1,s,m => by
  cases h : (Q4 adj ni m fx s).1 with
  | none => rw [Iy h];have:=Fb (adj:=adj) (ni:=ni) (fx:=fx) n (s + 1) m;omega
  | some m' => rw [Iz h];have:=Fb (adj:=adj) (ni:=ni) (fx:=fx) n (s + 1) m';omega
theorem Iw {adj : Nat → List Nat} {ni f s : Nat} {fx : Bl} {m : Mt} (h : Vv adj ni f fx s m) {no : Nat} (hs : s ≤ no) : ∀ k,k < ni → 0 ≤ m.1 k → (m.1 k).toNat < no:=fun k hk h0 => by
 by_cases e : fx k = true
 ·have:=h.x k hk e;omega
 ·have:=(h.v.a k hk (by simpa using e) h0).1.2;omega
theorem Qm4 {adj : Nat → List Nat} {ni no i k : Nat} {left : Int} {fx : Bl} {r : List Nat} (h : fx k = true) : Yf adj ni no i left fx (k :: r) = Yf adj ni no i left fx r:=by
 conv => lhs;unfold Yf
 rw [if_pos h]
theorem Qm8 {adj : Nat → List Nat} {ni no i k : Nat} {left : Int} {fx : Bl} {r : List Nat} (h : fx k = false) (hn : ((Zt adj ni (Qh fx k true) (no - (i + 1)) (i + 1) Jg).2 : Int) = left - 1) : Yf adj ni no i left fx (k :: r) = some k:=by
 conv => lhs;unfold Yf
 rw [if_neg (by simp [h]),if_pos hn]
theorem Qm3 {adj : Nat → List Nat} {ni no i k : Nat} {left : Int} {fx : Bl} {r : List Nat} (h : fx k = false) (hn : ((Zt adj ni (Qh fx k true) (no - (i + 1)) (i + 1) Jg).2 : Int) ≠ left - 1) : Yf adj ni no i left fx (k :: r) = Yf adj ni no i left fx r:=by
 conv => lhs;unfold Yf
 rw [if_neg (by simp [h]),if_neg hn]
theorem Qoc {fx : Bl} {k : Nat} (h : fx k = false) : Qh (Qh fx k true) k false = fx:=by
 funext x
 unfold Qh;by_cases e : x = k
 ·rw [if_pos e,e,h]
 ·rw [if_neg e,if_neg e]
def Qd.mayR (c : Qd) (l : List Pd) (days : Int) (x y : Rf) : Bool :=
 !decide ((l.getD x.1 Qp).h = (l.getD y.1 Qp).h) && decide ((Q3 l x).w = (l.getD y.1 Qp).h) && decide ((Q3 l y).w = (l.getD x.1 Qp).h) && !(Q3 l x).i && (Q3 l y).i && decide ((Q3 l x).l = (Q3 l y).l) && decide (0 ≤ c.numV (Q3 l y).on - c.numV (Q3 l x).on) && decide (c.numV (Q3 l y).on - c.numV (Q3 l x).on ≤ days)
theorem Qko {c : Qd} {l : List Pd} {days : Int} (h : ∀ p ∈ l,Wy c p) {x y : Rf} (hx : x ∈ Zb l false) (hy : y ∈ Zb l true) : c.mayR l days x y = c.mayB l days x y:=by
 obtain ⟨_,_,x3⟩:=Vl.1 hx;obtain ⟨_,_,y3⟩:=Vl.1 hy;obtain ⟨p1,p2⟩:=pok_at h hx;have hne:=(p1.l _ p2).2.1;unfold Qd.mayR Qd.mayB;rw [x3,y3];simp only [Bool.not_false,Bool.and_true];by_cases g1 : (Q3 l x).w = (l.getD y.1 Qp).h
 ·have : ¬ (l.getD x.1 Qp).h = (l.getD y.1 Qp).h:=fun e => hne (by rw [g1,e])
  rw [zt g1,zf this]
  simp
 ·rw [zf g1]
  simp
def Qd.myR (c : Qd) (l : List Pd) (days : Int) (i k : Nat) : Bool:=c.mayR l days ((Zb l false).getD i Qn) ((Zb l true).getD k Qn)
theorem Aj {adj adj' : Nat → List Nat} {no : Nat} (h : ∀ o,o < no → adj o = adj' o) {ni : Nat} (hadj : ∀ o,∀ k ∈ adj o,k < ni) {m : Mt} (hm : ∀ k,k < ni → 0 ≤ m.1 k → (m.1 k).toNat < no) : ∀ (n : Nat) (b : Bl) (i : Nat),i < no → Q4 adj n m b i = Q4 adj' n m b i
 | 0,_,_,_ => rfl
 | n + 1,b,i,hi => by
  have IH:=Aj h hadj hm n;unfold Q4;rw [← h i hi]
  have : ∀ (l : List Nat) (b : Bl),(∀ k ∈ l,k < ni) → Z4 (Q4 adj n) i l m b = Z4 (Q4 adj' n) i l m b:=fun l => by
   induction l with
   | nil => intro _ _;rfl
   | cons k r ih =>
    intro b hl;have ih:=fun b => ih b fun x hx => hl x (List.mem_cons_of_mem _ hx)
    by_cases e1 : b k = true
    ·unfold Z4;rw [if_pos e1,if_pos e1,ih b]
    ·by_cases e2 : m.1 k < 0
     ·unfold Z4;rw [if_neg e1,if_neg e1,if_pos e2,if_pos e2]
     ·have h1:=IH (Qh b k true) (m.1 k).toNat (hm k (hl k List.mem_cons_self) Qa);unfold Z4;rw [if_neg e1,if_neg e1,if_neg e2,if_neg e2,h1]
      split
      ·rfl
      ·exact ih _
  exact this _ _ (hadj i)
theorem Ph {adj adj' : Nat → List Nat} {no : Nat} (h : ∀ o,o < no → adj o = adj' o) {ni f : Nat} (hadj : ∀ o,∀ k ∈ adj o,k < ni) {fx : Bl} : ∀ (n s : Nat) (m : Mt),f ≤ s → s + n = no → Vv adj ni f fx s m → Zt adj ni fx n s m = Zt adj' ni fx n s m
 | 0,_,_,_,_,_ => rfl
 | n + 1,s,m,hf,hn,hG => by
  have e:=Aj h hadj (Iw hG (show s ≤ no by omega)) ni fx s Qa;have hG':=(Pj hadj hf hG).1;have IH:=Ph h hadj n (s + 1) _ Qa Qa hG';unfold Zt;rw [← e]
  cases h1 : (Q4 adj ni m fx s).1 with
  | none => rw [h1] at IH;exact IH
  | some m' =>
   rw [h1] at IH;exact congrArg (fun x : Mt × Nat => (x.1,x.2 + 1)) IH
theorem Qdd {adj adj' : Nat → List Nat} {no : Nat} (h : ∀ o,o < no → adj o = adj' o) {ni : Nat} (hadj : ∀ o,∀ k ∈ adj o,k < ni) {i : Nat} (hi : i < no) {left : Int} {fx : Bl} : ∀ (l : List Nat),Yf adj ni no i left fx l = Yf adj' ni no i left fx l
 | [] => rfl
 | k :: r => by
  have IH:=Qdd h hadj hi (left:=left) (fx:=fx) r;have e:=Ph h hadj (fx:=Qh fx k true) (f:=i + 1) (no - (i + 1)) (i + 1) Jg (Nat.le_refl _) Qa (Oi adj ni (i + 1) _);unfold Yf;rw [e,IH]
theorem Qdb {adj adj' : Nat → List Nat} {no : Nat} (h : ∀ o,o < no → adj o = adj' o) {ni : Nat} (hadj : ∀ o,∀ k ∈ adj o,k < ni) : ∀ (n i : Nat) (left : Int) (fx : Bl),i + n = no → Y9 adj ni no n i left fx = Y9 adj' ni no n i left fx
 | 0,_,_,_,_ => rfl
 | n + 1,i,left,fx,hn => by
  have IH:=fun l f => Qdb h hadj n (i + 1) l f Qa
  have e:=Qdd h hadj (i:=i) Qa (left:=left) (fx:=fx) (adj i);unfold Y9;rw [← h i Qa,← e]
  split
  ·rw [IH]
  ·rw [IH]
theorem Qkk {c : Qd} {l : List Pd} {days : Int} (h : ∀ p ∈ l,Wy c p) : Y9 (Zv (c.myR l days) (Zb l true).length) (Zb l true).length (Zb l false).length (Zb l false).length 0 (Zt (Zv (c.myR l days) (Zb l true).length) (Zb l true).length (fun _ => false) (Zb l false).length 0 Jg).2 (fun _ => false) = c.matchI l days:=by
 have e : ∀ o,o < (Zb l false).length → Zv (c.myR l days) (Zb l true).length o = c.adjA l days o:=fun o ho => by
  unfold Zv Qd.adjA;refine List.filter_congr fun k hk => ?_
  exact Qko h (J6 ho) (J6 (List.mem_range.1 hk))
 have hl:=Tt (c.myR l days) (Zb l true).length;rw [Ph e hl (f:=0) (Zb l false).length 0 Jg (Nat.le_refl _) Qa (Oi _ _ _ _),Qdb e hl _ _ _ _ Qa];unfold Qd.matchI;rw [(Qgt (Cm c l days)).1];rfl
end
section
open Go Go.RowKit Go.Shelf
attribute [local go_sem] Z8
structure U9 (W : World) (ba : Nat) (A A' : OA) (ca cb : Nat) (c : Qd) (vl : Value) (l : List Pd) (days : Int) : Prop where
 b : Qb W ba 103 #[.slice A c.nk ca,.slice A' c.ny cb,vl,.int .i64 days]
 C : Za W A ca A' cb c
 P : J9 W vl l
theorem U9.ext {W W' : World} {ba : Nat} {A A' : OA} {ca cb : Nat} {c : Qd} {vl : Value} {l : List Pd} {days : Int} (h : U9 W ba A A' ca cb c vl l days) (x : Qc W W') : U9 W' ba A A' ca cb c vl l days:=⟨h.b.ext x,h.C.ext x,h.P.ext x⟩
theorem Ih (A A' : OA) (ca cb : Nat) (c : Qd) (l : List Pd) (vl : Value) (ba : Nat) (days : Int) (b : Bool) (w : World) (hA : U9 w ba A A' ca cb c vl l days) (hb1 : l.length ≤ 1000) (hb2 : ∀ i,i < l.length → (l.getD i Qp).d.length ≤ 1000) :
  Calls Tryz.prog 83 #[.pointer (some ⟨ba,0,none⟩),.bool b] w fun e w' => ∃ v,e = .returned v ∧ Qc w w' ∧ w'.ownsRow w.heap.size 33 2 v (Zb l b).length ((Zb l b).flatMap X8):=by
 obtain ⟨i0,hi0,hz0,hz1,hz2⟩:=info_parts Qam;obtain ⟨D,cap,vo,vd,vc,rfl,hD,hcap,hmax,_,hat⟩:=id hA.P;have hn : l.length ≤ 9223372036854775807:=Qa;obtain ⟨g,hg⟩:=Qe (fun i => l.getD i Qp);have hg' : ∀ i,l.getD i Qp = g i:=fun i => by rw [hg]
 simp only [hg'] at hD hat;replace hg':=zh hg';clear hg hcap hmax;have hB:=hA.b;clear hA
 go_enter Tryz.func83,Tryz.ntmps83
 go_upto_region 3 with fail
 go_loopw [5,6] (fun ov iv wr => ∃ i : Nat,i ≤ l.length ∧ iv = .int .i64 i ∧ Qc w wr ∧ wr.ownsRow w.heap.size 33 2 ov (Ys l b i).length ((Ys l b i).flatMap X8)) (fun _ iv _ => l.length - (intOf iv).toNat)
 case atStart => exact ⟨0,Nat.zero_le _,rfl,Qc.refl _,⟨rfl,.inl ⟨rfl,rfl⟩⟩⟩
 case round =>
  obtain ⟨i,hi,rfl,E,O⟩:=hrel;obtain ⟨wo,rfl⟩:=Qe wr;obtain ⟨a0,a1,a2,a3,al⟩:=Qb.d4 (hB.ext E);by_cases hlt : i < l.length;rotate_left
  ·obtain rfl : i = l.length:=Qa;go_wp2;go_ret;exact ⟨_,rfl,E,O⟩
  obtain ⟨bp,off,rfl,hbp,hc⟩:=hD Qa;obtain ⟨T,ct,vs,e1,hT,hct,hmt,_,hatT⟩:=id (hat i hlt).d
  have c10w : w.cell? ⟨bp,off + i * 12 + 10,none⟩ = some (.slice T (g i).d.length ct):=by
   have:=hc i 10 (vd i) hlt rfl;rw [e1] at this;exact this
  clear hc e1 hat hatT hD;have hbi:=hb2 i hlt;have hLo:=V6 b hb2 i hi;rw [hg'.out] at hbi
  have hst : Hid (Ys l b (i + 1) = Ys l b i ++ Yt (g i) b i (g i).d.length):=zh (by
   conv => lhs;unfold Ys
   rw [hg'.out])
  obtain ⟨Lo,hLoe⟩:=Qe (Ys l b i);rw [← hLoe] at O hLo hst;clear hLoe;have c10:=(E.cell (p:=⟨bp,off + i * 12 + 10,none⟩) hbp).trans c10w;have pl:=Nat.lt_of_lt_of_le hbp E.size;go_upto_region 6 with fail
  clear a0 a1 a2 a3 al c10 pl
  go_loopw [5,7] (fun ov kv wr => ∃ k : Nat,k ≤ (g i).d.length ∧ kv = .int .i64 k ∧ Qc w wr ∧ wr.ownsRow w.heap.size 33 2 ov (Lo ++ Yt (g i) b i k).length ((Lo ++ Yt (g i) b i k).flatMap X8)) (fun _ kv _ => (g i).d.length - (intOf kv).toNat)
  case atStart => exact ⟨0,Nat.zero_le _,rfl,E,by simpa [Yt] using O⟩
  case round =>
   clear E O;obtain ⟨k,hk,rfl,E,O⟩:=hrel;obtain ⟨w2,rfl⟩:=Qe wr;obtain ⟨a0,a1,a2,a3,al⟩:=Qb.d4 (hB.ext E);have c10:=(E.cell (p:=⟨bp,off + i * 12 + 10,none⟩) hbp).trans c10w;have pl:=Nat.lt_of_lt_of_le hbp E.size;by_cases hlk : k < (g i).d.length;rotate_left
   ·obtain rfl : k = (g i).d.length:=Qa;rw [← hst.out] at O;go_wp2;exact ⟨⟨i + 1,Qa,by go_num,E,O⟩,zi⟩
   obtain ⟨b',off',rfl,hb',hc'⟩:=(hT.ext E) Qa;obtain ⟨q,hq⟩:=Qe (((g i).d.getD k Zd).i)
   have d4 : w2.cell? ⟨b',off' + k * 7 + 4,none⟩ = some (.bool q):=by
    rw [hq]
    simpa [Zm] using hc' k 4 _ hlk rfl
   clear hc';have hlp:=Ga (g i) b i k;by_cases e : q = b
   ·have y1:=Dw (p:=g i) (b:=b) (i:=i) (n:=k) (by rw [← hq];exact e);have e1 : (q == b) = true:=beq_iff_eq.2 e;replace y1:=zh y1;clear e hq;have x1 : Qc w2 (w2.alloc (.cells #[.int .i64 i,.int .i64 k] 33)):=(Qc.refl w2).alloc _;have O2:=J0 O x1;have E2:=E.trans x1;go_wp2_with (at_builtin;refine wpList_append_own_at _ rfl _ _ 163 rfl w.heap.size 33 i0 (.agg #[.int .i64 0,.int .i64 0]) 2 16 Tryz.underlying163 hi0 hz0 hz1 hz2 rfl zD _ _ _ rfl O2 ⟨w2.heap.size,0,none⟩ 1 1 [.int .i64 i,.int .i64 k] rfl rfl (Wf (Qb.new _ _ _)) (Sl _ _) (by rw [List.length_append];unfold maxLen;omega) (by rw [List.length_append];omega) E2.size ?_;intro vn wn hown hgrow _ _)
    have E3:=E2.grown hgrow (fun q hq => (Xe O2 q hq).1)
    have O3 : wn.ownsRow w.heap.size 33 2 vn (Lo ++ Yt (g i) b i (k + 1)).length ((Lo ++ Yt (g i) b i (k + 1)).flatMap X8):=by
     rw [y1.out,← List.append_assoc,List.length_append,List.flatMap_append];exact hown
    exact ⟨⟨k + 1,Qa,by go_num,E3,O3⟩,zi⟩
   ·have y1:=Dv (p:=g i) (b:=b) (i:=i) (n:=k) (by rw [← hq];exact e);have e1 : (q == b) = false:=zb e;rw [← y1] at O;clear e hq y1;go_wp2;exact ⟨⟨k + 1,Qa,by go_num,E,O⟩,zi⟩
set_option maxHeartbeats 20000000 in
theorem Qkn (A A' : OA) (ca cb : Nat) (c : Qd) (l : List Pd) (vl : Value) (ba : Nat) (days : Int) (x y : Rf) (w : World) (hA : U9 w ba A A' ca cb c vl l days) (hv : c.valid = true) (hx1 : x.1 < l.length) (hx2 : x.2 < (l.getD x.1 Qp).d.length) (hy1 : y.1 < l.length) (hy2 : y.2 < (l.getD y.1 Qp).d.length) :
  Calls Tryz.prog 84 #[.pointer (some ⟨ba,0,none⟩),.agg #[.int .i64 (x.1 : Nat),.int .i64 (x.2 : Nat)],.agg #[.int .i64 (y.1 : Nat),.int .i64 (y.2 : Nat)]] w fun e w' => e = .returned (.bool (c.mayR l days x y)) ∧ Qc w w':=by
 have ND:=fun d w h => G7 A A' ca cb c d w h hv
 have bX:=Rk hv (Q3 l x).on;have bY:=Rk hv (Q3 l y).on;obtain ⟨D,cap,vo,vd,vc,e0,hD,hcap,hmax,_,hat⟩:=id hA.P;subst e0;obtain ⟨T1,k1,vs1,e1,hT1,_,_,_,hatT1⟩:=id (hat x.1 hx1).d;obtain ⟨T2,k2,vs2,e2,hT2,_,_,_,hatT2⟩:=id (hat y.1 hy1).d;obtain ⟨XO1,xq1,eo1,_⟩:=id (hat x.1 hx1).o;obtain ⟨XC1,xs1,ec1,_⟩:=id (hat x.1 hx1).c;obtain ⟨YO1,yq1,eo2,_⟩:=id (hat y.1 hy1).o;obtain ⟨YC1,ys1,ec2,_⟩:=id (hat y.1 hy1).c;obtain ⟨bp,off,rfl,hbp,hc⟩:=hD Qa;have c0 : w.cell? ⟨bp,off + x.1 * 12,none⟩ = some (.string (l.getD x.1 Qp).h):=by simpa [Qi] using hc x.1 0 _ hx1 rfl
 have c1 : w.cell? ⟨bp,off + x.1 * 12 + 1,none⟩ = some (.int .i64 (l.getD x.1 Qp).a.y):=by simpa [Qi] using hc x.1 1 _ hx1 rfl
 have c2 : w.cell? ⟨bp,off + x.1 * 12 + 2,none⟩ = some (.int .i64 (l.getD x.1 Qp).a.m):=by simpa [Qi] using hc x.1 2 _ hx1 rfl
 have c3 : w.cell? ⟨bp,off + x.1 * 12 + 3,none⟩ = some (.bool (l.getD x.1 Qp).a.s):=by simpa [Qi] using hc x.1 3 _ hx1 rfl
 have c4 : w.cell? ⟨bp,off + x.1 * 12 + 4,none⟩ = some (.int .i64 (l.getD x.1 Qp).a.d):=by simpa [Qi] using hc x.1 4 _ hx1 rfl
 have c5 : w.cell? ⟨bp,off + x.1 * 12 + 5,none⟩ = some (.int .i64 (l.getD x.1 Qp).b.y):=by simpa [Qi] using hc x.1 5 _ hx1 rfl
 have c6 : w.cell? ⟨bp,off + x.1 * 12 + 6,none⟩ = some (.int .i64 (l.getD x.1 Qp).b.m):=by simpa [Qi] using hc x.1 6 _ hx1 rfl
 have c7 : w.cell? ⟨bp,off + x.1 * 12 + 7,none⟩ = some (.bool (l.getD x.1 Qp).b.s):=by simpa [Qi] using hc x.1 7 _ hx1 rfl
 have c8 : w.cell? ⟨bp,off + x.1 * 12 + 8,none⟩ = some (.int .i64 (l.getD x.1 Qp).b.d):=by simpa [Qi] using hc x.1 8 _ hx1 rfl
 have c9 : w.cell? ⟨bp,off + x.1 * 12 + 9,none⟩ = some (vo x.1):=by simpa [Qi] using hc x.1 9 _ hx1 rfl
 have c10 : w.cell? ⟨bp,off + x.1 * 12 + 10,none⟩ = some (vd x.1):=by simpa [Qi] using hc x.1 10 _ hx1 rfl
 have c11 : w.cell? ⟨bp,off + x.1 * 12 + 11,none⟩ = some (vc x.1):=by simpa [Qi] using hc x.1 11 _ hx1 rfl
 have d0 : w.cell? ⟨bp,off + y.1 * 12,none⟩ = some (.string (l.getD y.1 Qp).h):=by simpa [Qi] using hc y.1 0 _ hy1 rfl
 have d1 : w.cell? ⟨bp,off + y.1 * 12 + 1,none⟩ = some (.int .i64 (l.getD y.1 Qp).a.y):=by simpa [Qi] using hc y.1 1 _ hy1 rfl
 have d2 : w.cell? ⟨bp,off + y.1 * 12 + 2,none⟩ = some (.int .i64 (l.getD y.1 Qp).a.m):=by simpa [Qi] using hc y.1 2 _ hy1 rfl
 have d3 : w.cell? ⟨bp,off + y.1 * 12 + 3,none⟩ = some (.bool (l.getD y.1 Qp).a.s):=by simpa [Qi] using hc y.1 3 _ hy1 rfl
 have d4 : w.cell? ⟨bp,off + y.1 * 12 + 4,none⟩ = some (.int .i64 (l.getD y.1 Qp).a.d):=by simpa [Qi] using hc y.1 4 _ hy1 rfl
 have d5 : w.cell? ⟨bp,off + y.1 * 12 + 5,none⟩ = some (.int .i64 (l.getD y.1 Qp).b.y):=by simpa [Qi] using hc y.1 5 _ hy1 rfl
 have d6 : w.cell? ⟨bp,off + y.1 * 12 + 6,none⟩ = some (.int .i64 (l.getD y.1 Qp).b.m):=by simpa [Qi] using hc y.1 6 _ hy1 rfl
 have d7 : w.cell? ⟨bp,off + y.1 * 12 + 7,none⟩ = some (.bool (l.getD y.1 Qp).b.s):=by simpa [Qi] using hc y.1 7 _ hy1 rfl
 have d8 : w.cell? ⟨bp,off + y.1 * 12 + 8,none⟩ = some (.int .i64 (l.getD y.1 Qp).b.d):=by simpa [Qi] using hc y.1 8 _ hy1 rfl
 have d9 : w.cell? ⟨bp,off + y.1 * 12 + 9,none⟩ = some (vo y.1):=by simpa [Qi] using hc y.1 9 _ hy1 rfl
 have d10 : w.cell? ⟨bp,off + y.1 * 12 + 10,none⟩ = some (vd y.1):=by simpa [Qi] using hc y.1 10 _ hy1 rfl
 have d11 : w.cell? ⟨bp,off + y.1 * 12 + 11,none⟩ = some (vc y.1):=by simpa [Qi] using hc y.1 11 _ hy1 rfl
 rw [e1] at c10;rw [e2] at d10;rw [eo1] at c9;rw [ec1] at c11;rw [eo2] at d9;rw [ec2] at d11;clear hc hD hcap hmax e1 e2 eo1 ec1 eo2 ec2;generalize (l.getD x.1 Qp).o.length = xol at *;generalize (l.getD x.1 Qp).c.length = xcl at *;generalize (l.getD y.1 Qp).o.length = yol at *;generalize (l.getD y.1 Qp).c.length = ycl at *;obtain ⟨bd1,od1,rfl,hb1,hc1⟩:=hT1 Qa;have f0 : w.cell? ⟨bd1,od1 + x.2 * 7,none⟩ = some (.int .i64 (Q3 l x).on.y):=by simpa [Zm,Q3] using hc1 x.2 0 _ hx2 rfl
 have f1 : w.cell? ⟨bd1,od1 + x.2 * 7 + 1,none⟩ = some (.int .i64 (Q3 l x).on.m):=by simpa [Zm,Q3] using hc1 x.2 1 _ hx2 rfl
 have f2 : w.cell? ⟨bd1,od1 + x.2 * 7 + 2,none⟩ = some (.bool (Q3 l x).on.s):=by simpa [Zm,Q3] using hc1 x.2 2 _ hx2 rfl
 have f3 : w.cell? ⟨bd1,od1 + x.2 * 7 + 3,none⟩ = some (.int .i64 (Q3 l x).on.d):=by simpa [Zm,Q3] using hc1 x.2 3 _ hx2 rfl
 have f4 : w.cell? ⟨bd1,od1 + x.2 * 7 + 4,none⟩ = some (.bool (Q3 l x).i):=by simpa [Zm,Q3] using hc1 x.2 4 _ hx2 rfl
 have f5 : w.cell? ⟨bd1,od1 + x.2 * 7 + 5,none⟩ = some (.string (Q3 l x).w):=by simpa [Zm,Q3] using hc1 x.2 5 _ hx2 rfl
 have f6':=hc1 x.2 6 (vs1 x.2) hx2 rfl;have L1 : Zl w (vs1 x.2) (Q3 l x).l:=hatT1 x.2 hx2;obtain ⟨F1,m1,hv1,_⟩:=id L1;rw [hv1] at L1
 have f6 : w.cell? ⟨bd1,od1 + x.2 * 7 + 6,none⟩ = some (.slice F1 (Q3 l x).l.length m1):=by
  rw [hv1] at f6';exact f6'
 clear f6' hv1 hc1;obtain ⟨bd2,od2,rfl,hb2,hc2⟩:=hT2 Qa;have g0 : w.cell? ⟨bd2,od2 + y.2 * 7,none⟩ = some (.int .i64 (Q3 l y).on.y):=by simpa [Zm,Q3] using hc2 y.2 0 _ hy2 rfl
 have g1 : w.cell? ⟨bd2,od2 + y.2 * 7 + 1,none⟩ = some (.int .i64 (Q3 l y).on.m):=by simpa [Zm,Q3] using hc2 y.2 1 _ hy2 rfl
 have g2 : w.cell? ⟨bd2,od2 + y.2 * 7 + 2,none⟩ = some (.bool (Q3 l y).on.s):=by simpa [Zm,Q3] using hc2 y.2 2 _ hy2 rfl
 have g3 : w.cell? ⟨bd2,od2 + y.2 * 7 + 3,none⟩ = some (.int .i64 (Q3 l y).on.d):=by simpa [Zm,Q3] using hc2 y.2 3 _ hy2 rfl
 have g4 : w.cell? ⟨bd2,od2 + y.2 * 7 + 4,none⟩ = some (.bool (Q3 l y).i):=by simpa [Zm,Q3] using hc2 y.2 4 _ hy2 rfl
 have g5 : w.cell? ⟨bd2,od2 + y.2 * 7 + 5,none⟩ = some (.string (Q3 l y).w):=by simpa [Zm,Q3] using hc2 y.2 5 _ hy2 rfl
 have g6':=hc2 y.2 6 (vs2 y.2) hy2 rfl;have L2 : Zl w (vs2 y.2) (Q3 l y).l:=hatT2 y.2 hy2;obtain ⟨F2,m2,hv2,_⟩:=id L2;rw [hv2] at L2
 have g6 : w.cell? ⟨bd2,od2 + y.2 * 7 + 6,none⟩ = some (.slice F2 (Q3 l y).l.length m2):=by
  rw [hv2] at g6';exact g6'
 clear g6' hv2 hc2;obtain ⟨RB,hRB⟩:=Qe (c.mayR l days x y);rw [← hRB];unfold Qd.mayR at hRB;have hA1:=hA.b;have hAC:=hA.C;clear hA hat hatT1 hatT2;generalize hX : Q3 l x = GX at *;generalize hY : Q3 l y = GY at *;clear hX hY;obtain ⟨n1,hn1⟩:=Qe ((l.getD x.1 Qp).d.length);obtain ⟨n2,hn2⟩:=Qe ((l.getD y.1 Qp).d.length);rw [← hn1] at c10 hx2 hT1;rw [← hn2] at d10 hy2 hT2;clear hT1 hT2 hn1 hn2;generalize l.getD x.1 Qp = px at *;generalize l.getD y.1 Qp = py at *;generalize l.length = nl at *;obtain ⟨x1,x2⟩:=x;obtain ⟨y1,y2⟩:=y
 simp only at *
 replace hRB:=zh hRB
 go_enter Tryz.func84,Tryz.ntmps84
 go_upto_region 1 with fail
 obtain ⟨v,b1,b2,E,B1,B2,hbr1,hbr,hn21,hv,hb1,hb2⟩:=Jy w 33 #[.int .i64 (x1 : Nat),.int .i64 (x2 : Nat)] 33 #[.int .i64 (y1 : Nat),.int .i64 (y2 : Nat)];rw [← hv,← hb2,← hb1];clear hv hb1 hb2;have HA:=hA1.ext E;go_upto_region 1 with fail
 try clear k0
 apply Ul (S:=fun w' p1 p2 => Qc v w' ∧ Qb w' p1 55 #[.string px.h,.int .i64 px.a.y,.int .i64 px.a.m,.bool px.a.s,.int .i64 px.a.d,.int .i64 px.b.y,.int .i64 px.b.m,.bool px.b.s,.int .i64 px.b.d,.slice XO1 xol xq1,.slice (some ⟨bd1,od1,none⟩) n1 k1,.slice XC1 xcl xs1] ∧ Qb w' p2 55 #[.string py.h,.int .i64 py.a.y,.int .i64 py.a.m,.bool py.a.s,.int .i64 py.a.d,.int .i64 py.b.y,.int .i64 py.b.m,.bool py.b.s,.int .i64 py.b.d,.slice YO1 yol yq1,.slice (some ⟨bd2,od2,none⟩) n2 k2,.slice YC1 ycl ys1])
 ·refine Zc 20 [19] (fun x => Qc v x) mixed rfl ?_;intro vz hvz;have HC:=hvz;have mz0:=trivial
  all_goals try
   (clear mz0
    refine Qs (g:=4) [0,1,2,3,4,5,6,7,8,9,10,11,12,13,14,15] HC ?_
    constructor
    refine ⟨fun u hu => ?_,?_⟩
    ·obtain ⟨j0,j1,jl⟩:=Qb.d2 (Qb.ext B1 hu);obtain ⟨l0,l1,ll⟩:=Qb.d2 (Qb.ext B2 hu);obtain ⟨a0,a1,a2,a3,al⟩:=Qb.d4 (Qb.ext HA hu);have r0:=((E.trans hu).cell (p:=⟨bp,off + x1 * 12,none⟩) hbp).trans c0;have r1:=((E.trans hu).cell (p:=⟨bp,off + x1 * 12 + 1,none⟩) hbp).trans c1;have r2:=((E.trans hu).cell (p:=⟨bp,off + x1 * 12 + 2,none⟩) hbp).trans c2;have r3:=((E.trans hu).cell (p:=⟨bp,off + x1 * 12 + 3,none⟩) hbp).trans c3;have r4:=((E.trans hu).cell (p:=⟨bp,off + x1 * 12 + 4,none⟩) hbp).trans c4;have r5:=((E.trans hu).cell (p:=⟨bp,off + x1 * 12 + 5,none⟩) hbp).trans c5;have r6:=((E.trans hu).cell (p:=⟨bp,off + x1 * 12 + 6,none⟩) hbp).trans c6
     have r7:=((E.trans hu).cell (p:=⟨bp,off + x1 * 12 + 7,none⟩) hbp).trans c7;have r8:=((E.trans hu).cell (p:=⟨bp,off + x1 * 12 + 8,none⟩) hbp).trans c8;have r9:=((E.trans hu).cell (p:=⟨bp,off + x1 * 12 + 9,none⟩) hbp).trans c9;have r10:=((E.trans hu).cell (p:=⟨bp,off + x1 * 12 + 10,none⟩) hbp).trans c10;have r11:=((E.trans hu).cell (p:=⟨bp,off + x1 * 12 + 11,none⟩) hbp).trans c11;have s0:=((E.trans hu).cell (p:=⟨bp,off + y1 * 12,none⟩) hbp).trans d0;have s1:=((E.trans hu).cell (p:=⟨bp,off + y1 * 12 + 1,none⟩) hbp).trans d1;have s2:=((E.trans hu).cell (p:=⟨bp,off + y1 * 12 + 2,none⟩) hbp).trans d2;have s3:=((E.trans hu).cell (p:=⟨bp,off + y1 * 12 + 3,none⟩) hbp).trans d3
     have s4:=((E.trans hu).cell (p:=⟨bp,off + y1 * 12 + 4,none⟩) hbp).trans d4;have s5:=((E.trans hu).cell (p:=⟨bp,off + y1 * 12 + 5,none⟩) hbp).trans d5;have s6:=((E.trans hu).cell (p:=⟨bp,off + y1 * 12 + 6,none⟩) hbp).trans d6;have s7:=((E.trans hu).cell (p:=⟨bp,off + y1 * 12 + 7,none⟩) hbp).trans d7;have s8:=((E.trans hu).cell (p:=⟨bp,off + y1 * 12 + 8,none⟩) hbp).trans d8;have s9:=((E.trans hu).cell (p:=⟨bp,off + y1 * 12 + 9,none⟩) hbp).trans d9;have s10:=((E.trans hu).cell (p:=⟨bp,off + y1 * 12 + 10,none⟩) hbp).trans d10;have s11:=((E.trans hu).cell (p:=⟨bp,off + y1 * 12 + 11,none⟩) hbp).trans d11;have hbu:=Nat.lt_of_lt_of_le hbp (E.trans hu).size
     exact Qk
    have mz1:=trivial)
  all_goals try
   (clear mz1
    refine Zq 16 17 ?_ ?_
    focus
     go_wp2;obtain ⟨p1,wb,hbq,hwb,H10,HC',hx,gp1⟩:=Ql HC 55 #[.string ⟨#[]⟩,.int .i64 0,.int .i64 0,.bool false,.int .i64 0,.int .i64 0,.int .i64 0,.bool false,.int .i64 0,.slice none 0 0,.slice none 0 0,.slice none 0 0];rw [← hbq,← hwb];try have ne : p2 < p1:=by have:=H11.lt;omega
     replace HC:=HC';try replace H11:=H11.ext hx
     clear hbq hwb hx HC';have mz2:=trivial;refine Qf HC ?_
    rotate_left
    focus
     go_wp2;obtain ⟨p2,wb,hbq,hwb,H11,HC',hx,gp2⟩:=Ql HC 55 #[.string ⟨#[]⟩,.int .i64 0,.int .i64 0,.bool false,.int .i64 0,.int .i64 0,.int .i64 0,.bool false,.int .i64 0,.slice none 0 0,.slice none 0 0,.slice none 0 0];rw [← hbq,← hwb];try have ne : p1 < p2:=by have:=H10.lt;omega
     replace HC:=HC';try replace H10:=H10.ext hx
     clear hbq hwb hx HC';have mz3:=trivial;refine Qf HC ?_
    rotate_left)
  all_goals try
   (clear mz2
    refine Qj 17 ?_;go_wp2;obtain ⟨p2,wb,hbq,hwb,H11,HC',hx,gp2⟩:=Ql HC 55 #[.string ⟨#[]⟩,.int .i64 0,.int .i64 0,.bool false,.int .i64 0,.int .i64 0,.int .i64 0,.bool false,.int .i64 0,.slice none 0 0,.slice none 0 0,.slice none 0 0];rw [← hbq,← hwb];try have ne : p1 < p2:=by have:=H10.lt;omega
    replace HC:=HC';try replace H10:=H10.ext hx
    clear hbq hwb hx HC';have mz4:=trivial;refine Qf HC ?_)
  all_goals try
   (clear mz3
    refine Qj 16 ?_;go_wp2;obtain ⟨p1,wb,hbq,hwb,H10,HC',hx,gp1⟩:=Ql HC 55 #[.string ⟨#[]⟩,.int .i64 0,.int .i64 0,.bool false,.int .i64 0,.int .i64 0,.int .i64 0,.bool false,.int .i64 0,.slice none 0 0,.slice none 0 0,.slice none 0 0];rw [← hbq,← hwb];try have ne : p2 < p1:=by have:=H11.lt;omega
    replace HC:=HC';try replace H11:=H11.ext hx
    clear hbq hwb hx HC';have mz4:=trivial;refine Qf HC ?_)
  all_goals try
   (clear mz4
    refine Qj 18 ?_;obtain ⟨z0,z1,z2,z3,z4,z5,z6,z7,z8,z9,z10,z11,u0,u1,u2,u3,u4,u5,u6,u7,u8,u9,u10,u11,lx⟩:=Qb.e12 H10;go_wp2;have Hn:=Po H10 (.string px.h) (.int .i64 px.a.y) (.int .i64 px.a.m) (.bool px.a.s) (.int .i64 px.a.d) (.int .i64 px.b.y) (.int .i64 px.b.m) (.bool px.b.s) (.int .i64 px.b.d) (.slice XO1 xol xq1) (.slice (some ⟨bd1,od1,none⟩) n1 k1) (.slice XC1 xcl xs1);have On:=Qcn H11 (show p2 ≠ p1 by omega) (.string px.h) (.int .i64 px.a.y) (.int .i64 px.a.m) (.bool px.a.s) (.int .i64 px.a.d) (.int .i64 px.b.y) (.int .i64 px.b.m) (.bool px.b.s) (.int .i64 px.b.d) (.slice XO1 xol xq1) (.slice (some ⟨bd1,od1,none⟩) n1 k1) (.slice XC1 xcl xs1)
    replace HC:=S9 HC gp1 (.string px.h) (.int .i64 px.a.y) (.int .i64 px.a.m) (.bool px.a.s) (.int .i64 px.a.d) (.int .i64 px.b.y) (.int .i64 px.b.m) (.bool px.b.s) (.int .i64 px.b.d) (.slice XO1 xol xq1) (.slice (some ⟨bd1,od1,none⟩) n1 k1) (.slice XC1 xcl xs1);clear H10 z0 u0 z1 u1 z2 u2 z3 u3 z4 u4 z5 u5 z6 u6 z7 u7 z8 u8 z9 u9 z10 u10 z11 u11 lx;have H10:=Hn;replace H11:=On;clear Hn On;generalize World.setCell _ _ _ = wq at *;have mz5:=trivial;refine Qf HC ?_)
  all_goals try
   (clear mz5
    refine Qr 19 ?_;obtain ⟨z0,z1,z2,z3,z4,z5,z6,z7,z8,z9,z10,z11,u0,u1,u2,u3,u4,u5,u6,u7,u8,u9,u10,u11,lx⟩:=Qb.e12 H11;go_wp2;have Hn:=Po H11 (.string py.h) (.int .i64 py.a.y) (.int .i64 py.a.m) (.bool py.a.s) (.int .i64 py.a.d) (.int .i64 py.b.y) (.int .i64 py.b.m) (.bool py.b.s) (.int .i64 py.b.d) (.slice YO1 yol yq1) (.slice (some ⟨bd2,od2,none⟩) n2 k2) (.slice YC1 ycl ys1);have On:=Qcn H10 (show p1 ≠ p2 by omega) (.string py.h) (.int .i64 py.a.y) (.int .i64 py.a.m) (.bool py.a.s) (.int .i64 py.a.d) (.int .i64 py.b.y) (.int .i64 py.b.m) (.bool py.b.s) (.int .i64 py.b.d) (.slice YO1 yol yq1) (.slice (some ⟨bd2,od2,none⟩) n2 k2) (.slice YC1 ycl ys1)
    replace HC:=S9 HC gp2 (.string py.h) (.int .i64 py.a.y) (.int .i64 py.a.m) (.bool py.a.s) (.int .i64 py.a.d) (.int .i64 py.b.y) (.int .i64 py.b.m) (.bool py.b.s) (.int .i64 py.b.d) (.slice YO1 yol yq1) (.slice (some ⟨bd2,od2,none⟩) n2 k2) (.slice YC1 ycl ys1);clear H11 z0 u0 z1 u1 z2 u2 z3 u3 z4 u4 z5 u5 z6 u6 z7 u7 z8 u8 z9 u9 z10 u10 z11 u11 lx;have H11:=Hn;replace H10:=On;clear Hn On;generalize World.setCell _ _ _ = wq at *;have mz6:=trivial;refine Qq ?_)
  all_goals try
   (clear mz6
    refine Qx ?_;exact Jl p1 p2 ⟨HC,H10,H11⟩ rfl)
 rintro p1 p2 w1 ⟨h1,PX,PY⟩;clear c0 d0 c1 d1 c2 d2 c3 d3 c4 d4 c5 d5 c6 d6 c7 d7 c8 d8 c9 d9 c10 d10 c11 d11 hbp;replace E:=E.trans h1;replace B1:=B1.ext h1;replace B2:=B2.ext h1;replace HA:=HA.ext h1;clear h1;go_upto_region 2 with fail
 apply Ul (S:=fun w' p3 p4 => Qc w1 w' ∧ Qb w' p3 57 #[.int .i64 GX.on.y,.int .i64 GX.on.m,.bool GX.on.s,.int .i64 GX.on.d,.bool GX.i,.string GX.w,.slice F1 GX.l.length m1] ∧ Qb w' p4 57 #[.int .i64 GY.on.y,.int .i64 GY.on.m,.bool GY.on.s,.int .i64 GY.on.d,.bool GY.i,.string GY.w,.slice F2 GY.l.length m2])
 ·refine Zc 16 [15] (fun x => Qc w1 x) mixed rfl ?_;intro vz hvz;have HC:=hvz;have mz0:=trivial
  all_goals try
   (clear mz0
    refine Qs (g:=4) [0,1,2,3,4,5,6,7,8,9,10,11] HC ?_
    constructor
    refine ⟨fun u hu => ?_,?_⟩
    ·obtain ⟨j0,j1,jl⟩:=Qb.d2 (Qb.ext B1 hu);obtain ⟨l0,l1,ll⟩:=Qb.d2 (Qb.ext B2 hu);obtain ⟨a0,a1,a2,a3,al⟩:=Qb.d4 (Qb.ext HA hu);obtain ⟨x0',x1',x2',x3',x4',x5',x6',x7',x8',x9',x10',x11',xl⟩:=Qb.d12 (Qb.ext PX hu);obtain ⟨y0',y1',y2',y3',y4',y5',y6',y7',y8',y9',y10',y11',yl⟩:=Qb.d12 (Qb.ext PY hu);have r0:=((E.trans hu).cell (p:=⟨bd1,od1 + x2 * 7,none⟩) hb1).trans f0;have r1:=((E.trans hu).cell (p:=⟨bd1,od1 + x2 * 7 + 1,none⟩) hb1).trans f1;have r2:=((E.trans hu).cell (p:=⟨bd1,od1 + x2 * 7 + 2,none⟩) hb1).trans f2;have r3:=((E.trans hu).cell (p:=⟨bd1,od1 + x2 * 7 + 3,none⟩) hb1).trans f3;have r4:=((E.trans hu).cell (p:=⟨bd1,od1 + x2 * 7 + 4,none⟩) hb1).trans f4
     have r5:=((E.trans hu).cell (p:=⟨bd1,od1 + x2 * 7 + 5,none⟩) hb1).trans f5;have r6:=((E.trans hu).cell (p:=⟨bd1,od1 + x2 * 7 + 6,none⟩) hb1).trans f6;have s0:=((E.trans hu).cell (p:=⟨bd2,od2 + y2 * 7,none⟩) hb2).trans g0;have s1:=((E.trans hu).cell (p:=⟨bd2,od2 + y2 * 7 + 1,none⟩) hb2).trans g1;have s2:=((E.trans hu).cell (p:=⟨bd2,od2 + y2 * 7 + 2,none⟩) hb2).trans g2;have s3:=((E.trans hu).cell (p:=⟨bd2,od2 + y2 * 7 + 3,none⟩) hb2).trans g3;have s4:=((E.trans hu).cell (p:=⟨bd2,od2 + y2 * 7 + 4,none⟩) hb2).trans g4;have s5:=((E.trans hu).cell (p:=⟨bd2,od2 + y2 * 7 + 5,none⟩) hb2).trans g5;have s6:=((E.trans hu).cell (p:=⟨bd2,od2 + y2 * 7 + 6,none⟩) hb2).trans g6
     have hbu:=Nat.lt_of_lt_of_le hb1 (E.trans hu).size;have hbu':=Nat.lt_of_lt_of_le hb2 (E.trans hu).size;exact Qk
    have mz1:=trivial)
  all_goals try
   (clear mz1
    refine Zq 12 13 ?_ ?_
    focus
     go_wp2;obtain ⟨p3,wb,hbq,hwb,H10,HC',hx,gp3⟩:=Ql HC 57 #[.int .i64 0,.int .i64 0,.bool false,.int .i64 0,.bool false,.string ⟨#[]⟩,.slice none 0 0];rw [← hbq,← hwb];try have ne : p4 < p3:=by have:=H11.lt;omega
     replace HC:=HC';try replace H11:=H11.ext hx
     clear hbq hwb hx HC';have mz2:=trivial;refine Qf HC ?_
    rotate_left
    focus
     go_wp2;obtain ⟨p4,wb,hbq,hwb,H11,HC',hx,gp4⟩:=Ql HC 57 #[.int .i64 0,.int .i64 0,.bool false,.int .i64 0,.bool false,.string ⟨#[]⟩,.slice none 0 0];rw [← hbq,← hwb];try have ne : p3 < p4:=by have:=H10.lt;omega
     replace HC:=HC';try replace H10:=H10.ext hx
     clear hbq hwb hx HC';have mz3:=trivial;refine Qf HC ?_
    rotate_left)
  all_goals try
   (clear mz2
    refine Qj 13 ?_;go_wp2;obtain ⟨p4,wb,hbq,hwb,H11,HC',hx,gp4⟩:=Ql HC 57 #[.int .i64 0,.int .i64 0,.bool false,.int .i64 0,.bool false,.string ⟨#[]⟩,.slice none 0 0];rw [← hbq,← hwb];try have ne : p3 < p4:=by have:=H10.lt;omega
    replace HC:=HC';try replace H10:=H10.ext hx
    clear hbq hwb hx HC';have mz4:=trivial;refine Qf HC ?_)
  all_goals try
   (clear mz3
    refine Qj 12 ?_;go_wp2;obtain ⟨p3,wb,hbq,hwb,H10,HC',hx,gp3⟩:=Ql HC 57 #[.int .i64 0,.int .i64 0,.bool false,.int .i64 0,.bool false,.string ⟨#[]⟩,.slice none 0 0];rw [← hbq,← hwb];try have ne : p4 < p3:=by have:=H11.lt;omega
    replace HC:=HC';try replace H11:=H11.ext hx
    clear hbq hwb hx HC';have mz4:=trivial;refine Qf HC ?_)
  all_goals try
   (clear mz4
    refine Qj 14 ?_;obtain ⟨z0,z1,z2,z3,z4,z5,z6,u0,u1,u2,u3,u4,u5,u6,lx⟩:=Qb.e7 H10;go_wp2;have Hn:=Oj H10 (.int .i64 GX.on.y) (.int .i64 GX.on.m) (.bool GX.on.s) (.int .i64 GX.on.d) (.bool GX.i) (.string GX.w) (.slice F1 GX.l.length m1);have On:=Kt H11 (show p4 ≠ p3 by omega) (.int .i64 GX.on.y) (.int .i64 GX.on.m) (.bool GX.on.s) (.int .i64 GX.on.d) (.bool GX.i) (.string GX.w) (.slice F1 GX.l.length m1);replace HC:=Og HC gp3 (.int .i64 GX.on.y) (.int .i64 GX.on.m) (.bool GX.on.s) (.int .i64 GX.on.d) (.bool GX.i) (.string GX.w) (.slice F1 GX.l.length m1);clear H10 z0 z1 z2 z3 z4 z5 z6 u0 u1 u2 u3 u4 u5 u6 lx;have H10:=Hn;replace H11:=On;clear Hn On
    generalize World.setCell _ _ _ = wq at *;have mz5:=trivial;refine Qf HC ?_)
  all_goals try
   (clear mz5
    refine Qr 15 ?_;obtain ⟨z0,z1,z2,z3,z4,z5,z6,u0,u1,u2,u3,u4,u5,u6,lx⟩:=Qb.e7 H11;go_wp2;have Hn:=Oj H11 (.int .i64 GY.on.y) (.int .i64 GY.on.m) (.bool GY.on.s) (.int .i64 GY.on.d) (.bool GY.i) (.string GY.w) (.slice F2 GY.l.length m2);have On:=Kt H10 (show p3 ≠ p4 by omega) (.int .i64 GY.on.y) (.int .i64 GY.on.m) (.bool GY.on.s) (.int .i64 GY.on.d) (.bool GY.i) (.string GY.w) (.slice F2 GY.l.length m2);replace HC:=Og HC gp4 (.int .i64 GY.on.y) (.int .i64 GY.on.m) (.bool GY.on.s) (.int .i64 GY.on.d) (.bool GY.i) (.string GY.w) (.slice F2 GY.l.length m2);clear H11 z0 z1 z2 z3 z4 z5 z6 u0 u1 u2 u3 u4 u5 u6 lx;have H11:=Hn;replace H10:=On;clear Hn On
    generalize World.setCell _ _ _ = wq at *;have mz6:=trivial;refine Qq ?_)
  all_goals try
   (clear mz6
    refine Qx ?_;exact Jl p3 p4 ⟨HC,H10,H11⟩ rfl)
 rintro p3 p4 w2 ⟨h2,BX,BY⟩;clear f0 g0 f1 g1 f2 g2 f3 g3 f4 g4 f5 g5 f6 g6 hb1 hb2;replace E:=E.trans h2;replace HA:=HA.ext h2;replace PX:=PX.ext h2;replace PY:=PY.ext h2;replace L1:=L1.ext E;replace L2:=L2.ext E;have C:=hAC.ext E;clear h2 B1 B2;obtain ⟨r0,r1,r2,r3,r4,r5,r6,rl⟩:=Qb.d7 BX;obtain ⟨s0,s1,s2,s3,s4,s5,s6,sl⟩:=Qb.d7 BY;obtain ⟨a0,a1,a2,a3,al⟩:=Qb.d4 HA;have NX:=ND GX.on;have NY:=ND GY.on;clear ND;generalize c.numV GX.on = nx at *;generalize c.numV GY.on = ny at *;go_upto_region 3 with fail
 have n1:=fun u : XW _ => NX _ (C.ext u.e)
 have n2:=fun u : XW _ => NY _ (C.ext u.e)
 refine Qy w2 ?_;intro w3 h3;clear n1 n2;obtain ⟨_,_,_,_⟩:=Qv w2 h3;replace E:=E.trans h3;replace HA:=HA.ext h3;replace PX:=PX.ext h3;replace PY:=PY.ext h3;replace BX:=BX.ext h3;replace BY:=BY.ext h3;replace L1:=L1.ext h3;replace L2:=L2.ext h3;clear NX NY C r0 r1 r2 r3 r4 r5 r6 rl s0 s1 s2 s3 s4 s5 s6 sl a0 a1 a2 a3 al h3;go_upto_region 4 with fail
 obtain ⟨r0,r1,r2,r3,r4,r5,r6,rl⟩:=Qb.d7 BX;obtain ⟨s0,s1,s2,s3,s4,s5,s6,sl⟩:=Qb.d7 BY;obtain ⟨a0,a1,a2,a3,al⟩:=Qb.d4 HA;obtain ⟨x0',x1',x2',x3',x4',x5',x6',x7',x8',x9',x10',x11',xl⟩:=Qb.d12 PX;obtain ⟨y0',y1',y2',y3',y4',y5',y6',y7',y8',y9',y10',y11',yl⟩:=Qb.d12 PY;have NE:=fun w h1 h2 => Bc (.slice F1 GX.l.length m1) (.slice F2 GY.l.length m2) GX.l GY.l w h1 h2
 by_cases g1 : px.h = py.h
 ·have t1 : (px.h.toList == py.h.toList) = true := by rw [g1]; exact beq_self_eq_true _
  have t1n : (px.h.toList != py.h.toList) = false:=by rw [bne,t1];rfl
  obtain rfl : RB = false:=by
   rw [hRB.out];rw [zt g1];rfl
  clear hRB g1;go_wp2;go_ret;exact ⟨rfl,E⟩
 have t1 : (px.h.toList == py.h.toList) = false:=zb fun h => g1 (Wu h)
 have t1n : (px.h.toList != py.h.toList) = true:=by rw [bne,t1];rfl
 replace g1:=zh g1;by_cases g2 : GX.w = py.h;rotate_left
 ·have t : (GX.w.toList == py.h.toList) = false:=zb fun h => g2 (Wu h)
  obtain rfl : RB = false:=by
   rw [hRB.out];simp only [zf g2,Bool.and_false,Bool.false_and]
  clear hRB g2;go_wp2;go_ret;exact ⟨rfl,E⟩
 have tg2 : (GX.w.toList == py.h.toList) = true:=by rw [g2];exact beq_self_eq_true _
 replace g2:=zh g2;by_cases g3 : GY.w = px.h;rotate_left
 ·have t : (GY.w.toList == px.h.toList) = false:=zb fun h => g3 (Wu h)
  obtain rfl : RB = false:=by
   rw [hRB.out];simp only [zf g3,Bool.and_false,Bool.false_and]
  clear hRB g3;go_wp2;go_ret;exact ⟨rfl,E⟩
 have tg3 : (GY.w.toList == px.h.toList) = true:=by rw [g3];exact beq_self_eq_true _
 replace g3:=zh g3;cases g4 : GX.i
 rotate_left
 ·rw [g4] at r4
  obtain rfl : RB = false:=by
   rw [hRB.out];rw [g4];simp only [Bool.not_true,Bool.and_false,Bool.false_and]
  clear hRB g4;go_wp2;go_ret;exact ⟨rfl,E⟩
 rw [g4] at r4;cases g5 : GY.i
 ·rw [g5] at s4
  obtain rfl : RB = false:=by
   rw [hRB.out];rw [g5];simp only [Bool.and_false,Bool.false_and]
  clear hRB g4 g5;go_wp2;go_ret;exact ⟨rfl,E⟩
 rw [g5] at s4
 have hres : Hid (RB = (decide (GX.l = GY.l) && decide (0 ≤ ny - nx) && decide (ny - nx ≤ days))):=by
  unfold Hid;rw [hRB.out,zf g1.out,zt g2.out,zt g3.out,g4,g5];rfl
 clear hRB g1 g2 g3 g4 g5;by_cases g6 : GX.l = GY.l;rotate_left
 ·rw [zf g6] at NE hres;clear g6;obtain rfl : RB = false := by rw [hres.out]; rfl
  clear hres;go_wp2_with (go_at_call 53;refine zc (NE _ L1 L2) ?_;rintro e w4 ⟨rfl,h4⟩);go_ret;exact ⟨rfl,E.trans h4⟩
 rw [zt g6] at NE hres;clear g6;have ha : ∀ w',Qc _ w' → Qb w' ba 103 _:=fun w' h => HA.ext h
 replace ha:=zh ha;by_cases q1 : 0 ≤ ny - nx;rotate_left
 ·have f1 : decide (0 ≤ ny - nx) = false := zf q1;obtain rfl : RB = false := by rw [hres.out, f1]; rfl
  clear hres;go_wp2_with (go_at_call 53;refine zc (NE _ L1 L2) ?_;rintro e w4 ⟨rfl,h4⟩);go_ret;exact ⟨rfl,E.trans h4⟩
 have f1 : decide (0 ≤ ny - nx) = true:=zt q1;have f2 : RB = decide (ny - nx ≤ days):=by rw [hres.out,f1];rfl
 clear hres;obtain ⟨z,hz⟩:=Qe (decide (ny - nx ≤ days));have hz':=hz.symm;rw [← hz] at f2;clear hz;subst f2;cases RB
 ·go_wp2_with (go_at_call 53;refine zc (NE _ L1 L2) ?_;rintro e w4 ⟨rfl,h4⟩;obtain ⟨a0,a1,a2,a3⟩:=Qb.c4 (ha.out _ h4);have al:=Qb.lt (ha.out _ h4));go_ret;exact ⟨rfl,E.trans h4⟩
 ·go_wp2_with (go_at_call 53;refine zc (NE _ L1 L2) ?_;rintro e w4 ⟨rfl,h4⟩;obtain ⟨a0,a1,a2,a3⟩:=Qb.c4 (ha.out _ h4);have al:=Qb.lt (ha.out _ h4));go_ret;exact ⟨rfl,E.trans h4⟩
end
section
open Go Go.RowKit Go.Shelf
theorem Ss {adj : Nat → List Nat} {ni no : Nat} : ∀ (n i : Nat) (m : Mt) (fx : Bl),(Ya adj ni no n i m fx).length ≤ n
 | 0,_,_,_ => Nat.le_refl _
 | n + 1,i,m,fx => by
  rw [Ed]
  cases Xo adj ni no i (adj i) m fx with
  | none => exact Nat.le_succ_of_le (Ss n (i + 1) m fx)
  | some p =>
   obtain ⟨k,m',fx'⟩:=p;exact Nat.succ_le_succ (Ss n (i + 1) m' fx')
theorem Qki (c : Qd) (l : List Pd) (days : Int) : (c.matchL l days).length ≤ (Zb l false).length:=by
 unfold Qd.matchL;rw [List.length_map];exact Ss _ _ _ _
theorem Qbx : ∀ (L : List (Rf × Rf)) (i j : Nat),i < L.length → j < 4 → (L.flatMap Ug)[i * 4 + j]? = (Ug (L.getD i (Qn,Qn)))[j]?
 | r :: L,0,j,_,hj => by
  match j,hj with
  | 0,_ => simp [Ug]
  | 1,_ => simp [Ug]
  | 2,_ => simp [Ug]
  | 3,_ => simp [Ug]
 | r :: L,i + 1,j,h,hj => by
  have hl : (Ug r).length = 4:=rfl;rw [List.flatMap_cons,List.getElem?_append_right Qa,hl,show (i + 1) * 4 + j - 4 = i * 4 + j by omega,Qbx L i j (by simpa using h) hj];rfl
theorem Dx {w : World} {base : Nat} {v : Value} {L : List (Rf × Rf)} (h : w.ownsRow base 35 4 v L.length (L.flatMap Ug)) : ∃ F c,v = .slice F L.length c ∧ Qm w F L.length 4 (fun i => Ug (L.getD i (Qn,Qn))):=by
 rcases h.2 with ⟨rfl,h0⟩ | ⟨q,cap,cur,rfl,hb,hq,hn,hm,_⟩
 ·exact ⟨none,0,by rw [h0],fun hp => by omega⟩
 ·refine ⟨_,_,rfl,fun _ => ⟨q,0,rfl,(Array.getElem?_eq_some_iff.1 hq).1,fun i j v hi hv => ?_⟩⟩;have hj : j < 4:=(List.getElem?_eq_some_iff.1 hv).1;have hlt : i * 4 + j < L.length * 4:=Qa;rw [Nat.zero_add,World.ownsRow.cellAt h (i * 4 + j) hlt,Qbx L i j hi hj];exact hv
theorem Qbn {c : Qd} {l : List Pd} {days : Int} (h : c.audE l days = 0) : (c.matchL l days).length ≤ 2048:=by
 obtain ⟨⟨_,hp⟩,_⟩:=Gr h;have h1:=Qki c l days;have h2:=V6 (l:=l) false (m:=64) (fun i hi => (hp _ (J6 (z:=Qp) hi)).m) l.length (Nat.le_refl _);have h3:=Gp (Gu h);have h4 : (Zb l false).length ≤ l.length * 64:=h2;omega
end
section
open Go Go.RowKit
theorem Qh2 (w : World) (x0 y0 : Int) (x1 y1 : Int) : (Op.equalIn 10000 33 (.agg #[.int .i64 x0,.int .i64 x1]) (.agg #[.int .i64 y0,.int .i64 y1])).run Tryz.prog w = .ok ((x0 == y0) && (x1 == y1)) w:=by
 go_simp
 by_cases h0 : x0 = y0;rotate_left
 ·simp [h0]
 by_cases h1 : x1 = y1;rotate_left
 ·simp [h1]
 simp [h0,h1]
theorem Qh4 (w : World) (x0 y0 : Int) (x1 y1 : Int) : (binOp .eql 33 (.agg #[.int .i64 x0,.int .i64 x1]) (.agg #[.int .i64 y0,.int .i64 y1])).run Tryz.prog w = .ok (.bool ((x0 == y0) && (x1 == y1))) w:=by rw [run_eql_struct,Qh2];rfl
theorem Qhy (w : World) (x0 y0 : Int) (x1 y1 : Int) (x2 y2 : Int) : (Op.equalIn 10000 47 (.agg #[.int .i64 x0,.int .i64 x1,.int .i64 x2]) (.agg #[.int .i64 y0,.int .i64 y1,.int .i64 y2])).run Tryz.prog w = .ok ((x0 == y0) && ((x1 == y1) && (x2 == y2))) w:=by
 go_simp
 by_cases h0 : x0 = y0;rotate_left
 ·simp [h0]
 by_cases h1 : x1 = y1;rotate_left
 ·simp [h1]
 by_cases h2 : x2 = y2;rotate_left
 ·simp [h2]
 simp [h0,h1,h2]
theorem Qli (w : World) (x0 y0 : Int) (x1 y1 : Int) (x2 y2 : Int) : (binOp .neq 47 (.agg #[.int .i64 x0,.int .i64 x1,.int .i64 x2]) (.agg #[.int .i64 y0,.int .i64 y1,.int .i64 y2])).run Tryz.prog w = .ok (.bool (!((x0 == y0) && ((x1 == y1) && (x2 == y2))))) w:=by rw [run_neq_struct,Qhy];rfl
end
section
abbrev Z7:=Nat × Nat × Nat
def Ka : Z7:=(0,0,0)
def Qz (l : List Pd) (i : Nat) : Pd:=l.getD i Qp
def Lz (p : Pd) : Bool:=!(decide ((Zw p.o p.d).2 = 0) && decide ((Zw p.o p.d).1 = p.c))
def Qd.befS (c : Qd) (l : List Pd) (i : Nat) (b : Int) (k : Nat) : Int:=if c.numV (Qz l k).b < c.numV (Qz l i).a ∧ (b < 0 ∨ c.numV (Qz l b.toNat).b < c.numV (Qz l k).b) then (k : Int) else b
def Y6 (l : List Pd) (h : ByteArray) : List Nat:=(List.range l.length).filter fun k => decide ((Qz l k).h = h)
def Qd.befV (c : Qd) (l : List Pd) (i : Nat) : Int:=(Y6 l (Qz l i).h).foldl (c.befS l i) (-1)
def Qd.befK (c : Qd) (l : List Pd) (i : Nat) : Nat → Int
 | 0 => -1
 | k + 1 => if (Qz l k).h = (Qz l i).h then c.befS l i (c.befK l i k) k else c.befK l i k
theorem Sg (c : Qd) (l : List Pd) (i : Nat) : c.befK l i l.length = c.befV l i:=by
 have h : ∀ n,((List.range n).filter fun k => decide ((Qz l k).h = (Qz l i).h)).foldl (c.befS l i) (-1) = c.befK l i n:=fun n => by
  induction n with
  | zero => rfl
  | succ n ih =>
   rw [List.range_succ,List.filter_append,List.foldl_append,ih]
   show _ = (if (Qz l n).h = (Qz l i).h then c.befS l i (c.befK l i n) n else c.befK l i n)
   by_cases e : (Qz l n).h = (Qz l i).h
   ·rw [if_pos e];simp [e]
   ·rw [if_neg e];simp [e]
 exact (h l.length).symm
theorem Sh (c : Qd) (l : List Pd) (i : Nat) : ∀ n,-1 ≤ c.befK l i n ∧ c.befK l i n < n
 | 0 => by unfold Qd.befK;omega
 | n + 1 => by
  have h:=Sh c l i n;unfold Qd.befK Qd.befS
  split
  ·split <;> omega
  ·omega
def Qd.ovB (c : Qd) (l : List Pd) (i : Nat) : Bool:=(Y6 l (Qz l i).h).any fun k => decide (k < i) && decide (c.numV (Qz l k).a ≤ c.numV (Qz l i).b) && decide (c.numV (Qz l i).a ≤ c.numV (Qz l k).b)
def Qd.keptB (c : Qd) (l : List Pd) (w : ByteArray) (on : Dt) : Bool:=(Y6 l w).any fun k => decide (c.numV (Qz l k).a ≤ c.numV on) && decide (c.numV on ≤ c.numV (Qz l k).b)
def Wh (m : List (Rf × Rf)) (r : Rf) : Bool:=m.any fun p => decide (p.1 = r) || decide (p.2 = r)
def Qd.dealB (c : Qd) (l : List Pd) (m : List (Rf × Rf)) (i k : Nat) : Bool:=c.keptB l ((Qz l i).d.getD k Zd).w ((Qz l i).d.getD k Zd).on && !Wh m (i,k)
def Qd.opB (c : Qd) (l : List Pd) (i : Nat) : Bool:=decide (0 ≤ c.befV l i) && !decide ((Qz l (c.befV l i).toNat).c = (Qz l i).o)
def Qd.isA (c : Qd) (l : List Pd) (i : Nat) : List Z7:=(if Lz (Qz l i) = true then [(1,i,0)] else []) ++ (if c.opB l i = true then [(2,i,0)] else []) ++ (if c.ovB l i = true then [(3,i,0)] else [])
def Qd.isD (c : Qd) (l : List Pd) (m : List (Rf × Rf)) (i : Nat) : Nat → List Z7
 | 0 => []
 | k + 1 => c.isD l m i k ++ (if c.dealB l m i k = true then [(4,i,k)] else [])
def Qd.isP (c : Qd) (l : List Pd) (m : List (Rf × Rf)) (i : Nat) : List Z7:=c.isA l i ++ c.isD l m i (Qz l i).d.length
def Qd.audN (c : Qd) (l : List Pd) (m : List (Rf × Rf)) : Nat → List Z7
 | 0 => []
 | n + 1 => c.audN l m n ++ c.isP l m n
def Qd.audL (c : Qd) (l : List Pd) (m : List (Rf × Rf)) : List Z7:=c.audN l m l.length
def Qd.auditV (c : Qd) (l : List Pd) (days : Int) : List Z7 × Int:=if c.audE l days ≠ 0 then ([],c.audE l days) else (c.audL l (c.matchL l days),0)
def Wo (x y : Z7) : Prop:=x.2.1 < y.2.1 ∨ (x.2.1 = y.2.1 ∧ (x.1 < y.1 ∨ (x.1 = y.1 ∧ x.2.2 < y.2.2)))
theorem Qap {c : Qd} {l : List Pd} {i : Nat} {x : Z7} (h : x ∈ c.isA l i) : x.2.1 = i ∧ x.2.2 = 0 ∧ 1 ≤ x.1 ∧ x.1 ≤ 3:=by
 unfold Qd.isA at h;simp only [List.mem_append] at h;rcases h with (h | h) | h <;> split at h <;> simp at h <;> subst h <;> simp
theorem Ff {c : Qd} {l : List Pd} {m : List (Rf × Rf)} {i : Nat} {x : Z7} : ∀ {n : Nat},x ∈ c.isD l m i n → x.2.1 = i ∧ x.2.2 < n ∧ x.1 = 4
 | 0,h => absurd h (by simp [Qd.isD])
 | n + 1,h => by
  unfold Qd.isD at h;rw [List.mem_append] at h;rcases h with h | h
  ·have:=Ff h;exact ⟨this.1,Qa,this.2.2⟩
  ·split at h
   ·simp at h;subst h;simp
   ·simp at h
theorem Pu {c : Qd} {l : List Pd} {m : List (Rf × Rf)} {i : Nat} {x : Z7} (h : x ∈ c.isP l m i) : x.2.1 = i ∧ x.1 ≤ 4 ∧ (x.2.2 = 0 ∨ x.2.2 < (Qz l i).d.length):=by
 unfold Qd.isP at h;rw [List.mem_append] at h;rcases h with h | h
 ·obtain ⟨h1,h2,h3,h4⟩:=Qap h;exact ⟨h1,Qa,.inl h2⟩
 ·obtain ⟨h1,h2,h3⟩:=Ff h;exact ⟨h1,Qa,.inr h2⟩
theorem Qjp (c : Qd) (l : List Pd) (i : Nat) : (c.isA l i).Pairwise Wo:=by
 unfold Qd.isA
 split <;> split <;> split <;> simp [Wo]
theorem Qaq (c : Qd) (l : List Pd) (m : List (Rf × Rf)) (i : Nat) : ∀ n,(c.isD l m i n).Pairwise Wo
 | 0 => List.Pairwise.nil
 | n + 1 => by
  unfold Qd.isD;refine List.pairwise_append.2 ⟨Qaq c l m i n,by split <;> simp,fun x hx y hy => ?_⟩;obtain ⟨h1,h2,h3⟩:=Ff hx
  split at hy
  ·rw [List.mem_singleton] at hy;subst hy;exact .inr ⟨h1,.inr ⟨h3,h2⟩⟩
  ·exact absurd hy (by simp)
theorem Qjq (c : Qd) (l : List Pd) (m : List (Rf × Rf)) (i : Nat) : (c.isP l m i).Pairwise Wo:=by
 refine List.pairwise_append.2 ⟨Qjp c l i,Qaq c l m i _,fun x hx y hy => ?_⟩;obtain ⟨h1,_,_,h4⟩:=Qap hx;obtain ⟨k1,_,k3⟩:=Ff hy;exact .inr ⟨Qa,.inl Qa⟩
theorem Tw {c : Qd} {l : List Pd} {m : List (Rf × Rf)} {x : Z7} : ∀ {n : Nat},x ∈ c.audN l m n → x.2.1 < n ∧ x ∈ c.isP l m x.2.1
 | 0,h => absurd h (by simp [Qd.audN])
 | n + 1,h => by
  unfold Qd.audN at h;rw [List.mem_append] at h;rcases h with h | h
  ·have:=Tw h;exact ⟨Qa,this.2⟩
  ·have:=(Pu h).1;rw [this];exact ⟨Qa,h⟩
theorem Ae (c : Qd) (l : List Pd) (m : List (Rf × Rf)) : ∀ n,(c.audN l m n).Pairwise Wo
 | 0 => List.Pairwise.nil
 | n + 1 => by
  refine List.pairwise_append.2 ⟨Ae c l m n,Qjq c l m n,fun x hx y hy => ?_⟩;have h1:=(Tw hx).1;have h2:=(Pu hy).1;exact .inl Qa
theorem Ad (c : Qd) (l : List Pd) (m : List (Rf × Rf)) : ∀ n,c.audN l m n = (List.range n).flatMap (c.isP l m)
 | 0 => rfl
 | n + 1 => by
  rw [List.range_succ,List.flatMap_append,← Ad c l m n];simp [Qd.audN]
theorem Qnq (l : List Pd) (P : ByteArray → Bool) (f : Nat → List Z7) (h : ByteArray) (hP : P h = false) :
  ((List.range l.length).filter fun i => P (Qz l i).h || decide ((Qz l i).h = h)).flatMap f |>.Perm (((List.range l.length).filter fun i => P (Qz l i).h).flatMap f ++ (Y6 l h).flatMap f):=by
 unfold Y6;generalize List.range l.length = r
 induction r with
 | nil => exact List.Perm.refl _
 | cons i r ih =>
  by_cases e : (Qz l i).h = h
  ·have e1 : P (Qz l i).h = false := by rw [e]; exact hP
   simp only [List.filter_cons,e1,Bool.false_or,zt e,if_true,List.flatMap_cons];simp only [Bool.false_eq_true,if_false];refine (List.Perm.append_left (f i) ih).trans ?_;rw [← List.append_assoc,← List.append_assoc];exact List.perm_append_comm.append_right _
  ·by_cases e1 : P (Qz l i).h = true
   ·simp only [List.filter_cons,e1,Bool.true_or,if_true,List.flatMap_cons,zf e,Bool.false_eq_true,if_false,List.append_assoc];exact List.Perm.append_left (f i) ih
   ·have e1 : P (Qz l i).h = false := by simpa using e1
    simp only [List.filter_cons,e1,Bool.false_or,zf e,Bool.false_eq_true,if_false];exact ih
theorem Qjb {x : Z7} : ¬ Wo x x:=fun h => by unfold Wo at h;omega
theorem Qdx : ∀ {a b : List Z7},a.Perm b → a.Pairwise Wo → b.Pairwise (fun x y => ¬ Wo y x) → a = b
 | [],b,h,_,_ => (List.Perm.nil_eq h)
 | x :: a,[],h,_,_ => absurd h.symm (by simp)
 | x :: a,y :: b,h,h1,h2 => by
  have hx : x ∈ y :: b:=h.subset List.mem_cons_self;have hy : y ∈ x :: a:=h.symm.subset List.mem_cons_self
  have e : x = y:=by
   rcases List.mem_cons.1 hx with e | hx
   ·exact e
   ·rcases List.mem_cons.1 hy with e | hy
    ·exact e.symm
    ·exact absurd (List.rel_of_pairwise_cons h1 hy) (List.rel_of_pairwise_cons h2 hx)
  subst e;rw [Qdx (List.Perm.cons_inv h) (List.Pairwise.of_cons h1) (List.Pairwise.of_cons h2)]
end
end Go.Proofs.YtoflcheopfppoaaGreatDoor

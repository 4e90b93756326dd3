/- exact: numbers of 0 or more: byGroup. -/
import Derived.Test.YtenjpccpldajoaaGreatDoorPk06
namespace Go.Proofs.YtenjpccpldajoaaGreatDoor
set_option maxRecDepth 100000
set_option maxHeartbeats 2000000
open Go.RowKit Go.Shelf
set_option linter.unusedVariables false
set_option linter.unusedSimpArgs false
attribute [local go_sem] Oper.semAt_some
structure ByI (W0:World) (n₀ O R:Nat) (t t2:TypeId) (Bs:List Nat) (a b:Nat) (pre:List (Fin (dg a).length)) (W:World):Prop where
 kept:Kept n₀ Bs W0 W
 size:W0.heap.size≤W.heap.size
 ex:∃(out:List Nat) (rest:Nat),out.length=(dg a).length ∧Low out∧rest<b∧W.ownsRow n₀ t 1 (.slice (some ⟨O,0,none⟩) (dg a).length (dg a).length) (dg a).length (out.map (gv .u32))∧
  W.heap[R]? =some (.cells #[.int .u64 rest] t2)∧(pre<+:List.finRange (dg a).length →ByGroup (dg a) b ((dg a).length - pre.length) rest out)
theorem qEU {w w2:World} {base e size n O N c:Nat} {xs:List Value} {row:Option Nat} (h:w.ownsRow base e size (.slice (some ⟨O,0,none⟩) N c) n xs) (hg:w.grownBy w2 row) (hr:∀r,row=some r→r≠O):w2.ownsRow base e size (.slice (some ⟨O,0,none⟩) N c) n xs:=
 h.kept hg (.inr fun he=>by
  have:some O=row:=he
  exact hr O this.symm rfl)
theorem ByI.from (W0:World) (n₀ O R:Nat) (t t2:TypeId) (Bs:List Nat) (a b N0:Nat) (h:W0.heap.size≤N0) (hn:n₀≤W0.heap.size) (hO:O<N0) (hR:R<N0) (hBs:∀B∈Bs,B<W0.heap.size):OwnFrom N0 (ByI W0 n₀ O R t t2 Bs a b):=by
 rintro s X Y row ⟨h1,hs,out,rest,h2,h3,h4,h5,h6,h7⟩ hg hrow;refine⟨h1.trans ⟨(Below.refl _ _).grown hg (by omega) fun k e=>by have:=(hrow k e).1;omega,fun B hB=>hg.block B (by have:=hBs B hB;omega) (fun e=>by have:=(hrow _ e.symm).1;have:=hBs B hB;omega)⟩,Nat.le_trans hs hg.size,out,rest,h2,h3,h4,?_,?_,h7⟩
 ·exact qEU h5 hg fun r e=>by have:=(hrow r e).1;omega
 ·exact(hg.block R (gsl h6) (fun e=>by have:=(hrow _ e.symm).1;omega)).trans h6
theorem ByI.step {W0:World} {n₀ O R:Nat} {t t2:TypeId} {Bs:List Nat} {a b:Nat} {pre:List (Fin (dg a).length)} {x:Fin (dg a).length} {W:World} {out:List Nat} {rest:Nat} (n D q r:Nat)
  (k1:Kept n₀ Bs W0 W) (k2:W0.heap.size≤W.heap.size) (h1:out.length=(dg a).length) (h2:Low out) (h3:rest<b) (h4:W.ownsRow n₀ t 1 (.slice (some ⟨O,0,none⟩) (dg a).length (dg a).length) (dg a).length (out.map (gv .u32)))
  (h5:W.heap[R]? =some (.cells #[.int .u64 (rest:Int)] t2)) (h6:pre<+:List.finRange (dg a).length →ByGroup (dg a) b ((dg a).length - pre.length) rest out)
  (m:Nat) (hm:(dg a).length - 1 - x.1=m) (hD:D=rest*B9+(dg a).getD m 0) (hq:q=D / b) (hr:r=D%b) (hO:n₀≤O) (hR:n₀≤R) (hOR:O≠R) (hBs:∀B∈Bs,B≠O∧B≠R) (Bs2:List Nat) (hsub:∀B∈Bs2,B∈Bs) (N0:Nat) (aa:Act):
  ownPostG N0 (Kept n₀ Bs2) (ByI W0 n₀ O R t t2 Bs a b) (fun _ _ _=>False) (pre++[x]) W .normal aa (((W.drewN n).setCell ⟨O,m,none⟩ (.int .u32 (q:Int))).setCell ⟨R,0,none⟩ (.int .u64 (r:Int))):=by
 have hb:0<b:=by omega
 have hx:=x.2;have hml:m<(dg a).length :=by omega
 have hgd:(dg a).getD m 0=(dg a)[m]:=qBZ hml;obtain⟨c1,c2,c3⟩:=qF9 hb h3 (qBQ a m hml);rw[←hgd,←hD,←hq]at c1;rw[←hgd,←hD,←hr]at c2
 have hk:Kept n₀ Bs W (((W.drewN n).setCell ⟨O,m,none⟩ (.int .u32 (q:Int))).setCell ⟨R,0,none⟩ (.int .u64 (r:Int))):=
  ⟨((qDQ (Below.refl _ W) n).setCell (p:=⟨O,m,none⟩) hO _).setCell (p:=⟨R,0,none⟩) hR _,fun B hB=>(Below.heap_setCell _ _ _ _ (hBs B hB).2).trans ((Below.heap_setCell _ _ _ _ (hBs B hB).1).trans rfl)⟩
 refine⟨(((show KeepsOthers W (W.drewN n)from⟨Nat.le_refl _,fun _ _ h _=>h⟩).trans (KeepsOthers.setCell _ _ _)).trans (KeepsOthers.setCell _ _ _)).from _,⟨hk.1,fun B hB=>hk.2 B (hsub B hB)⟩,?_⟩;refine⟨k1.trans hk,by simpa[World.setCell]using k2,out.set m q,r,by simpa using h1,h2.set _ _ c1,c2,?_,?_,fun hp=>?_⟩
 ·have h7:=qC6 (f:=gv .u32) (show(W.drewN n).ownsRow n₀ t 1 (.slice (some ⟨O,0,none⟩) (dg a).length (dg a).length) (dg a).length (out.map (gv .u32))from h4) m q;refine⟨h7.1,?_⟩
  rcases h7.2 with h'| ⟨g,cap,cur,hv',hbg,hh,rr⟩
  ·exact Or.inl h'
  ·injection hv' with e1 e2 e3;injection e1 with e1;injection e1 with e1;refine Or.inr ⟨g,cap,cur,by rw[e1,e3],hbg,(Below.heap_setCell _ _ _ _ (by show g≠R;omega)).trans hh,rr⟩
 ·have h8:((W.drewN n).setCell ⟨O,m,none⟩ (.int .u32 (q:Int))).heap[R]? =some (.cells #[.int .u64 (rest:Int)] t2):=(Below.heap_setCell _ _ _ _ (show R≠O by omega)).trans h5;exact qAW h8
 ·obtain⟨p1,p2⟩:=qCt hp;have h9:=h6 p1;rw[show(dg a).length - pre.length=m+1 by omega]at h9;have h10:=(h9.next (qAq a) hml D (by rw[hD,hgd])).1;rw[←hq,←hr]at h10;rw[List.length_append,List.length_singleton,show(dg a).length - (pre.length+1)=m by omega];exact h10
theorem qHP (L:Nat→Prop) (a b:Nat) (va:Value) (w:World) (hL:Up w L) (ha:NumL L .u32 w va a) (hb0:0<b) (hbB:b<1000000000) (hma:(dg a).length ≤100000000):
  Calls Tryz.prog 120 #[va,.int .u32 b] w fun e w'=>∃v',e= .returned (.tuple #[v',.int .u32 ((a%b:Nat):Int)])∧Le w w'∧NumL L .u32 w' v' (a / b):=by
 have ha0:=ha.arr;obtain⟨Aa,ca,rfl,a1,a2,aN,a3⟩:=ha;unfold maxLen at a2;have hB:=qAO;have⟨ha0',a3',aN',hB',hL'⟩:=hyd5 ha0 a3 aN hB hL;clear hL hB aN a3 ha0;refine(callsIn_wide (n:=5)).1 ?_;refine callsIn_of_wp_marks Tryz.func120 rfl trivial ?_ rfl;simp only[Tryz.ntmps120,List.size_toArray,List.length_cons,List.length_nil,Nat.reduceAdd,Nat.reduceSub,Array.replicate_succ,Array.replicate_zero,List.push_toArray,List.append_toArray,List.nil_append,List.cons_append];refine wpIn_wide.2 ?_;go_wp2_with (first | (at_make;go_must (refine qER (f:=gv .u32) _ rfl _ _ 68 rfl w.heap.size 92 0 4 qAf rfl (by decide) (dg a).length (by go_num) (by go_num) (by omega) (by simp) _ rfl ?_);intro w1 r1 r2 r3)| (go_at_call 69;((with_reducible refine(qBx _ _ _ _).mono ?_);rintro e w' ⟨rfl,rfl⟩)));have hbx:=(alc1 w (.cells #[.int .u32 (b:Int)] 92)).trans (r2.mono (by simp));have hs0:(w.alloc (.cells #[.int .u32 (b:Int)] 92)).heap.size =w.heap.size+1:=by simp
 have hB0:w1.heap[w.heap.size]? =some (.cells #[.int .u32 (b:Int)] 92):=(r2.block _ (by omega)).trans (heap_alloc_new _ _);rw[hs0]at r3 r1;obtain⟨W0,hW0,hsz,hBW,h0,h1,h2⟩:=qEJ w1 (.cells #[.slice (some ⟨w.heap.size+1,0,none⟩) (dg a).length (dg a).length] 68) (.cells #[.int .u64 0] 98) (.cells #[.slice Aa (dg a).length ca] 68);rw[hW0];clear hW0;have hbW0:Below w.heap.size w W0:=hbx.trans (hBW.mono (by omega));have hB0':=(hBW.block w.heap.size (by omega)).trans hB0;have hown0:=qC5 r1 hBW;clear r1 r2 hB0 hbx;generalize hM:w1.heap.size=M at*;have hyield:=qBV (dg a) _ w W0 (M+1+1) w.heap.size ha0'.out (by omega) (by omega) (Nat.le_refl _) hbW0 (qAC h2);refine(wpIn_wide (n:=5)).1 ?_;refine wpIn_rangeFunc_ownG rfl (by omega) (gf:=122) (lb:=#[.pointer (some ⟨M+1+1,0,none⟩)]) rfl trivial (enters_of Tryz.func122 (by kernel_rfl) rfl)
  hyield Kept.trans (Kept.put (by omega) (by simp;omega)) (Below.refl _ _) (fun _=>rfl)
  (ByI W0 w.heap.size (w.heap.size+1) (M+1) 92 98 [w.heap.size,M,M+1+1] a b) (fun _ _ _=>False) (ByI.from _ _ _ _ _ _ _ _ _ _ (Nat.le_refl _) (by omega) (by omega) (by omega) (by simp;omega)) (fun _ _ _ _ _ hs _ _=>hs)
  ⟨Kept.refl _ _ _,Nat.le_refl _,_,0,List.length_replicate,qCU _,hb0,hown0,h1,fun _=>ByGroup.start _ _ hb0⟩ ?_ ?_ ?_ ?_ ?_
 rotate_left
 ·intro l x W K hK;dsimp only[qDu];gi_wp2;exact hK
 ·rintro l pre x W ⟨k1,k2,out,rest,g1,g2,g3,g4,g5,g6⟩ hlen2;have hx:=x.2;obtain⟨m,hm⟩:∃m,(dg a).length - 1 - x.1=m:=⟨_,rfl⟩;have hml:m<(dg a).length :=by omega
  have cb:=qAC ((k1.2 w.heap.size (by simp)).trans hB0');have co:=qAC ((k1.2 M (by simp)).trans h0);have cR:=qAC g5;have fR:=fz0 g5 0;obtain⟨g,hg⟩:∃g,(dg a)[m]?.getD 0=g:=⟨_,rfl⟩;have hga:(dg a)[m]=g:=by rw[←hg];simp[hml]
  have hgB:g<1000000000:=by rw[←hga,←hB'.out];exact qBQ _ _ _
  obtain⟨y,hy⟩:∃y,out[m]? =some y:=⟨_,List.getElem?_eq_getElem (by omega)⟩;have hck:=qBo g4 g1 hy;unfold gv at hck;have hfr:=g4.frozenAt m;obtain⟨D,hD⟩:∃D,rest*1000000000+g=D:=⟨_,rfl⟩;have hDi:(rest:Int)*1000000000+(g:Int)=(D:Int):=by omega
  have hDB:D<b*1000000000:=by omega
  obtain⟨q,hq⟩:∃q,D / b=q:=⟨_,rfl⟩;obtain⟨r,hr⟩:∃r,D%b=r:=⟨_,rfl⟩;have hqi:(D:Int) / (b:Int)=(q:Int):=by rw[←hq];simp
  have hri:(D:Int)%(b:Int)=(r:Int):=by rw[←hr];simp
  have hqi2:(D:Int).tdiv (b:Int)=(q:Int):=by rw[Int.tdiv_eq_ediv_of_nonneg (by omega)];exact hqi
  have hri2:(D:Int).tmod (b:Int)=(r:Int):=by rw[Int.tmod_eq_emod_of_nonneg (by omega)];exact hri
  have hqB:q<1000000000:=by rw[←hq];exact(Nat.div_lt_iff_lt_mul hb0).2 (by rw[Nat.mul_comm];exact hDB)
  have hrB:r<b:=by rw[←hr];exact Nat.mod_lt _ hb0
  have hbz:((b:Int)==0)=false:=by simp;omega
  have hbz2:¬(b:Int)=0:=by omega
  have hOR:¬(w.heap.size+1=M+1):=by omega
  have hOR2:¬(M+1=w.heap.size+1):=by omega
  have hfin:=fun n aa=>ByI.step (N0:=W0.heap.size) (x:=x) n D q r k1 k2 g1 g2 g3 g4 g5 g6 m hm (by rw[hB'.out,←hD,qBZ hml,hga]) hq.symm hr.symm (by omega) (by omega) (by omega) (by simp;omega) [M+1+1] (by simp) aa;rw[hm,hg];clear hyield k1 k2 g1 g2 g3 g4 g6 h0 h1 h2 hga;have⟨hg',hD',hq',hr',hfin',hy',g5',hB0''⟩:=hyd8 hg hD hq hr hfin hy g5 hB0';have hm':=hyd1 hm;clear hm hB0' g5 hy hfin hr hq hD hg;gi_wp2;refine qG8 (R:=setRel ⟨w.heap.size+1,m,none⟩ (.int .u32 (q:Int))) 13 [some 23,some 24,some 25,some 26,some 27,some 28,some 29,some 30,some 31,some 32,some 33,some 34,none,none] [[],[],[],[],[3],[2,4],[5],[],[],[8],[7,9],[0,1],[6,11],[10]]
   [.eq (.slice (some ⟨w.heap.size+1,0,none⟩) (dg a).length (dg a).length),.eq (.int .i64 (m:Nat)),.eq (.int .u64 (D:Nat)),.eq (.int .u32 (b:Nat)),.eq (.int .u64 (b:Nat)),.eq (.int .u64 (q:Nat)),.eq (.int .u32 (q:Nat)),.eq (.int .u64 (D:Nat)),.eq (.int .u32 (b:Nat)),.eq (.int .u64 (b:Nat)),.eq (.int .u64 (r:Nat)),.eq (.pointer (some ⟨w.heap.size+1,m,none⟩)),.stored _ _ W] (fun _ _=>False) (by kernel_rfl) (by kernel_rfl) (by kernel_rfl) (by kernel_rfl) (by kernel_rfl) ?_ (fun _ _ _ _ _ h=>h.elim) ?_
  ·simp only[List.take_succ_cons,List.take_zero];refine mSc ?_ (mSc ?_ (mSc ?_ (mSc ?_ (mSc ?_ (mSc ?_ (mSc ?_ (mSc ?_ (mSc ?_ (mSc ?_ (mSc ?_ (mSc ?_ (mSc ?_ qAS))))))))))))
   ·refine mSl rfl fun x W2 hR hf Q hK _=>?_;have co2:=(setRel.other hR (B:=M) (i:=0) (by show M≠w.heap.size+1;omega)).trans co;simp only[fA]at hK ⊢;go_wp2;exact hK _ _ (WRel.refl _ _) rfl
   ·refine mSl rfl fun x W2 hR hf Q hK _=>?_;simp only[fA]at hK ⊢;go_wp2;exact hK _ _ (WRel.refl _ _) rfl
   ·refine mSl rfl fun x W2 hR hf Q hK _=>?_;simp only[fA]at hK ⊢;go_wp2;exact hK _ _ (WRel.refl _ _) rfl
   ·refine mSl rfl fun x W2 hR hf Q hK _=>?_;have cb2:=(setRel.other hR (B:=w.heap.size) (i:=0) (by show w.heap.size≠w.heap.size+1;omega)).trans cb;simp only[fA]at hK ⊢;go_wp2;exact hK _ _ (WRel.refl _ _) rfl
   ·refine mSl rfl fun x W2 hR hf Q hK _=>?_;obtain⟨e0,-⟩:=hf;change _=_ at e0;simp only[fA]at hK ⊢;go_wp2;exact hK _ _ (WRel.refl _ _) rfl
   ·refine mSl rfl fun x W2 hR hf Q hK _=>?_;obtain⟨e0,e1,-⟩:=hf;change _=_ at e0 e1;simp only[fA]at hK ⊢;go_wp2;exact hK _ _ (WRel.refl _ _) rfl
   ·refine mSl rfl fun x W2 hR hf Q hK _=>?_;obtain⟨e0,-⟩:=hf;change _=_ at e0;simp only[fA]at hK ⊢;go_wp2;exact hK _ _ (WRel.refl _ _) rfl
   ·refine mSl rfl fun x W2 hR hf Q hK _=>?_;simp only[fA]at hK ⊢;go_wp2;exact hK _ _ (WRel.refl _ _) rfl
   ·refine mSl rfl fun x W2 hR hf Q hK _=>?_;have cb2:=(setRel.other hR (B:=w.heap.size) (i:=0) (by show w.heap.size≠w.heap.size+1;omega)).trans cb;simp only[fA]at hK ⊢;go_wp2;exact hK _ _ (WRel.refl _ _) rfl
   ·refine mSl rfl fun x W2 hR hf Q hK _=>?_;obtain⟨e0,-⟩:=hf;change _=_ at e0;simp only[fA]at hK ⊢;go_wp2;exact hK _ _ (WRel.refl _ _) rfl
   ·refine mSl rfl fun x W2 hR hf Q hK _=>?_;obtain⟨e0,e1,-⟩:=hf;change _=_ at e0 e1;simp only[fA]at hK ⊢;go_wp2;exact hK _ _ (WRel.refl _ _) rfl
   ·refine mSl rfl fun x W2 hR hf Q hK _=>?_;obtain⟨e0,e1,-⟩:=hf;change _=_ at e0 e1;simp only[fA]at hK ⊢;go_wp2;exact hK _ _ (WRel.refl _ _) rfl
   ·refine mSl rfl fun x W2 hR hf Q hK _=>?_;obtain⟨e0,e1,-⟩:=hf;change _=_ at e0 e1;have hck2:∃u,W2.cell? ⟨w.heap.size+1,m,none⟩=some u:=setRel.self hR hck;obtain⟨u2,hck2⟩:=hck2;have hfr2:=setRel.selfFrozen hR hfr;simp only[fA]at hK ⊢;go_wp2;exact hK undef _ (setRel.put _ _ _) (setRel.stored hR (x:=undef))
  ·intro x W2 hR hf Q' hQ1 _;simp only[List.drop_succ_cons,List.drop_zero];have e0:=hf 0 (by decide);have e1:=hf 1 (by decide);have e2:=hf 2 (by decide);have e3:=hf 3 (by decide);have e4:=hf 4 (by decide);have e5:=hf 5 (by decide);have e6:=hf 6 (by decide);have e7:=hf 7 (by decide);have e8:=hf 8 (by decide);have e9:=hf 9 (by decide);have e10:=hf 10 (by decide);have e11:=hf 11 (by decide);obtain⟨nq,rfl⟩:=hf 12 (by decide);change _=_ at e0 e1 e2 e3 e4 e5 e6 e7 e8 e9 e10 e11;rw[show List.range 13=[0,1,2,3,4,5,6,7,8,9,10,11,12]from rfl];simp only[fA,e0,e1,e2,e3,e4,e5,e6,e7,e8,e9,e10,e11];clear e0 e1 e2 e3 e4 e5 e6 e7 e8 e9 e10 e11 hf hR;go_wp2;refine hQ1 _ _ ?_;gi_wp2;exact hfin'.out nq _
 ·rintro D ys W hD rfl ⟨k1,k2,out,rest,g1,g2,g3,g4,g5,g6⟩ hDK;have co:=qAC ((k1.2 M (by simp)).trans h0);have cR:=qAC g5;have hdone:=g6 (qBg _);rw[List.length_finRange,Nat.sub_self]at hdone;obtain⟨e1,e2⟩:=hdone.done;rw[qAl]at e1 e2;have hn:ArrL L (gv .u32) W (.slice (some ⟨w.heap.size+1,0,none⟩) (dg a).length (dg a).length) out:=ArrL.of_own g4 hL'.out;have hLe:Below w.heap.size w W:=hbW0.trans k1.1;have hrB:rest<1000000000:=by omega
  clear hyield k1 h0 h1 h2 hbW0 hB0' g5 g6 hown0;have htr:∀n,Calls Tryz.prog 111 #[.slice (some ⟨w.heap.size+1,0,none⟩) (dg a).length (dg a).length] (W.drewN n) fun e w'=>e= .returned (.slice (some ⟨w.heap.size+1,0,none⟩) (qA5 out).length (dg a).length)∧W.drewN n=w':=fun n=>qDk L _ _ _ _ _ (hn.le (qDQ (Below.refl _ _) _));have⟨hLe',hDK',e1',e2',g2',g4',hn',htr'⟩:=hyd8 hLe hDK e1 e2 g2 g4 hn htr;clear htr hn g4 g2 e2 e1 hDK hLe;go_wp2;go_quiet ((go_at_call 111;exact qKK (htr'.out _)));go_wp2;refine qBJ w.heap.size [{target:= .collected D,args:=#[]}] _ ⟨⟨D,rfl,by omega,hDK'.out,by simp⟩,trivial⟩ fun w9 hb hkeep=>?_
  have hn9:NumL L .u32 w9 (.slice (some ⟨w.heap.size+1,0,none⟩) (qA5 out).length (dg a).length) (a / b):=by
   refine qBd ?_ g2'.out e1'.out;have h8:=(qIZ g4'.out hkeep);refine ArrL.trim (l:=out) ?_;rw[g1];exact ArrL.of_own h8 hL'.out
  refine⟨_,results_tmp2 rfl _ _ _,_,?_,(qDQ hLe'.out nq).trans hb,hn9⟩;rw[←e2'.out]
  rfl
 ·rintro D cc pre W _ _ h _;exact h.elim
end Go.Proofs.YtenjpccpldajoaaGreatDoor

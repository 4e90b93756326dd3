/- exact: numbers of 0 or more: byGroup. -/
import Derived.Test.YtfmfefibadpobaaGreatDoorPk09
namespace Go.Proofs.YtfmfefibadpobaaGreatDoor
set_option maxRecDepth 100000
set_option maxHeartbeats 2000000
open Go.RowKit Go.Shelf
set_option linter.unusedVariables false
set_option linter.unusedSimpArgs false
attribute [local go_sem] Oper.semAt_some
structure ByI (W0:World) (n₀ O R:Nat) (t t2:TypeId) (Bs:List Nat) (a b:Nat) (pre:List (Fin (dg a).length)) (W:World):Prop where
 kept:Kept n₀ Bs W0 W
 size:W0.heap.size<=W.heap.size
 ex:∃(out:List Nat) (rest:Nat),out.length=(dg a).length /\Low out/\rest<b/\W.ownsRow n₀ t 1 (.slice (some ⟨O,0,none⟩) (dg a).length (dg a).length) (dg a).length (out.map (gv .u32))∧
  W.heap[R]? =some (.cells #[.int .u64 rest] t2)/\(pre<+:List.finRange (dg a).length ->ByGroup (dg a) b ((dg a).length - pre.length) rest out)
theorem qCK {w w2:World} {base e size n O N c:Nat} {xs:List Value} {row:Option Nat} (h:w.ownsRow base e size (.slice (some ⟨O,0,none⟩) N c) n xs) (hg:w.grownBy w2 row) (hr:∀r,row=some r->r≠O):w2.ownsRow base e size (.slice (some ⟨O,0,none⟩) N c) n xs:=
 h.kept hg (.inr λhe=>by
  have:some O=row:=he
  exact hr O this.symm rfl)
theorem ByI.from (W0:World) (n₀ O R:Nat) (t t2:TypeId) (Bs:List Nat) (a b N0:Nat) (h:W0.heap.size<=N0) (hn:n₀<=W0.heap.size) (hO:O<N0) (hR:R<N0) (hBs:∀B∈Bs,B<W0.heap.size):OwnFrom N0 (ByI W0 n₀ O R t t2 Bs a b):=by
 rintro s X Y x ⟨l,v,g,f,m,n,o,p,i,q⟩ d c;refine⟨l.trans ⟨(Below.refl _ _).grown d (by omega) λk e=>by have:=(c k e).1;omega,λB j=>d.block B (by have:=hBs B j;omega) (λe=>by have:=(c _ e.symm).1;have:=hBs B j;omega)⟩,Nat.le_trans v d.size,g,f,m,n,o,?_,?_,q⟩
 ·exact qCK p d λr e=>by have:=(c r e).1;omega
 ·exact(d.block R (gsl i) (λe=>by have:=(c _ e.symm).1;omega)).trans i
theorem ByI.step {W0:World} {n₀ O R:Nat} {t t2:TypeId} {Bs:List Nat} {a b:Nat} {pre:List (Fin (dg a).length)} {x:Fin (dg a).length} {W:World} {out:List Nat} {rest:Nat} (n D q r:Nat)
  (k1:Kept n₀ Bs W0 W) (k2:W0.heap.size<=W.heap.size) (h1:out.length=(dg a).length) (h2:Low out) (h3:rest<b) (h4:W.ownsRow n₀ t 1 (.slice (some ⟨O,0,none⟩) (dg a).length (dg a).length) (dg a).length (out.map (gv .u32)))
  (h5:W.heap[R]? =some (.cells #[.int .u64 (rest:Int)] t2)) (h6:pre<+:List.finRange (dg a).length ->ByGroup (dg a) b ((dg a).length - pre.length) rest out)
  (m:Nat) (hm:(dg a).length - 1 - x.1=m) (hD:D=rest*B9+(dg a).getD m 0) (hq:q=D / b) (hr:r=D%b) (hO:n₀<=O) (hR:n₀<=R) (hOR:O≠R) (hBs:∀B∈Bs,B≠O/\B≠R) (Bs2:List Nat) (hsub:∀B∈Bs2,B∈Bs) (N0:Nat) (aa:Act):
  ownPostG N0 (Kept n₀ Bs2) (ByI W0 n₀ O R t t2 Bs a b) (λ_ _ _=>False) (pre++[x]) W .normal aa (((W.drewN n).setCell ⟨O,m,none⟩ (.int .u32 (q:Int))).setCell ⟨R,0,none⟩ (.int .u64 (r:Int))):=by
 have z:0<b:=by omega
 have F:=x.2;have d:m<(dg a).length :=by omega
 have c:(dg a).getD m 0=(dg a)[m]:=qAR d;obtain⟨l,o,E⟩:=qDE z h3 (qAS a m d);rw[<-c,<-hD,<-hq]at l;rw[<-c,<-hD,<-hr]at o
 have k:Kept n₀ Bs W (((W.drewN n).setCell ⟨O,m,none⟩ (.int .u32 (q:Int))).setCell ⟨R,0,none⟩ (.int .u64 (r:Int))):=
  ⟨((qB7 (Below.refl _ W) n).setCell (p:=⟨O,m,none⟩) hO _).setCell (p:=⟨R,0,none⟩) hR _,λB j=>(Below.heap_setCell _ _ _ _ (hBs B j).2).trans ((Below.heap_setCell _ _ _ _ (hBs B j).1).trans rfl)⟩
 refine⟨(((show KeepsOthers W (W.drewN n)from⟨Nat.le_refl _,λ_ _ h _=>h⟩).trans (KeepsOthers.setCell _ _ _)).trans (KeepsOthers.setCell _ _ _)).from _,⟨k.1,λB j=>k.2 B (hsub B j)⟩,?_⟩;refine⟨k1.trans k,by simpa[World.setCell]using k2,out.set m q,r,by simpa using h1,h2.set _ _ l,o,?_,?_,λA=>?_⟩
 ·have s:=qAv (f:=gv .u32) (show(W.drewN n).ownsRow n₀ t 1 (.slice (some ⟨O,0,none⟩) (dg a).length (dg a).length) (dg a).length (out.map (gv .u32))from h4) m q;refine⟨s.1,?_⟩
  rcases s.2 with h'| ⟨g,cap,cur,hv',hbg,hh,rr⟩
  ·exact Or.inl h'
  ·injection hv' with e1 e2 e3;injection e1 with e1;injection e1 with e1;refine Or.inr ⟨g,cap,cur,by rw[e1,e3],hbg,(Below.heap_setCell _ _ _ _ (by show g≠R;omega)).trans hh,rr⟩
 ·have y:((W.drewN n).setCell ⟨O,m,none⟩ (.int .u32 (q:Int))).heap[R]? =some (.cells #[.int .u64 (rest:Int)] t2):=(Below.heap_setCell _ _ _ _ (show R≠O by omega)).trans h5;exact qAX y
 ·obtain⟨C,G⟩:=qBp A;have v:=h6 C;rw[show(dg a).length - pre.length=m+1 by omega]at v;have i:=(v.next (qAO a) d D (by rw[hD,c])).1;rw[<-hq,<-hr]at i;rw[List.length_append,List.length_singleton,show(dg a).length - (pre.length+1)=m by omega];exact i
theorem qDz (L:Nat->Prop) (a b:Nat) (va:Value) (w:World) (hL:Up w L) (ha:NumL L .u32 w va a) (hb0:0<b) (hbB:b<1000000000) (hma:(dg a).length <=100000000):
  Calls Tryz.prog 71 #[va,.int .u32 b] w λe w'=>∃v',e= .returned (.tuple #[v',.int .u32 ((a%b:Nat):Int)])/\Le w w'/\NumL L .u32 w' v' (a / b):=by
 have ai:=ha.arr;obtain⟨Aa,ca,rfl,a1,a2,aN,a3⟩:=ha;unfold maxLen at a2;have hB:=qAD;have⟨aj,bj,bk,Z,ae⟩:=hyd5 ai a3 aN hB hL;clear hL hB aN a3 ai;refine(callsIn_wide (n:=5)).1 ?_;refine callsIn_of_wp_marks Tryz.func71 rfl trivial ?_ rfl;simp only[Tryz.ntmps71,List.size_toArray,List.length_cons,List.length_nil,Nat.reduceAdd,Nat.reduceSub,Array.replicate_succ,Array.replicate_zero,List.push_toArray,List.append_toArray,List.nil_append,List.cons_append];refine wpIn_wide.2 ?_;go_wp2_with (first | (at_make;go_must (refine qBR (f:=gv .u32) _ rfl _ _ 42 rfl w.heap.size 82 0 4 qAp rfl (by decide) (dg a).length (by go_num) (by go_num) (by omega) (by simp) _ rfl ?_);intro w1 r1 r2 r3)| (go_at_call 53;((with_reducible refine(qBq _ _ _ _).mono ?_);rintro e w' ⟨rfl,rfl⟩)));have ak:=(alc1 w (.cells #[.int .u32 (b:Int)] 82)).trans (r2.mono (by simp));have aQ:(w.alloc (.cells #[.int .u32 (b:Int)] 82)).heap.size =w.heap.size+1:=by simp
 have ab:w1.heap[w.heap.size]? =some (.cells #[.int .u32 (b:Int)] 82):=(r2.block _ (by omega)).trans (heap_alloc_new _ _);rw[aQ]at r3 r1;obtain⟨W0,ah,b5,P,h0,h1,h2⟩:=qCu w1 (.cells #[.slice (some ⟨w.heap.size+1,0,none⟩) (dg a).length (dg a).length] 42) (.cells #[.int .u64 0] 114) (.cells #[.slice Aa (dg a).length ca] 42);rw[ah];clear ah;have z:Below w.heap.size w W0:=ak.trans (P.mono (by omega));have s:=(P.block w.heap.size (by omega)).trans ab;have C:=qA0 r1 P;clear r1 r2 ab ak;generalize hM:w1.heap.size=M at*;have j:=qB4 (dg a) _ w W0 (M+1+1) w.heap.size aj.out (by omega) (by omega) (Nat.le_refl _) z (qAB h2);refine(wpIn_wide (n:=5)).1 ?_;refine wpIn_rangeFunc_ownG rfl (by omega) (gf:=78) (lb:=#[.pointer (some ⟨M+1+1,0,none⟩)]) rfl trivial (enters_of Tryz.func78 (by kernel_rfl) rfl)
  j Kept.trans (Kept.put (by omega) (by simp;omega)) (Below.refl _ _) (λ_=>rfl)
  (ByI W0 w.heap.size (w.heap.size+1) (M+1) 82 114 [w.heap.size,M,M+1+1] a b) (λ_ _ _=>False) (ByI.from _ _ _ _ _ _ _ _ _ _ (Nat.le_refl _) (by omega) (by omega) (by omega) (by simp;omega)) (λ_ _ _ _ _ hs _ _=>hs)
  ⟨Kept.refl _ _ _,Nat.le_refl _,_,0,List.length_replicate,qAm _,hb0,C,h1,λ_=>ByGroup.start _ _ hb0⟩ ?_ ?_ ?_ ?_ ?_
 rotate_left
 ·intro l x W K hK;dsimp only[qDN];gi_wp2;exact hK
 ·rintro l aT x W ⟨I,k2,v,t,V,X,g3,E,F,Y⟩ aJ;have hx:=x.2;obtain⟨m,hm⟩:∃m,(dg a).length - 1 - x.1=m:=⟨_,rfl⟩;have am:m<(dg a).length :=by omega
  have cb:=qAB ((I.2 w.heap.size (by simp)).trans s);have co:=qAB ((I.2 M (by simp)).trans h0);have cR:=qAB F;have fR:=fz0 F 0;obtain⟨g,hg⟩:∃g,(dg a)[m]?.getD 0=g:=⟨_,rfl⟩;have T:(dg a)[m]=g:=by rw[<-hg];simp[am]
  have bx:g<1000000000:=by rw[<-T,<-Z.out];exact qAS _ _ _
  obtain⟨y,hy⟩:∃y,v[m]? =some y:=⟨_,List.getElem?_eq_getElem (by omega)⟩;have al:=qA8 E V hy;unfold gv at al;have aI:=E.frozenAt m;obtain⟨D,hD⟩:∃D,t*1000000000+g=D:=⟨_,rfl⟩;have bs:(t:Int)*1000000000+(g:Int)=(D:Int):=by omega
  have aG:D<b*1000000000:=by omega
  obtain⟨q,hq⟩:∃q,D / b=q:=⟨_,rfl⟩;obtain⟨r,hr⟩:∃r,D%b=r:=⟨_,rfl⟩;have aM:(D:Int) / (b:Int)=(q:Int):=by rw[<-hq];simp
  have aP:(D:Int)%(b:Int)=(r:Int):=by rw[<-hr];simp
  have bf:(D:Int).tdiv (b:Int)=(q:Int):=by rw[Int.tdiv_eq_ediv_of_nonneg (by omega)];exact aM
  have bg:(D:Int).tmod (b:Int)=(r:Int):=by rw[Int.tmod_eq_emod_of_nonneg (by omega)];exact aP
  have b2:q<1000000000:=by rw[<-hq];exact(Nat.div_lt_iff_lt_mul hb0).2 (by rw[Nat.mul_comm];exact aG)
  have aO:r<b:=by rw[<-hr];exact Nat.mod_lt _ hb0
  have bv:((b:Int)==0)=false:=by simp;omega
  have bd:¬(b:Int)=0:=by omega
  have bt:¬(w.heap.size+1=M+1):=by omega
  have bc:¬(M+1=w.heap.size+1):=by omega
  have H:=λn aa=>ByI.step (N0:=W0.heap.size) (x:=x) n D q r I k2 V X g3 E F Y m hm (by rw[Z.out,<-hD,qAR am,T]) hq.symm hr.symm (by omega) (by omega) (by omega) (by simp;omega) [M+1+1] (by simp) aa;rw[hm,hg];clear j I k2 V X g3 E Y h0 h1 h2 T;have⟨bw,br,b1,b3,S,b6,bp,aF⟩:=hyd8 hg hD hq hr H hy F s;have bz:=hyd1 hm;clear hm s F hy H hr hq hD hg;gi_wp2;refine qDc (R:=setRel ⟨w.heap.size+1,m,none⟩ (.int .u32 (q:Int))) 13 [some 23,some 24,some 25,some 26,some 27,some 28,some 29,some 30,some 31,some 32,some 33,some 34,none,none] [[],[],[],[],[3],[2,4],[5],[],[],[8],[7,9],[0,1],[6,11],[10]]
   [.eq (.slice (some ⟨w.heap.size+1,0,none⟩) (dg a).length (dg a).length),.eq (.int .i64 (m:Nat)),.eq (.int .u64 (D:Nat)),.eq (.int .u32 (b:Nat)),.eq (.int .u64 (b:Nat)),.eq (.int .u64 (q:Nat)),.eq (.int .u32 (q:Nat)),.eq (.int .u64 (D:Nat)),.eq (.int .u32 (b:Nat)),.eq (.int .u64 (b:Nat)),.eq (.int .u64 (r:Nat)),.eq (.pointer (some ⟨w.heap.size+1,m,none⟩)),.stored _ _ W] (λ_ _=>False) (by kernel_rfl) (by kernel_rfl) (by kernel_rfl) (by kernel_rfl) (by kernel_rfl) ?_ (λ_ _ _ _ _ h=>h.elim) ?_
  ·simp only[List.take_succ_cons,List.take_zero];refine mSc ?_ (mSc ?_ (mSc ?_ (mSc ?_ (mSc ?_ (mSc ?_ (mSc ?_ (mSc ?_ (mSc ?_ (mSc ?_ (mSc ?_ (mSc ?_ (mSc ?_ qB1))))))))))))
   ·refine mSl rfl λx p d c Q hK _=>?_;have bo:=(setRel.other d (B:=M) (i:=0) (by show M≠w.heap.size+1;omega)).trans co;simp only[fA]at hK ⊢;go_wp2;exact hK _ _ (WRel.refl _ _) rfl
   ·refine mSl rfl λx p d c Q hK _=>?_;simp only[fA]at hK ⊢;go_wp2;exact hK _ _ (WRel.refl _ _) rfl
   ·refine mSl rfl λx p d c Q hK _=>?_;simp only[fA]at hK ⊢;go_wp2;exact hK _ _ (WRel.refl _ _) rfl
   ·refine mSl rfl λx p d c Q hK _=>?_;have ax:=(setRel.other d (B:=w.heap.size) (i:=0) (by show w.heap.size≠w.heap.size+1;omega)).trans cb;simp only[fA]at hK ⊢;go_wp2;exact hK _ _ (WRel.refl _ _) rfl
   ·refine mSl rfl λx p d c Q hK _=>?_;obtain⟨k,-⟩:=c;change _=_ at k;simp only[fA]at hK ⊢;go_wp2;exact hK _ _ (WRel.refl _ _) rfl
   ·refine mSl rfl λx p d c Q hK _=>?_;obtain⟨k,o,-⟩:=c;change _=_ at k o;simp only[fA]at hK ⊢;go_wp2;exact hK _ _ (WRel.refl _ _) rfl
   ·refine mSl rfl λx p d c Q hK _=>?_;obtain⟨k,-⟩:=c;change _=_ at k;simp only[fA]at hK ⊢;go_wp2;exact hK _ _ (WRel.refl _ _) rfl
   ·refine mSl rfl λx p d c Q hK _=>?_;simp only[fA]at hK ⊢;go_wp2;exact hK _ _ (WRel.refl _ _) rfl
   ·refine mSl rfl λx p d c Q hK _=>?_;have ax:=(setRel.other d (B:=w.heap.size) (i:=0) (by show w.heap.size≠w.heap.size+1;omega)).trans cb;simp only[fA]at hK ⊢;go_wp2;exact hK _ _ (WRel.refl _ _) rfl
   ·refine mSl rfl λx p d c Q hK _=>?_;obtain⟨k,-⟩:=c;change _=_ at k;simp only[fA]at hK ⊢;go_wp2;exact hK _ _ (WRel.refl _ _) rfl
   ·refine mSl rfl λx p d c Q hK _=>?_;obtain⟨k,o,-⟩:=c;change _=_ at k o;simp only[fA]at hK ⊢;go_wp2;exact hK _ _ (WRel.refl _ _) rfl
   ·refine mSl rfl λx p d c Q hK _=>?_;obtain⟨k,o,-⟩:=c;change _=_ at k o;simp only[fA]at hK ⊢;go_wp2;exact hK _ _ (WRel.refl _ _) rfl
   ·refine mSl rfl λx p d c Q hK _=>?_;obtain⟨k,o,-⟩:=c;change _=_ at k o;have G:∃u,p.cell? ⟨w.heap.size+1,m,none⟩=some u:=setRel.self d al;obtain⟨u2,G⟩:=G;have be:=setRel.selfFrozen d aI;simp only[fA]at hK ⊢;go_wp2;exact hK undef _ (setRel.put _ _ _) (setRel.stored d (x:=undef))
  ·intro x p d c Q' aH _;simp only[List.drop_succ_cons,List.drop_zero];have k:=c 0 (by decide);have o:=c 1 (by decide);have O:=c 2 (by decide);have e3:=c 3 (by decide);have e4:=c 4 (by decide);have e5:=c 5 (by decide);have e6:=c 6 (by decide);have e7:=c 7 (by decide);have e8:=c 8 (by decide);have e9:=c 9 (by decide);have J:=c 10 (by decide);have N:=c 11 (by decide);obtain⟨nq,rfl⟩:=c 12 (by decide);change _=_ at k o O e3 e4 e5 e6 e7 e8 e9 J N;rw[show List.range 13=[0,1,2,3,4,5,6,7,8,9,10,11,12]from rfl];simp only[fA,k,o,O,e3,e4,e5,e6,e7,e8,e9,J,N];clear k o O e3 e4 e5 e6 e7 e8 e9 J N c d;go_wp2;refine aH _ _ ?_;gi_wp2;exact S.out nq _
 ·rintro D ys W hD rfl ⟨I,k2,v,t,V,X,g3,E,F,Y⟩ ac;have co:=qAB ((I.2 M (by simp)).trans h0);have cR:=qAB F;have A:=Y (qBe _);rw[List.length_finRange,Nat.sub_self]at A;obtain⟨o,O⟩:=A.done;rw[qAT]at o O;have hn:ArrL L (gv .u32) W (.slice (some ⟨w.heap.size+1,0,none⟩) (dg a).length (dg a).length) v:=ArrL.of_own E ae.out;have af:Below w.heap.size w W:=z.trans I.1;have aO:t<1000000000:=by omega
  clear j I h0 h1 h2 z s F Y C;have ao:∀n,Calls Tryz.prog 45 #[.slice (some ⟨w.heap.size+1,0,none⟩) (dg a).length (dg a).length] (W.drewN n) λe w'=>e= .returned (.slice (some ⟨w.heap.size+1,0,none⟩) (qAG v).length (dg a).length)/\W.drewN n=w':=λn=>qBo L _ _ _ _ _ (hn.le (qB7 (Below.refl _ _) _));have⟨ag,ad,ay,az,aA,aC,b0,ap⟩:=hyd8 af ac o O X E hn ao;clear ao hn E X O o ac af;go_wp2;go_quiet ((go_at_call 45;exact qC4 (ap.out _)));go_wp2;refine qBC w.heap.size [{target:= .collected D,args:=#[]}] _ ⟨⟨D,rfl,by omega,ad.out,by simp⟩,trivial⟩ λw9 hb U=>?_
  have aL:NumL L .u32 w9 (.slice (some ⟨w.heap.size+1,0,none⟩) (qAG v).length (dg a).length) (a / b):=by
   refine qAd ?_ aA.out ay.out;have h8:=(qEh aC.out U);refine ArrL.trim (l:=v) ?_;rw[V];exact ArrL.of_own h8 ae.out
  refine⟨_,results_tmp2 rfl _ _ _,_,?_,(qB7 ag.out nq).trans hb,aL⟩;rw[<-az.out]
  rfl
 ·rintro D cc aT W _ _ h _;exact h.elim
end Go.Proofs.YtfmfefibadpobaaGreatDoor

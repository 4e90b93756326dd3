/- exact: fractions: reduced, sign. exact: fractions: times, over. -/
import Derived.Test.YtcoajjdhkhgfdaaPk09
namespace Go.Proofs.Ytcoajjdhkhgfdaa
set_option maxRecDepth 100000
set_option maxHeartbeats 2000000
open Go.RowKit Go.Shelf
set_option linter.unusedVariables false
set_option linter.unusedSimpArgs false
theorem NumL.box3 {L:Nat->Prop} {k:IntKind} {W:World} {v u0 u1 u2:Value} {b0:Bool} {A1 A2:Option Addr} {n1 c1 n2 c2 n B:Nat} {t:TypeId} (h:NumL L k W v n) (hk:W.heap[B]? =some (Obj.cells #[.bool b0,.slice A1 n1 c1,.slice A2 n2 c2] t)):
  NumL L k (((W.setCell ⟨B,0,none⟩ u0).setCell ⟨B,1,none⟩ u1).setCell ⟨B,2,none⟩ u2) v n:=by
 obtain⟨A,c,z,o,p,r,q⟩:=h;refine⟨A,c,z,o,p,r,λl=>?_⟩;obtain⟨b,f,s,x,i,m⟩:=q l
 have g:b≠B:=by
  rintro rfl;have d:=m 0 l;rw[cell_of_row W b (f+0) _ t (0,0) hk]at d;unfold gv at d;rw[Nat.add_zero]at d
  match f,d with
  | 0,d=>simp at d
  | 1,d=>simp at d
  | 2,d=>simp at d
  | f+3,d=>simp at d
 refine⟨b,f,s,x,by simpa[World.setCell]using i,λj y=>(World.cell?_of_block ?_).trans (m j y)⟩;exact(Below.heap_setCell _ _ _ _ g).trans ((Below.heap_setCell _ _ _ _ g).trans (Below.heap_setCell _ _ _ _ g))
theorem qAR {W:World} {X:Nat} {v0 v1 v2 u0 u1 u2:Value} {t:TypeId} (h:W.heap[X]? =some (Obj.cells #[v0,v1,v2] t)):(((W.setCell ⟨X,0,none⟩ u0).setCell ⟨X,1,none⟩ u1).setCell ⟨X,2,none⟩ u2).heap[X]? =some (Obj.cells #[u0,u1,u2] t):=by
 simp only[World.setCell,Array.getElem?_modify,h];simp
theorem qAB {W:World} {X:Nat} {v0 v1 v2:Value} {t:TypeId} (h:W.heap[X]? =some (Obj.cells #[v0,v1,v2] t)):W.cell? ⟨X,0,none⟩=some v0/\W.cell? ⟨X,1,none⟩=some v1/\W.cell? ⟨X,2,none⟩=some v2/\W.frozen? ⟨X,0,none⟩=false/\W.frozen? ⟨X,1,none⟩=false/\W.frozen? ⟨X,2,none⟩=false:=
 ⟨cell_of_row W X 0 _ _ _ h,cell_of_row W X 1 _ _ _ h,cell_of_row W X 2 _ _ _ h,by simp[World.frozen?,h],by simp[World.frozen?,h],by simp[World.frozen?,h]⟩
theorem qAb {w W:World} {X:Nat} {u0 u1 u2:Value} (h:Le w W) (hX:w.heap.size<=X):Le w (((W.setCell ⟨X,0,none⟩ u0).setCell ⟨X,1,none⟩ u1).setCell ⟨X,2,none⟩ u2):=
 ((Below.setCell h (p:=⟨X,0,none⟩) hX _).setCell (p:=⟨X,1,none⟩) hX _).setCell (p:=⟨X,2,none⟩) hX _
theorem qF1 {L:Nat->Prop} {neg:Bool} {n d:Nat} {w W:World} {B:Nat} {t:TypeId} {An Ad:Option Addr} {cn cd ln ld:Nat} (hd:d≠0) (hle:Le w W) (hB:w.heap.size<=B)
  (hbx:W.heap[B]? =some (Obj.cells #[.bool false,.slice none 0 0,.slice none 0 0] t)) (hn:NumL L .u32 W (.slice An ln cn) (n / Nat.gcd n d)) (hdn:NumL L .u32 W (.slice Ad ld cd) (d / Nat.gcd n d)):
  RatL L .u32 (((W.setCell ⟨B,0,none⟩ (.bool (neg&&decide (0<n)))).setCell ⟨B,1,none⟩ (.slice An ln cn)).setCell ⟨B,2,none⟩ (.slice Ad ld cd)) (.agg #[.bool (neg&&decide (0<n)),.slice An ln cn,.slice Ad ld cd]) (mkR neg n d):=by
 refine⟨_,_,by rw[qGe _ _ _ hd],?_,?_⟩
 ·rw[qEE _ _ _ hd];exact hn.box3 hbx
 ·rw[qFQ _ _ _ hd];exact hdn.box3 hbx
theorem qCR (L:Nat->Prop) (neg:Bool) (n d:Nat) (vn vd:Value) (w:World) (hL:Up w L) (hn:NumL L .u32 w vn n) (hd:NumL L .u32 w vd d) (hd0:d≠0) (hmn:(dg n).length <=10000000) (hmd:(dg d).length <=10000000):
  Calls Try.prog 73 #[.bool neg,vn,vd] w λe w'=>∃v',e= .returned v'/\Le w w'/\RatL L .u32 w' v' (mkR neg n d):=by
 have au:=hn;have E:=hd;obtain⟨An,cn,rfl⟩:=hn.slice;obtain⟨Ad,cd,rfl⟩:=hd.slice;have⟨ar,al,a5,F,aj⟩:=hyd5 hn hd au E hL;clear hL E au hd hn;go_enter Try.func73,Try.ntmps73;go_wp2_with (fail);go_at_call 48;refine(qDL L n d _ _ _ (aj.out.le (qAA _ _)) (ar.out.le (qAA _ _)) (al.out.le (qAA _ _)) hmn hmd).mono ?_;rintro e w1 ⟨vg,rfl,U,hg⟩;obtain⟨o,ak⟩:=qCJ U;obtain⟨G,x⟩:∃G,Nat.gcd n d=G:=⟨_,rfl⟩;have aH:0<G:=by rw[<-x];exact Nat.gcd_pos_of_pos_right _ (Nat.pos_of_ne_zero hd0)
 have ai:(dg G).length <=10000000:=by
  rw[<-x];have:=qIl n d (.inr hd0);omega
 have aw:n / G=0↔n=0:=by
  rw[<-x];constructor
  ·intro h;refine Nat.eq_zero_of_not_pos λhp=>?_;have h1:=Nat.div_pos (Nat.le_of_dvd hp (Nat.gcd_dvd_left n d)) (Nat.gcd_pos_of_pos_left d hp);omega
  ·intro h;rw[h,Nat.zero_div]
 rw[x]at hg;obtain⟨Ag,cg,rfl⟩:=hg.slice;have av:=ar.out.le o;have E:=al.out.le o;have I:=aj.out.le o;have⟨a4,r,k,R,N,F,B,O⟩:=hyd8 U o ak hg av E I aw;clear aw I E av hg ak o U;go_wp2_with (fail);go_at_call 49;refine(qHm L G _ w1 R.out).mono ?_;rintro e w2 ⟨rfl,rfl⟩
 by_cases j:G=1
 ·have ao:decide (G=1)=true:=by simpa using j
  obtain⟨c0,P,c2,f0,f1,f2⟩:=qAB k.out;have m:=qF1 (neg:=neg) hd0 r.out (Nat.le_refl _) k.out (by rw[x,j,Nat.div_one];exact N.out) (by rw[x,j,Nat.div_one];exact F.out);have q:=λu0 u1 u2=>qAb (u0:=u0) (u1:=u1) (u2:=u2) r.out (Nat.le_refl _);have C:=λu0 u1 u2=>qAB (qAR (u0:=u0) (u1:=u1) (u2:=u2) k.out);have⟨b,f,ay,ah,g⟩:=hyd5 m q x j C;clear C j x q m
  cases neg with
  | false=>
   go_wp2;obtain⟨y,z,A,-⟩:=g.out (.bool false) (.slice An (dg n).length cn) (.slice Ad (dg d).length cd);exact bodyPost_ret (v:= .agg #[.bool false,.slice An (dg n).length cn,.slice Ad (dg d).length cd]) (by simp[results,Try.results73,go_sem,y,z,A]) rfl ⟨_,rfl,f.out _ _ _,b.out⟩
  | true=>
   by_cases s:n=0
   ·have S:¬(0<((dg n).length :Int)):=by rw[s,qA1];simp
    have T:¬(0<(dg n).length):=by omega
    have c:=b.out;rw[show(true&&decide (0<n))=false by simp[s]]at c;clear b;have b:=hyd1 c;clear c;have Z:=hyd1 s;clear s;go_wp2;obtain⟨y,z,A,-⟩:=g.out (.bool false) (.slice An (dg n).length cn) (.slice Ad (dg d).length cd);exact bodyPost_ret (v:= .agg #[.bool false,.slice An (dg n).length cn,.slice Ad (dg d).length cd]) (by simp[results,Try.results73,go_sem,y,z,A]) rfl ⟨_,rfl,f.out _ _ _,b.out⟩
   ·have T:0<(dg n).length :=dg_length_pos.2 (s);have S:0<((dg n).length :Int):=by omega
    have c:=b.out;rw[show(true&&decide (0<n))=true by simp;omega]at c;clear b;have b:=hyd1 c;clear c;have Z:=hyd1 s;clear s;go_wp2;obtain⟨y,z,A,-⟩:=g.out (.bool true) (.slice An (dg n).length cn) (.slice Ad (dg d).length cd);exact bodyPost_ret (v:= .agg #[.bool true,.slice An (dg n).length cn,.slice Ad (dg d).length cd]) (by simp[results,Try.results73,go_sem,y,z,A]) rfl ⟨_,rfl,f.out _ _ _,b.out⟩
 ·have ao:decide (G=1)=false:=by simpa using j
  go_wp2_with (fail);go_at_call 63;refine(qD6 L n G _ _ w1 B.out N.out R.out hmn ai (by omega)).mono ?_;rintro e w2 ⟨v1,v2,rfl,i,hq,hr⟩;obtain⟨A1,P,rfl⟩:=hq.slice;obtain⟨A2,c2,rfl⟩:=hr.slice;have M:=(Below.block i _ (gsl k.out)).trans k.out;have am:=F.out.le i;have ap:=R.out.le i;have J:=B.out.le i;have⟨V,a2,aI,D,an,aq,Q⟩:=hyd7 i hq hr M am ap J;clear J ap am M hr hq i;go_wp2_with (fail);go_at_call 63;refine(qD6 L d G _ _ w2 Q.out an.out aq.out hmd ai (by omega)).mono ?_;rintro e w3 ⟨v1,v2,rfl,p,H,Y⟩;obtain⟨A3,c3,rfl⟩:=H.slice;obtain⟨A4,c4,rfl⟩:=Y.slice;have l:=(Below.block p _ (gsl D.out)).trans D.out;have X:=a2.out.le p;have t:=Le.trans (Le.trans r.out V.out) p;obtain⟨c0,e1,e2,f0,f1,f2⟩:=qAB l;have m:=qF1 (neg:=neg) hd0 t (Nat.le_refl _) l (by rw[x];exact X) (by rw[x];exact H);have q:=λu0 u1 u2=>qAb (u0:=u0) (u1:=u1) (u2:=u2) t (Nat.le_refl _);have C:=λu0 u1 u2=>qAB (qAR (u0:=u0) (u1:=u1) (u2:=u2) l);have⟨b,f,ay,ah,g,az,a7,a1⟩:=hyd8 m q x j C l X t;have⟨a0,a8,a9⟩:=hyd3 p H Y;clear Y H p t X l C j x q m
  cases neg with
  | false=>
   go_wp2;obtain⟨y,z,A,-⟩:=g.out (.bool false) (.slice A1 (dg (n / G)).length P) (.slice A3 (dg (d / G)).length c3);exact bodyPost_ret (v:= .agg #[.bool false,.slice A1 (dg (n / G)).length P,.slice A3 (dg (d / G)).length c3]) (by simp[results,Try.results73,go_sem,y,z,A]) rfl ⟨_,rfl,f.out _ _ _,b.out⟩
  | true=>
   by_cases s:n=0
   ·have S:¬(0<((dg (n / G)).length :Int)):=by rw[O.out.2 s,qA1];simp
    have T:¬(0<(dg (n / G)).length):=by omega
    have c:=b.out;rw[show(true&&decide (0<n))=false by simp[s]]at c;clear b;have b:=hyd1 c;clear c;have Z:=hyd1 s;clear s;go_wp2;obtain⟨y,z,A,-⟩:=g.out (.bool false) (.slice A1 (dg (n / G)).length P) (.slice A3 (dg (d / G)).length c3);exact bodyPost_ret (v:= .agg #[.bool false,.slice A1 (dg (n / G)).length P,.slice A3 (dg (d / G)).length c3]) (by simp[results,Try.results73,go_sem,y,z,A]) rfl ⟨_,rfl,f.out _ _ _,b.out⟩
   ·have T:0<(dg (n / G)).length :=dg_length_pos.2 (λh=>s (O.out.1 h));have S:0<((dg (n / G)).length :Int):=by omega
    have c:=b.out;rw[show(true&&decide (0<n))=true by simp;omega]at c;clear b;have b:=hyd1 c;clear c;have Z:=hyd1 s;clear s;go_wp2;obtain⟨y,z,A,-⟩:=g.out (.bool true) (.slice A1 (dg (n / G)).length P) (.slice A3 (dg (d / G)).length c3);exact bodyPost_ret (v:= .agg #[.bool true,.slice A1 (dg (n / G)).length P,.slice A3 (dg (d / G)).length c3]) (by simp[results,Try.results73,go_sem,y,z,A]) rfl ⟨_,rfl,f.out _ _ _,b.out⟩
theorem qCa (w:World) (o0 o1 o2:Obj):∃W0,((w.alloc o0).alloc o1).alloc o2=W0/\W0.heap.size=w.heap.size+3/\Le w W0∧
  W0.heap[w.heap.size]? =some o0/\W0.heap[w.heap.size+1]? =some o1/\W0.heap[w.heap.size+1+1]? =some o2:=qEY w o0 o1 o2
theorem RatL.form {L:Nat->Prop} {k:IntKind} {w:World} {v:Value} {r:Rat} (h:RatL L k w v r):∃A1 c1 A2 c2,v= .agg #[.bool (rneg r),.slice A1 (dg (rnum r)).length c1,.slice A2 (dg r.den).length c2]/\NumL L k w (.slice A1 (dg (rnum r)).length c1) (rnum r)/\NumL L k w (.slice A2 (dg r.den).length c2) r.den:=by
 obtain⟨f,d,rfl,b,c⟩:=h;obtain⟨A1,c1,rfl⟩:=b.slice;obtain⟨A2,c2,rfl⟩:=c.slice;exact⟨A1,c1,A2,c2,rfl,b,c⟩
def Rsz (r:Rat) (n:Nat):Prop:=(dg (rnum r)).length <=n/\(dg r.den).length <=n
theorem qKE (L:Nat->Prop) (a b:Rat) (va vb:Value) (w:World) (hL:Up w L) (ha:RatL L .u32 w va a) (hb:RatL L .u32 w vb b) (hma:Rsz a 5000000) (hmb:Rsz b 5000000):
  Calls Try.prog 69 #[va,vb] w λe w'=>∃v',e= .returned v'/\Le w w'/\RatL L .u32 w' v' (a*b):=by
 obtain⟨An,cn,Ad,cd,rfl,T,P⟩:=ha.form;obtain⟨Bn,dn,Bd,dd,rfl,aa,Y⟩:=hb.form;obtain⟨aW,aX⟩:=hma;obtain⟨aY,aZ⟩:=hmb;have ae:=qAK (rnum a) (rnum b);have ag:=qAK (a.den) (b.den);have ac:(a.den)*(b.den)≠0:=Nat.ne_of_gt (Nat.mul_pos (qA3 a) (qA3 b));obtain⟨J,G⟩:∃J,rneg a=J:=⟨_,rfl⟩;obtain⟨M,H⟩:∃M,rneg b=M:=⟨_,rfl⟩;have q:=qGf a b;rw[G,H]at*;have⟨a5,aT,aU,U,S,ab,Z,aJ⟩:=hyd8 hL ha hb T P aa Y G;have⟨aK,af,ah,ad,D⟩:=hyd5 H ae ag ac q;clear q ac ag ae H G Y aa P T hb ha hL;go_enter Try.func69,Try.ntmps69;go_wp2;obtain⟨W0,O,aV,E,h0,h1,h2⟩:=qCa w (.cells #[.bool J,.slice An (dg (rnum a)).length cn,.slice Ad (dg a.den).length cd] 57) (.cells #[.bool M,.slice Bn (dg (rnum b)).length dn,.slice Bd (dg b.den).length dd] 57) (.cells #[.bool false,.slice none 0 0,.slice none 0 0] 57);rw[O];clear O;obtain⟨ao,ap,aq,-⟩:=qAB h0;obtain⟨ar,au,av,-⟩:=qAB h1;have o:=a5.out.le E;have⟨aQ,aR,a4,g,j⟩:=hyd5 h0 h1 h2 E o;clear o E h2 h1 h0;refine qAU (R:=leRel) 16 [some 5,some 6,some 7,some 8,some 9,some 10,some 11,some 12,some 13,some 14,some 15,some 16,some 17,some 18,some 19,some 20,none] [[],[0],[],[2],[1,3],[],[5],[],[7],[6,8],[],[10],[],[12],[11,13],[4,9,14],[15]]
  [.eq (.pointer (some ⟨w.heap.size,0,none⟩)),.eq (.bool J),.eq (.pointer (some ⟨w.heap.size+1,0,none⟩)),.eq (.bool M),.eq (.bool (J != M)),.eq (.pointer (some ⟨w.heap.size,1,none⟩)),.eq (.slice An (dg (rnum a)).length cn),.eq (.pointer (some ⟨w.heap.size+1,1,none⟩)),.eq (.slice Bn (dg (rnum b)).length dn),MPred.num L .u32 (rnum a*rnum b),
   .eq (.pointer (some ⟨w.heap.size,2,none⟩)),.eq (.slice Ad (dg a.den).length cd),.eq (.pointer (some ⟨w.heap.size+1,2,none⟩)),.eq (.slice Bd (dg b.den).length dd),MPred.num L .u32 (a.den*b.den),MPred.rat L .u32 (a*b)] (λ_ _=>False) (by kernel_rfl) (by kernel_rfl) (by kernel_rfl) (by kernel_rfl) ?_ (λ_ _ _ _ _ h=>h.elim) ?_
 ·simp only[List.take_succ_cons,List.take_zero];refine mSc ?_ (mSc ?_ (mSc ?_ (mSc ?_ (mSc ?_ (mSc ?_ (mSc ?_ (mSc ?_ (mSc ?_ (mSc ?_ (mSc ?_ (mSc ?_ (mSc ?_ (mSc ?_ (mSc ?_ (mSc ?_ (qAZ))))))))))))))))
  ·refine mSl rfl λx W f c Q hK _=>?_;simp only[fA]at hK ⊢;go_wp2;exact hK _ _ lrR rfl
  ·refine mSl rfl λx W f c Q hK _=>?_;obtain⟨d,-⟩:=c;change _=_ at d;have N:=bcl f (by omega) ao;simp only[fA,d]at hK ⊢;go_wp2;exact hK _ _ lrR rfl
  ·refine mSl rfl λx W f c Q hK _=>?_;simp only[fA]at hK ⊢;go_wp2;exact hK _ _ lrR rfl
  ·refine mSl rfl λx W f c Q hK _=>?_;obtain⟨d,-⟩:=c;change _=_ at d;have N:=bcl f (by omega) ar;simp only[fA,d]at hK ⊢;go_wp2;exact hK _ _ lrR rfl
  ·refine mSl rfl λx W f c Q hK _=>?_;obtain⟨d,i,-⟩:=c;change _=_ at d i;simp only[fA,d,i]at hK ⊢;go_wp2;exact hK _ _ lrR rfl
  ·refine mSl rfl λx W f c Q hK _=>?_;simp only[fA]at hK ⊢;go_wp2;exact hK _ _ lrR rfl
  ·refine mSl rfl λx W f c Q hK _=>?_;obtain⟨d,-⟩:=c;change _=_ at d;have N:=bcl f (by omega) ap;simp only[fA,d]at hK ⊢;go_wp2;exact hK _ _ lrR rfl
  ·refine mSl rfl λx W f c Q hK _=>?_;simp only[fA]at hK ⊢;go_wp2;exact hK _ _ lrR rfl
  ·refine mSl rfl λx W f c Q hK _=>?_;obtain⟨d,-⟩:=c;change _=_ at d;have N:=bcl f (by omega) au;simp only[fA,d]at hK ⊢;go_wp2;exact hK _ _ lrR rfl
  ·refine mSl rfl λx W f c Q hK _=>?_;obtain⟨d,i,-⟩:=c;change _=_ at d i;simp only[fA,d,i]at hK ⊢;go_wp2_with (fail);go_at_call 64;refine(qBO L (rnum a) (rnum b) _ _ W (j.out.le f) ((U.out.le g.out).le f) ((ab.out.le g.out).le f) (by omega) (by omega)).mono ?_;rintro e w' ⟨v',rfl,n,l⟩;obtain⟨A9,c9,rfl⟩:=l.slice;go_wp2;exact hK _ _ n l
  ·refine mSl rfl λx W f c Q hK _=>?_;simp only[fA]at hK ⊢;go_wp2;exact hK _ _ lrR rfl
  ·refine mSl rfl λx W f c Q hK _=>?_;obtain⟨d,-⟩:=c;change _=_ at d;have N:=bcl f (by omega) aq;simp only[fA,d]at hK ⊢;go_wp2;exact hK _ _ lrR rfl
  ·refine mSl rfl λx W f c Q hK _=>?_;simp only[fA]at hK ⊢;go_wp2;exact hK _ _ lrR rfl
  ·refine mSl rfl λx W f c Q hK _=>?_;obtain⟨d,-⟩:=c;change _=_ at d;have N:=bcl f (by omega) av;simp only[fA,d]at hK ⊢;go_wp2;exact hK _ _ lrR rfl
  ·refine mSl rfl λx W f c Q hK _=>?_;obtain⟨d,i,-⟩:=c;change _=_ at d i;simp only[fA,d,i]at hK ⊢;go_wp2_with (fail);go_at_call 64;refine(qBO L (a.den) (b.den) _ _ W (j.out.le f) ((S.out.le g.out).le f) ((Z.out.le g.out).le f) (by omega) (by omega)).mono ?_;rintro e w' ⟨v',rfl,n,l⟩;obtain⟨A9,c9,rfl⟩:=l.slice;go_wp2;exact hK _ _ n l
  ·refine mSl rfl λx W f c Q hK _=>?_;obtain⟨d,i,C,-⟩:=c;change _=_ at d;replace i:NumL L .u32 W (x 9) (rnum a*rnum b):=i;replace C:NumL L .u32 W (x 14) (a.den*b.den):=C;simp only[fA,d]at hK ⊢;go_wp2_with (fail);go_at_call 73;refine(qCR L (J != M) (rnum a*rnum b) (a.den*b.den) _ _ W (j.out.le f) i C ad.out (by have:=af.out;omega) (by have:=ah.out;omega)).mono ?_;rintro e w' ⟨v',rfl,n,l⟩;rw[D.out]at l;obtain⟨A1,c1,A2,c2,rfl,-,-⟩:=l.form;go_wp2;exact hK _ _ n l
 ·intro x W f c Q' a6 _;have d:=c 0 (by decide);have i:=c 1 (by decide);have C:=c 2 (by decide);have e3:=c 3 (by decide);have e4:=c 4 (by decide);have e5:=c 5 (by decide);have e6:=c 6 (by decide);have e7:=c 7 (by decide);have e8:=c 8 (by decide);have s:=c 10 (by decide);have t:=c 11 (by decide);have y:=c 12 (by decide);have z:=c 13 (by decide);have A:RatL L .u32 W (x 15) (a*b):=c 15 (by decide);change _=_ at d i C e3 e4 e5 e6 e7 e8 s t y z;obtain⟨A1,c1,A2,c2,B,n,l⟩:=A.form;have k:=(Below.block f (w.heap.size+1+1) (by omega)).trans a4.out;obtain⟨z0,z1,z2,g0,g1,g2⟩:=qAB k;simp only[List.drop_succ_cons,List.drop_zero];rw[show List.range 16=[0,1,2,3,4,5,6,7,8,9,10,11,12,13,14,15]from rfl];simp only[fA,d,i,C,e3,e4,e5,e6,e7,e8,s,t,y,z,B];generalize x 9=x9;generalize x 14=x14;clear d i C e3 e4 e5 e6 e7 e8 s t y z c;have r:=λu0 u1 u2=>qAb (u0:=u0) (u1:=u1) (u2:=u2) (Le.trans g.out f) (show w.heap.size<=w.heap.size+1+1 by omega);have V:=λu0 u1 u2=>qAB (qAR (u0:=u0) (u1:=u1) (u2:=u2) k);have p:=λu0 u1 u2=>And.intro (NumL.box3 (u0:=u0) (u1:=u1) (u2:=u2) n k) (NumL.box3 (u0:=u0) (u1:=u1) (u2:=u2) l k);obtain⟨sr,I⟩:∃sr,rneg (a*b)=sr:=⟨_,rfl⟩;rw[I];have⟨F,X,m,aI,ba,bb,aG,aF⟩:=hyd8 r V p k n l B A
  have⟨aS,ai⟩:=hyd2 f I;clear I f A B l n k p V r;go_wp2;refine a6 _ _ ?_;go_wp2;obtain⟨d0,d1,d2,-⟩:=X.out (.bool sr) (.slice A1 (dg (rnum (a*b))).length c1) (.slice A2 (dg (a*b).den).length c2);refine bodyPost_ret (v:= .agg #[.bool sr,.slice A1 (dg (rnum (a*b))).length c1,.slice A2 (dg (a*b).den).length c2]) (by simp[results,Try.results69,go_sem,d0,d1,d2]) rfl ⟨_,rfl,F.out _ _ _,?_⟩;exact⟨_,_,by rw[ai.out],(m.out _ _ _).1,(m.out _ _ _).2⟩
theorem qLA (L:Nat->Prop) (a b:Rat) (va vb:Value) (w:World) (hL:Up w L) (ha:RatL L .u32 w va a) (hb:RatL L .u32 w vb b) (hma:Rsz a 5000000) (hmb:Rsz b 5000000) (hb0:b≠0):
  Calls Try.prog 68 #[va,vb] w λe w'=>∃v',e= .returned v'/\Le w w'/\RatL L .u32 w' v' (a / b):=by
 obtain⟨An,cn,Ad,cd,rfl,T,P⟩:=ha.form;obtain⟨Bn,dn,Bd,dd,rfl,aa,Y⟩:=hb.form;obtain⟨aW,aX⟩:=hma;obtain⟨aY,aZ⟩:=hmb;have ae:=qAK (rnum a) (b.den);have ag:=qAK (a.den) (rnum b);have ac:(a.den)*(rnum b)≠0:=Nat.ne_of_gt (Nat.mul_pos (qA3 a) (Nat.pos_of_ne_zero λh=>hb0 (rnum_zero.1 h)));obtain⟨J,G⟩:∃J,rneg a=J:=⟨_,rfl⟩;obtain⟨M,H⟩:∃M,rneg b=M:=⟨_,rfl⟩;have q:=qGg (a:=a) hb0;rw[G,H]at*;have⟨a5,aT,aU,U,S,ab,Z,aJ⟩:=hyd8 hL ha hb T P aa Y G;have⟨aK,af,ah,ad,D⟩:=hyd5 H ae ag ac q;clear q ac ag ae H G Y aa P T hb ha hL;go_enter Try.func68,Try.ntmps68;go_wp2;obtain⟨W0,O,aV,E,h0,h1,h2⟩:=qCa w (.cells #[.bool J,.slice An (dg (rnum a)).length cn,.slice Ad (dg a.den).length cd] 57) (.cells #[.bool M,.slice Bn (dg (rnum b)).length dn,.slice Bd (dg b.den).length dd] 57) (.cells #[.bool false,.slice none 0 0,.slice none 0 0] 57);rw[O];clear O;obtain⟨ao,ap,aq,-⟩:=qAB h0;obtain⟨ar,au,av,-⟩:=qAB h1;have o:=a5.out.le E;have⟨aQ,aR,a4,g,j⟩:=hyd5 h0 h1 h2 E o;clear o E h2 h1 h0;refine qAU (R:=leRel) 16 [some 5,some 6,some 7,some 8,some 9,some 10,some 11,some 12,some 13,some 14,some 15,some 16,some 17,some 18,some 19,some 20,none] [[],[0],[],[2],[1,3],[],[5],[],[7],[6,8],[],[10],[],[12],[11,13],[4,9,14],[15]]
  [.eq (.pointer (some ⟨w.heap.size,0,none⟩)),.eq (.bool J),.eq (.pointer (some ⟨w.heap.size+1,0,none⟩)),.eq (.bool M),.eq (.bool (J != M)),.eq (.pointer (some ⟨w.heap.size,1,none⟩)),.eq (.slice An (dg (rnum a)).length cn),.eq (.pointer (some ⟨w.heap.size+1,2,none⟩)),.eq (.slice Bd (dg b.den).length dd),MPred.num L .u32 (rnum a*b.den),
   .eq (.pointer (some ⟨w.heap.size,2,none⟩)),.eq (.slice Ad (dg a.den).length cd),.eq (.pointer (some ⟨w.heap.size+1,1,none⟩)),.eq (.slice Bn (dg (rnum b)).length dn),MPred.num L .u32 (a.den*rnum b),MPred.rat L .u32 (a / b)] (λ_ _=>False) (by kernel_rfl) (by kernel_rfl) (by kernel_rfl) (by kernel_rfl) ?_ (λ_ _ _ _ _ h=>h.elim) ?_
 ·simp only[List.take_succ_cons,List.take_zero];refine mSc ?_ (mSc ?_ (mSc ?_ (mSc ?_ (mSc ?_ (mSc ?_ (mSc ?_ (mSc ?_ (mSc ?_ (mSc ?_ (mSc ?_ (mSc ?_ (mSc ?_ (mSc ?_ (mSc ?_ (mSc ?_ (qAZ))))))))))))))))
  ·refine mSl rfl λx W f c Q hK _=>?_;simp only[fA]at hK ⊢;go_wp2;exact hK _ _ lrR rfl
  ·refine mSl rfl λx W f c Q hK _=>?_;obtain⟨d,-⟩:=c;change _=_ at d;have N:=bcl f (by omega) ao;simp only[fA,d]at hK ⊢;go_wp2;exact hK _ _ lrR rfl
  ·refine mSl rfl λx W f c Q hK _=>?_;simp only[fA]at hK ⊢;go_wp2;exact hK _ _ lrR rfl
  ·refine mSl rfl λx W f c Q hK _=>?_;obtain⟨d,-⟩:=c;change _=_ at d;have N:=bcl f (by omega) ar;simp only[fA,d]at hK ⊢;go_wp2;exact hK _ _ lrR rfl
  ·refine mSl rfl λx W f c Q hK _=>?_;obtain⟨d,i,-⟩:=c;change _=_ at d i;simp only[fA,d,i]at hK ⊢;go_wp2;exact hK _ _ lrR rfl
  ·refine mSl rfl λx W f c Q hK _=>?_;simp only[fA]at hK ⊢;go_wp2;exact hK _ _ lrR rfl
  ·refine mSl rfl λx W f c Q hK _=>?_;obtain⟨d,-⟩:=c;change _=_ at d;have N:=bcl f (by omega) ap;simp only[fA,d]at hK ⊢;go_wp2;exact hK _ _ lrR rfl
  ·refine mSl rfl λx W f c Q hK _=>?_;simp only[fA]at hK ⊢;go_wp2;exact hK _ _ lrR rfl
  ·refine mSl rfl λx W f c Q hK _=>?_;obtain⟨d,-⟩:=c;change _=_ at d;have N:=bcl f (by omega) av;simp only[fA,d]at hK ⊢;go_wp2;exact hK _ _ lrR rfl
  ·refine mSl rfl λx W f c Q hK _=>?_;obtain⟨d,i,-⟩:=c;change _=_ at d i;simp only[fA,d,i]at hK ⊢;go_wp2_with (fail);go_at_call 64;refine(qBO L (rnum a) (b.den) _ _ W (j.out.le f) ((U.out.le g.out).le f) ((Z.out.le g.out).le f) (by omega) (by omega)).mono ?_;rintro e w' ⟨v',rfl,n,l⟩;obtain⟨A9,c9,rfl⟩:=l.slice;go_wp2;exact hK _ _ n l
  ·refine mSl rfl λx W f c Q hK _=>?_;simp only[fA]at hK ⊢;go_wp2;exact hK _ _ lrR rfl
  ·refine mSl rfl λx W f c Q hK _=>?_;obtain⟨d,-⟩:=c;change _=_ at d;have N:=bcl f (by omega) aq;simp only[fA,d]at hK ⊢;go_wp2;exact hK _ _ lrR rfl
  ·refine mSl rfl λx W f c Q hK _=>?_;simp only[fA]at hK ⊢;go_wp2;exact hK _ _ lrR rfl
  ·refine mSl rfl λx W f c Q hK _=>?_;obtain⟨d,-⟩:=c;change _=_ at d;have N:=bcl f (by omega) au;simp only[fA,d]at hK ⊢;go_wp2;exact hK _ _ lrR rfl
  ·refine mSl rfl λx W f c Q hK _=>?_;obtain⟨d,i,-⟩:=c;change _=_ at d i;simp only[fA,d,i]at hK ⊢;go_wp2_with (fail);go_at_call 64;refine(qBO L (a.den) (rnum b) _ _ W (j.out.le f) ((S.out.le g.out).le f) ((ab.out.le g.out).le f) (by omega) (by omega)).mono ?_;rintro e w' ⟨v',rfl,n,l⟩;obtain⟨A9,c9,rfl⟩:=l.slice;go_wp2;exact hK _ _ n l
  ·refine mSl rfl λx W f c Q hK _=>?_;obtain⟨d,i,C,-⟩:=c;change _=_ at d;replace i:NumL L .u32 W (x 9) (rnum a*b.den):=i;replace C:NumL L .u32 W (x 14) (a.den*rnum b):=C;simp only[fA,d]at hK ⊢;go_wp2_with (fail);go_at_call 73;refine(qCR L (J != M) (rnum a*b.den) (a.den*rnum b) _ _ W (j.out.le f) i C ad.out (by have:=af.out;omega) (by have:=ah.out;omega)).mono ?_;rintro e w' ⟨v',rfl,n,l⟩;rw[D.out]at l;obtain⟨A1,c1,A2,c2,rfl,-,-⟩:=l.form;go_wp2;exact hK _ _ n l
 ·intro x W f c Q' a6 _;have d:=c 0 (by decide);have i:=c 1 (by decide);have C:=c 2 (by decide);have e3:=c 3 (by decide);have e4:=c 4 (by decide);have e5:=c 5 (by decide);have e6:=c 6 (by decide);have e7:=c 7 (by decide);have e8:=c 8 (by decide);have s:=c 10 (by decide);have t:=c 11 (by decide);have y:=c 12 (by decide);have z:=c 13 (by decide);have A:RatL L .u32 W (x 15) (a / b):=c 15 (by decide);change _=_ at d i C e3 e4 e5 e6 e7 e8 s t y z;obtain⟨A1,c1,A2,c2,B,n,l⟩:=A.form;have k:=(Below.block f (w.heap.size+1+1) (by omega)).trans a4.out;obtain⟨z0,z1,z2,g0,g1,g2⟩:=qAB k;simp only[List.drop_succ_cons,List.drop_zero];rw[show List.range 16=[0,1,2,3,4,5,6,7,8,9,10,11,12,13,14,15]from rfl];simp only[fA,d,i,C,e3,e4,e5,e6,e7,e8,s,t,y,z,B];generalize x 9=x9;generalize x 14=x14;clear d i C e3 e4 e5 e6 e7 e8 s t y z c;have r:=λu0 u1 u2=>qAb (u0:=u0) (u1:=u1) (u2:=u2) (Le.trans g.out f) (show w.heap.size<=w.heap.size+1+1 by omega);have V:=λu0 u1 u2=>qAB (qAR (u0:=u0) (u1:=u1) (u2:=u2) k);have p:=λu0 u1 u2=>And.intro (NumL.box3 (u0:=u0) (u1:=u1) (u2:=u2) n k) (NumL.box3 (u0:=u0) (u1:=u1) (u2:=u2) l k);obtain⟨sr,I⟩:∃sr,rneg (a / b)=sr:=⟨_,rfl⟩;rw[I];have⟨F,X,m,aI,ba,bb,aG,aF⟩:=hyd8 r V p k n l B A
  have⟨aS,ai⟩:=hyd2 f I;clear I f A B l n k p V r;go_wp2;refine a6 _ _ ?_;go_wp2;obtain⟨d0,d1,d2,-⟩:=X.out (.bool sr) (.slice A1 (dg (rnum (a / b))).length c1) (.slice A2 (dg (a / b).den).length c2);refine bodyPost_ret (v:= .agg #[.bool sr,.slice A1 (dg (rnum (a / b))).length c1,.slice A2 (dg (a / b).den).length c2]) (by simp[results,Try.results68,go_sem,d0,d1,d2]) rfl ⟨_,rfl,F.out _ _ _,?_⟩;exact⟨_,_,by rw[ai.out],(m.out _ _ _).1,(m.out _ _ _).2⟩
end Go.Proofs.Ytcoajjdhkhgfdaa

/- reference 1: fractions: lowest, Sign, Minus. reference 1: fractions: Plus. reference 1: fractions: Times, By. reference 1: fractions: absolute, Int, Over, .. -/
import Derived.Test.YtcoajjdhkhgfdaaPk14
import Derived.Test.YtcoajjdhkhgfdaaPk12
namespace Go.Proofs.Ytcoajjdhkhgfdaa
set_option maxRecDepth 100000
set_option maxHeartbeats 4000000
open Go.RowKit Go.Shelf
set_option linter.unusedVariables false
set_option linter.unusedSimpArgs false
theorem qBp (L:Nat->Prop) (a b:Nat) (va vb:Value) (w:World) (hL:Up w L) (ha:NumL L .i64 w va a) (hb:NumL L .i64 w vb b) (hma:(dg a).length <=100000000) (hmb:(dg b).length <=100000000):
  Calls Try.prog 83 #[va,vb] w λe w'=>∃v',e= .returned v'/\Le w w'/\NumL L .i64 w' v' (a*b):=qDe L L L a b va vb w hL ha hb hma hmb
theorem qKH (L:Nat->Prop) (a b:Nat) (va vb:Value) (w:World) (hL:Up w L) (ha:NumL L .i64 w va a) (hb:NumL L .i64 w vb b) (hma:(dg a).length <=100000000) (hmb:(dg b).length <=100000000):
  Calls Try.prog 85 #[va,vb] w λe w'=>∃v',e= .returned v'/\Le w w'/\NumL L .i64 w' v' (a+b):=qFl L L L a b va vb w hL ha hb hma hmb
theorem qGS (L:Nat->Prop) (a b:Nat) (va vb:Value) (w:World) (hL:Up w L) (ha:NumL L .i64 w va a) (hb:NumL L .i64 w vb b) (hle:b<=a) (hm:(dg a).length <=100000000):
  Calls Try.prog 86 #[va,vb] w λe w'=>∃v',e= .returned v'/\Le w w'/\NumL L .i64 w' v' (a - b):=qEt L L L a b va vb w hL ha hb hle hm
theorem qCb:(1:Nat)<B9:=by have:=qAM;omega
theorem qGT {L:Nat->Prop} {neg:Bool} {n d:Nat} {w W:World} {B:Nat} {t:TypeId} {An Ad:Option Addr} {cn cd ln ld:Nat} (hn0:n≠0) (hd:d≠0) (hle:Le w W) (hB:w.heap.size<=B)
  (hbx:W.heap[B]? =some (Obj.cells #[.bool false,.slice none 0 0,.slice none 0 0] t)) (hn:NumL L .i64 W (.slice An ln cn) (n / Nat.gcd n d)) (hdn:NumL L .i64 W (.slice Ad ld cd) (d / Nat.gcd n d)):
  RatL L .i64 (((W.setCell ⟨B,0,none⟩ (.bool neg)).setCell ⟨B,1,none⟩ (.slice An ln cn)).setCell ⟨B,2,none⟩ (.slice Ad ld cd)) (.agg #[.bool neg,.slice An ln cn,.slice Ad ld cd]) (mkR neg n d):=by
 refine⟨_,_,by rw[qGe _ _ _ hd,show decide (0<n)=true by simp;omega,Bool.and_true],?_,?_⟩
 ·rw[qEE _ _ _ hd];exact hn.box3 hbx
 ·rw[qFQ _ _ _ hd];exact hdn.box3 hbx
theorem qCK (L:Nat->Prop) (neg:Bool) (n d:Nat) (vn vd:Value) (w:World) (hL:Up w L) (hn:NumL L .i64 w vn n) (hd:NumL L .i64 w vd d) (hd0:d≠0) (hmn:(dg n).length <=10000000) (hmd:(dg d).length <=10000000):
  Calls Try.prog 84 #[.bool neg,vn,vd] w λe w'=>∃v',e= .returned v'/\Le w w'/\RatL L .i64 w' v' (mkR neg n d):=by
 obtain⟨An,cn,rfl⟩:=hn.slice;obtain⟨Ad,cd,rfl⟩:=hd.slice
 by_cases hz:n=0
 ·have J:(dg n).length =0:=by rw[hz,qA1];rfl
  rw[J];have⟨aj,af,H,aG,aP⟩:=hyd5 hn hd hL hz J;clear J hz hL hd hn;go_enter Try.func84,Try.ntmps84;go_wp2
  have a2:RatL L .i64 ((w.alloc (.cells #[.bool false,.slice none 0 0,.slice (some ⟨w.heap.size+1,0,none⟩) 1 1] 63)).alloc (.cells #[.int .i64 1] 3)) (.agg #[.bool false,.slice none 0 0,.slice (some ⟨w.heap.size+1,0,none⟩) 1 1]) (mkR neg n d):=by
   rw[aG.out,qFe];refine⟨_,_,rfl,by unfold NumL;rw[show rnum 0=0 from rfl,qA1];exact ArrL.nil _ _ _,?_⟩;have h:=qBX (L:=L) (k:= .i64) (V:=w.alloc (.cells #[.bool false,.slice none 0 0,.slice (some ⟨w.heap.size+1,0,none⟩) 1 1] 63)) (g:=1) (H.out.le (qAA _ _)) (by omega) qCb 3;rw[World.size_alloc]at h;exact h
  exact bodyPost_ret (v:= .agg #[.bool false,.slice none 0 0,.slice (some ⟨w.heap.size+1,0,none⟩) 1 1]) (by simp[results,Try.results84,go_sem]) rfl ⟨_,rfl,(qAA _ _).trans (qAA _ _),a2⟩
 ·have J:(((dg n).length :Int)==0)=false:=beq_eq_false_iff_ne.2 (by have:=dg_length_pos.2 hz;omega);have bb:¬((dg n).length :Int)=0:=by have:=dg_length_pos.2 hz;omega
  have⟨aj,af,H⟩:=hyd3 hn hd hL;clear hL hd hn;go_enter Try.func84,Try.ntmps84;go_wp2_with (fail);go_at_call 77;refine(qF2 L n d _ _ _ (H.out.le (qAA _ _)) (aj.out.le (qAA _ _)) (af.out.le (qAA _ _)) hmn hmd).mono ?_;rintro e w1 ⟨vg,rfl,ah,hg⟩;obtain⟨m,I⟩:=qCJ ah;obtain⟨G,z⟩:∃G,Nat.gcd n d=G:=⟨_,rfl⟩;have ba:0<G:=by rw[<-z];exact Nat.gcd_pos_of_pos_right _ (Nat.pos_of_ne_zero hd0)
  have ao:(dg G).length <=10000000:=by
   rw[<-z];have:=qIl n d (.inr hd0);omega
  rw[z]at hg;obtain⟨Ag,cg,rfl⟩:=hg.slice;have az:=aj.out.le m;have ap:=af.out.le m;have P:=H.out.le m;have S:=λo=>(Below.block (qAA w1 o) w.heap.size (gsl I)).trans I;have⟨ay,F,D,ag,ab,X,r,ae⟩:=hyd8 ah m I hg az ap P S;clear S P ap az hg I m ah;go_wp2_with (fail);go_at_call 76;refine(qDZ L L G 1 _ _ _ (ag.out.le (qAA _ _)) (qBX (g:=1) r.out (by omega) qCb _)).mono ?_;rintro e w2 ⟨rfl,nd,rfl⟩;obtain⟨w2,O⟩:∃w2,(w1.alloc (.cells #[.int .i64 ((1:Nat):Int)] 3)).drewN nd=w2:=⟨_,rfl⟩;have b:Le w1 w2:=by rw[<-O];exact(qAA _ _).trans (Le.quiet nd)
  rw[O];have aa:=F.out.trans b;have T:=(Below.block b w.heap.size (gsl D.out)).trans D.out;have a0:=ab.out.le b;have aq:=X.out.le b;have av:=ag.out.le b;have Q:=r.out.le b;clear ab X ag r ae D ay F;have⟨aT,a5,t,c,ac,Y,Z,A⟩:=hyd8 O b aa T a0 aq av Q;clear Q av aq a0 T aa b O
  by_cases i:G=1
  ·have M:ordI G 1=0:=ordI_zero.2 i;have a1:(ordI G 1==0)=true:=by rw[M];rfl
   obtain⟨c0,c1,c2,f0,f1,f2⟩:=qAB c.out;have l:=qGT (neg:=neg) hz hd0 t.out (Nat.le_refl _) c.out (by rw[z,i,Nat.div_one];exact ac.out) (by rw[z,i,Nat.div_one];exact Y.out);have q:=λu0 u1 u2=>qAb (u0:=u0) (u1:=u1) (u2:=u2) t.out (Nat.le_refl _);have B:=λu0 u1 u2=>qAB (qAR (u0:=u0) (u1:=u1) (u2:=u2) c.out);rw[M];clear M a1;have⟨s,x,aA,an,C⟩:=hyd5 l q z i B;clear B i z q l;go_wp2;obtain⟨d0,d1,d2,-⟩:=C.out (.bool neg) (.slice An (dg n).length cn) (.slice Ad (dg d).length cd);exact bodyPost_ret (v:= .agg #[.bool neg,.slice An (dg n).length cn,.slice Ad (dg d).length cd]) (by simp[results,Try.results84,go_sem,d0,d1,d2]) rfl ⟨_,rfl,x.out _ _ _,s.out⟩
  ·obtain⟨o,M⟩:∃o,ordI G 1=o:=⟨_,rfl⟩;rw[M];have bd:(o==0)=false:=beq_eq_false_iff_ne.2 (λh=>i (ordI_zero.1 (M.trans h)));have a1:¬o=0:=λh=>i (ordI_zero.1 (M.trans h));have⟨bc,an⟩:=hyd2 M i;clear i M;go_wp2_with (fail);go_at_call 96;refine(qEZ L n G _ _ w2 A.out ac.out Z.out hmn ao (by omega)).mono ?_;rintro e w3 ⟨v1,v2,rfl,f,hq,hr⟩;obtain⟨A1,c1,rfl⟩:=hq.slice;obtain⟨A2,c2,rfl⟩:=hr.slice;have U:=(Below.block f _ (gsl c.out)).trans c.out;have ar:=Y.out.le f;have aw:=Z.out.le f;have R:=A.out.le f;have⟨ai,aE,be,E,au,ax,ad⟩:=hyd7 f hq hr U ar aw R;clear R aw ar U hr hq f;go_wp2_with (fail);go_at_call 96;refine(qEZ L d G _ _ w3 ad.out au.out ax.out hmd ao (by omega)).mono ?_;rintro e w4 ⟨v1,v2,rfl,p,N,al⟩;obtain⟨A3,c3,rfl⟩:=N.slice;obtain⟨A4,c4,rfl⟩:=al.slice;have j:=(Below.block p _ (gsl E.out)).trans E.out;have ak:=aE.out.le p;have y:=Le.trans (Le.trans t.out ai.out) p;obtain⟨c0,e1,e2,f0,f1,f2⟩:=qAB j;have l:=qGT (neg:=neg) hz hd0 y (Nat.le_refl _) j (by rw[z];exact ak) (by rw[z];exact N);have q:=λu0 u1 u2=>qAb (u0:=u0) (u1:=u1) (u2:=u2) y (Nat.le_refl _);have B:=λu0 u1 u2=>qAB (qAR (u0:=u0) (u1:=u1) (u2:=u2) j);have⟨s,x,aA,C,aB,aQ,aD,aC⟩:=hyd8 l q z B j ak y p
   have⟨aR,aS⟩:=hyd2 N al;clear al N p y ak j B z q l;go_wp2;obtain⟨d0,d1,d2,-⟩:=C.out (.bool neg) (.slice A1 (dg (n / G)).length c1) (.slice A3 (dg (d / G)).length c3);exact bodyPost_ret (v:= .agg #[.bool neg,.slice A1 (dg (n / G)).length c1,.slice A3 (dg (d / G)).length c3]) (by simp[results,Try.results84,go_sem,d0,d1,d2]) rfl ⟨_,rfl,x.out _ _ _,s.out⟩
theorem qCc (L:Nat->Prop) (r:Rat) (v:Value) (w:World) (h:RatL L .i64 w v r):
  Calls Try.prog 45 #[v] w λe w'=>e= .returned (.int .i64 (rsgn r))/\Le w w':=by
 obtain⟨m,o,n,p,rfl,-,-⟩:=h.form;have f:=qAA w (.cells #[.bool (rneg r),.slice m (dg (rnum r)).length o,.slice n (dg r.den).length p] 63);rw[qIo];obtain⟨k,g⟩:∃k,rneg r=k:=⟨_,rfl⟩;rw[g]at f ⊢;have⟨l,d⟩:=hyd2 g f;clear f g
 by_cases i:rnum r=0
 ·rw[if_pos i];have j:(dg (rnum r)).length =0:=by rw[i,qA1];rfl
  have b:=d.out;clear d;rw[j]at b ⊢;have c:=hyd1 b;clear b;clear i j;go_enter Try.func45,Try.ntmps45;go_wp2;go_ret;exact⟨rfl,c.out⟩
 ·rw[if_neg i];have j:0<(dg (rnum r)).length :=dg_length_pos.2 i;have q:(((dg (rnum r)).length :Int)==0)=false:=beq_eq_false_iff_ne.2 (by omega);have s:¬(dg (rnum r)).length =0:=by omega
  have t:¬((dg (rnum r)).length :Int)=0:=by omega
  have b:=d.out;clear d;generalize (dg (rnum r)).length =l1 at*;have c:=hyd1 b;clear b;clear i
  cases k
  ·go_enter Try.func45,Try.ntmps45;go_wp2;go_ret;exact⟨rfl,c.out⟩
  ·go_enter Try.func45,Try.ntmps45;go_wp2;go_ret;exact⟨rfl,c.out⟩
theorem qC1 (L:Nat->Prop) (r:Rat) (v:Value) (w:World) (h:RatL L .i64 w v r):
  Calls Try.prog 56 #[v] w λe w'=>∃v',e= .returned v'/\Le w w'/\RatL L .i64 w' v' (-r):=by
 obtain⟨k,m,l,n,rfl,o,p⟩:=h.form;obtain⟨q,B,C⟩:=qEF r;obtain⟨y,i⟩:∃y,rneg r=y:=⟨_,rfl⟩;rw[i]at q ⊢;obtain⟨c,b⟩:∃c,(dg (rnum r)).length =c:=⟨_,rfl⟩;obtain⟨j,f⟩:∃j,(dg r.den).length =j:=⟨_,rfl⟩;have A:decide (0<rnum r)=decide (0<c):=by rw[<-b];exact decide_eq_decide.2 (show 0<rnum r↔0<(dg (rnum r)).length by rw[dg_length_pos];omega)
 rw[A]at q;rw[b]at o;rw[f]at p;rw[b,f]
 have D:∀s t x,rneg (-r)=s->(∃v',Ending.returned (.agg #[.bool s,.slice k c m,.slice l j n])= .returned v'/\Le w ((w.alloc t).alloc x)/\RatL L .i64 ((w.alloc t).alloc x) v' (-r)):=λs t x M=>by
  have z:=(qAA w t).trans (qAA _ x);exact⟨_,rfl,z,_,_,by rw[M],by rw[B];exact o.le z,by rw[C];exact p.le z⟩
 have⟨Q,H,I,d,G,g,O,P⟩:=hyd8 h o p D i q B C;have⟨E,F,N⟩:=hyd3 b f A;clear A f b C B q i D p o h
 by_cases R:0<c
 ·have J:0<(c:Int):=by omega
  cases y
  ·go_enter Try.func56,Try.ntmps56;go_wp2;exact bodyPost_ret (v:= .agg #[.bool true,.slice k c m,.slice l j n]) (by simp[results,Try.results56,go_sem]) rfl (d.out _ _ _ (by rw[g.out];simp;omega))
  ·go_enter Try.func56,Try.ntmps56;go_wp2;exact bodyPost_ret (v:= .agg #[.bool false,.slice k c m,.slice l j n]) (by simp[results,Try.results56,go_sem]) rfl (d.out _ _ _ (by rw[g.out];simp))
 ·have J:¬0<(c:Int):=by omega
  cases y
  ·go_enter Try.func56,Try.ntmps56;go_wp2;exact bodyPost_ret (v:= .agg #[.bool false,.slice k c m,.slice l j n]) (by simp[results,Try.results56,go_sem]) rfl (d.out _ _ _ (by rw[g.out];simp;omega))
  ·go_enter Try.func56,Try.ntmps56;go_wp2;exact bodyPost_ret (v:= .agg #[.bool false,.slice k c m,.slice l j n]) (by simp[results,Try.results56,go_sem]) rfl (d.out _ _ _ (by rw[g.out];simp))
theorem qEu (L:Nat->Prop) (a b:Rat) (va vb:Value) (w:World) (hL:Up w L) (ha:RatL L .i64 w va a) (hb:RatL L .i64 w vb b) (hma:Rsz a 2000000) (hmb:Rsz b 2000000):
  Calls Try.prog 55 #[va,vb] w λe w'=>∃v',e= .returned v'/\Le w w'/\RatL L .i64 w' v' (a+b):=by
 obtain⟨An,cn,Ad,cd,rfl,br,bq⟩:=ha.form;obtain⟨Bn,dn,Bd,dd,rfl,bu,bt⟩:=hb.form;obtain⟨cu,cw⟩:=hma;obtain⟨c0,c3⟩:=hmb;have aO:=qAK (rnum a) b.den;have aP:=qAK (rnum b) a.den;have aQ:=qAK a.den b.den;have aM:a.den*b.den≠0:=Nat.ne_of_gt (Nat.mul_pos (qA3 a) (qA3 b));obtain⟨X,hX⟩:∃X,rnum a*b.den=X:=⟨_,rfl⟩;obtain⟨Y,hY⟩:∃Y,rnum b*a.den=Y:=⟨_,rfl⟩;obtain⟨D,hD⟩:∃D,a.den*b.den=D:=⟨_,rfl⟩;have T:rneg a=rneg b->mkR (rneg a) (X+Y) D=a+b:=λh=>by rw[<-hX,<-hY,<-hD];exact qHf h
 have U:rneg a≠rneg b->(if X<Y then mkR (rneg b) (Y - X) D else mkR (rneg a) (X - Y) D)=a+b:=λh=>by rw[<-hX,<-hY,<-hD];exact qJx h
 have bw:=qDS X Y;have bx:(dg (X - Y)).length <=(dg X).length :=qAH (Nat.sub_le _ _);have bz:(dg (Y - X)).length <=(dg Y).length :=qAH (Nat.sub_le _ _);obtain⟨sa,aR⟩:∃sa,rneg a=sa:=⟨_,rfl⟩;obtain⟨sb,aS⟩:∃sb,rneg b=sb:=⟨_,rfl⟩;rw[hX]at aO;rw[hY]at aP;rw[hD]at aQ aM;rw[aR,aS]at T U ⊢;have qX:(dg X).length <=4000000:=by omega
 have qY:(dg Y).length <=4000000:=by omega
 have qD:(dg D).length <=4000000:=by omega
 have⟨a3,co,cp,bs,aD,bv,aE,cg⟩:=hyd8 hL ha hb br bq bu bt aR;have⟨ch,cb,ce,cf,au,av,aw,ak⟩:=hyd8 aS aO aP aQ bw bx bz aM;have⟨a4,a5,bJ,bK,bI⟩:=hyd5 T U hX hY hD;clear hD hY hX U T aM bz bx bw aQ aP aO aS aR bt bu bq br hb ha hL;go_enter Try.func55,Try.ntmps55;go_wp2;obtain⟨W0,bi,cq,aN,h0,h1,h2⟩:=qCa w (.cells #[.bool sa,.slice An (dg (rnum a)).length cn,.slice Ad (dg a.den).length cd] 63) (.cells #[.bool sb,.slice Bn (dg (rnum b)).length dn,.slice Bd (dg b.den).length dd] 63) (.cells #[.bool false,.slice none 0 0,.slice none 0 0] 63);rw[bi];clear bi;obtain⟨G,b7,aH,-⟩:=qAB h0;obtain⟨N,b8,aI,-⟩:=qAB h1;have a9:=a3.out.le aN;have⟨cl,cm,bH,J,aj⟩:=hyd5 h0 h1 h2 aN a9;clear a9 aN h2 h1 h0;refine qAU (R:=leRel) 12 [some 8,some 9,some 10,some 11,some 12,some 13,some 14,some 15,some 16,some 17,some 5,some 6] [[],[0],[],[2],[1,3],[],[5],[],[7],[6,8],[4],[9]]
  [.eq (.pointer (some ⟨w.heap.size,1,none⟩)),.eq (.slice An (dg (rnum a)).length cn),.eq (.pointer (some ⟨w.heap.size+1,2,none⟩)),.eq (.slice Bd (dg b.den).length dd),MPred.num L .i64 X,.eq (.pointer (some ⟨w.heap.size+1,1,none⟩)),.eq (.slice Bn (dg (rnum b)).length dn),.eq (.pointer (some ⟨w.heap.size,2,none⟩)),.eq (.slice Ad (dg a.den).length cd),MPred.num L .i64 Y,MPred.num L .i64 X,MPred.num L .i64 Y] (λ_ _=>False) (by kernel_rfl) (by kernel_rfl) (by kernel_rfl) (by kernel_rfl) ?_ (λ_ _ _ _ _ h=>h.elim) ?_
 ·simp only[List.take_succ_cons,List.take_zero];refine mSc ?_ (mSc ?_ (mSc ?_ (mSc ?_ (mSc ?_ (mSc ?_ (mSc ?_ (mSc ?_ (mSc ?_ (mSc ?_ (mSc ?_ (mSc ?_ (qAZ))))))))))))
  ·refine mSl rfl λx W c d Q hK _=>?_;simp only[fA]at hK ⊢;go_wp2;exact hK _ _ lrR rfl
  ·refine mSl rfl λx W c d Q hK _=>?_;obtain⟨f,-⟩:=d;change _=_ at f;have cc:=bcl c (by omega) b7;simp only[fA,f]at hK ⊢;go_wp2;exact hK _ _ lrR rfl
  ·refine mSl rfl λx W c d Q hK _=>?_;simp only[fA]at hK ⊢;go_wp2;exact hK _ _ lrR rfl
  ·refine mSl rfl λx W c d Q hK _=>?_;obtain⟨f,-⟩:=d;change _=_ at f;have cc:=bcl c (by omega) aI;simp only[fA,f]at hK ⊢;go_wp2;exact hK _ _ lrR rfl
  ·refine mSl rfl λx W c d Q hK _=>?_;obtain⟨f,g,-⟩:=d;change _=_ at f g;simp only[fA,f,g]at hK ⊢;go_wp2_with (fail);go_at_call 83;refine(qBp L (rnum a) (b.den) _ _ W (aj.out.le c) ((bs.out.le J.out).le c) ((aE.out.le J.out).le c) (by omega) (by omega)).mono ?_;rintro e w' ⟨v',rfl,q,E⟩;rw[bJ.out]at E;obtain⟨A9,c9,rfl⟩:=E.slice;go_wp2;exact hK _ _ q E
  ·refine mSl rfl λx W c d Q hK _=>?_;simp only[fA]at hK ⊢;go_wp2;exact hK _ _ lrR rfl
  ·refine mSl rfl λx W c d Q hK _=>?_;obtain⟨f,-⟩:=d;change _=_ at f;have cc:=bcl c (by omega) b8;simp only[fA,f]at hK ⊢;go_wp2;exact hK _ _ lrR rfl
  ·refine mSl rfl λx W c d Q hK _=>?_;simp only[fA]at hK ⊢;go_wp2;exact hK _ _ lrR rfl
  ·refine mSl rfl λx W c d Q hK _=>?_;obtain⟨f,-⟩:=d;change _=_ at f;have cc:=bcl c (by omega) aH;simp only[fA,f]at hK ⊢;go_wp2;exact hK _ _ lrR rfl
  ·refine mSl rfl λx W c d Q hK _=>?_;obtain⟨f,g,-⟩:=d;change _=_ at f g;simp only[fA,f,g]at hK ⊢;go_wp2_with (fail);go_at_call 83;refine(qBp L (rnum b) (a.den) _ _ W (aj.out.le c) ((bv.out.le J.out).le c) ((aD.out.le J.out).le c) (by omega) (by omega)).mono ?_;rintro e w' ⟨v',rfl,q,E⟩;rw[bK.out]at E;obtain⟨A9,c9,rfl⟩:=E.slice;go_wp2;exact hK _ _ q E
  ·refine mSl rfl λx W c d Q hK _=>?_;obtain⟨f,-⟩:=d;replace f:NumL L .i64 W (x 4) X:=f;obtain⟨A9,c9,g⟩:=f.slice;rw[g]at f;simp only[fA,g]at hK ⊢;go_wp2;exact hK _ _ lrR f
  ·refine mSl rfl λx W c d Q hK _=>?_;obtain⟨f,-⟩:=d;replace f:NumL L .i64 W (x 9) Y:=f;obtain⟨A9,c9,g⟩:=f.slice;rw[g]at f;simp only[fA,g]at hK ⊢;go_wp2;exact hK _ _ lrR f
 ·intro x W c d Q' S _;have f:=d 0 (by decide);have g:=d 1 (by decide);have r:=d 2 (by decide);have O:=d 3 (by decide);have P:=d 5 (by decide);have e6:=d 6 (by decide);have e7:=d 7 (by decide);have e8:=d 8 (by decide);have az:NumL L .i64 W (x 10) X:=d 10 (by decide);have a0:NumL L .i64 W (x 11) Y:=d 11 (by decide);change _=_ at f g r O P e6 e7 e8;obtain⟨Ax,cx,a1⟩:=az.slice;obtain⟨Ay,cy,a2⟩:=a0.slice;rw[a1]at az;rw[a2]at a0;simp only[List.drop_succ_cons,List.drop_zero];rw[show List.range 12=[0,1,2,3,4,5,6,7,8,9,10,11]from rfl];simp only[fA,f,g,r,O,P,e6,e7,e8,a1,a2];generalize x 4=x4;generalize x 9=x9;clear f g r O P e6 e7 e8 d;have G:=bcl c (by omega) G;have N:=bcl c (by omega) N;have aH:=bcl c (by omega) aH;have aI:=bcl c (by omega) aI;have i:=(Below.block c (w.heap.size+1+1) (by omega)).trans bH.out;have aq:=Le.trans J.out c;have aC:=a3.out.le aq;have ct:=Below.size c;have⟨bc,bd,bV,bW,Z,V,aK,aJ⟩:=hyd8 az a0 a1 a2 i aq aC c;clear c aC aq i a2 a1 a0 az;refine wpList_nil (S _ _ ?_);go_wp2_with (fail);go_at_call 83;refine(qBp L a.den b.den _ _ W aK.out (aD.out.le V.out) (aE.out.le V.out) (by omega) (by omega)).mono ?_;rintro e W1 ⟨v',rfl,q,E⟩;rw[bI.out]at E;obtain⟨Az,cz,rfl⟩:=E.slice;have G:=(Below.cell q (p:=⟨w.heap.size,0,none⟩) (by show w.heap.size<W.heap.size;omega)).trans G
  have N:=(Below.cell q (p:=⟨w.heap.size+1,0,none⟩) (by show w.heap.size+1<W.heap.size;omega)).trans N;have be:=(Below.block q (w.heap.size+1+1) (by omega)).trans Z.out;have ao:=Le.trans V.out q;have aA:=a3.out.le ao;have bk:=bc.out.le q;have bo:=bd.out.le q;have cr:=Below.size q;have⟨c4,ad,F,m,j,y,z⟩:=hyd7 q E be ao aA bk bo;clear bo bk aA ao be E q
  by_cases hs:sa=sb
  ·have b0:(sa==sb)=true:=by simp[hs]
   have an:mkR sa (X+Y) D=a+b:=a4.out hs;have⟨bM,aa⟩:=hyd2 hs an;clear an hs;go_wp2;refine qAU (R:=leRel) 7 [some 28,some 29,some 30,some 31,some 32,some 33,some 34,none] [[],[0],[],[],[2,3],[],[1,4,5],[6]]
    [.eq (.pointer (some ⟨w.heap.size,0,none⟩)),.eq (.bool sa),.eq (.slice Ax (dg X).length cx),.eq (.slice Ay (dg Y).length cy),MPred.num L .i64 (X+Y),.eq (.slice Az (dg D).length cz),MPred.rat L .i64 (a+b)] (λ_ _=>False) (by kernel_rfl) (by kernel_rfl) (by kernel_rfl) (by kernel_rfl) ?_ (λ_ _ _ _ _ h=>h.elim) ?_
   ·simp only[List.take_succ_cons,List.take_zero];refine mSc ?_ (mSc ?_ (mSc ?_ (mSc ?_ (mSc ?_ (mSc ?_ (mSc ?_ (qAZ)))))))
    ·refine mSl rfl λx W c d Q hK _=>?_;simp only[fA]at hK ⊢;go_wp2;exact hK _ _ lrR rfl
    ·refine mSl rfl λx W c d Q hK _=>?_;obtain⟨f,-⟩:=d;change _=_ at f;have cc:=(Below.cell c (p:=⟨w.heap.size,0,none⟩) (by show w.heap.size<W1.heap.size;omega)).trans G;simp only[fA,f]at hK ⊢;go_wp2;exact hK _ _ lrR rfl
    ·refine mSl rfl λx W c d Q hK _=>?_;simp only[fA]at hK ⊢;go_wp2;exact hK _ _ lrR rfl
    ·refine mSl rfl λx W c d Q hK _=>?_;simp only[fA]at hK ⊢;go_wp2;exact hK _ _ lrR rfl
    ·refine mSl rfl λx W c d Q hK _=>?_;obtain⟨f,g,-⟩:=d;change _=_ at f g;simp only[fA,f,g]at hK ⊢;go_wp2_with (fail);go_at_call 85;refine(qKH L X Y _ _ W (j.out.le c) (y.out.le c) (z.out.le c) (by omega) (by omega)).mono ?_;rintro e w' ⟨v',rfl,q,E⟩;obtain⟨A9,c9,rfl⟩:=E.slice;go_wp2;exact hK _ _ q E
    ·refine mSl rfl λx W c d Q hK _=>?_;simp only[fA]at hK ⊢;go_wp2;exact hK _ _ lrR rfl
    ·refine mSl rfl λx W c d Q hK _=>?_;obtain⟨f,g,r,-⟩:=d;change _=_ at f r;replace g:NumL L .i64 W (x 4) (X+Y):=g;simp only[fA,f,r]at hK ⊢;go_wp2_with (fail);go_at_call 84;refine(qCK L sa (X+Y) D _ _ W (j.out.le c) g (ad.out.le c) ak.out (by have:=au.out;have:=av.out;have:=aw.out;omega) (by omega)).mono ?_;rintro e w' ⟨v',rfl,q,l⟩;rw[aa.out]at l;obtain⟨A1,c1,A2,c2,rfl,-,-⟩:=l.form;go_wp2;exact hK _ _ q l
   ·intro x W2 c d Q' S _;have f:=d 0 (by decide);have g:=d 1 (by decide);have r:=d 2 (by decide);have O:=d 3 (by decide);have P:=d 5 (by decide);have s:RatL L .i64 W2 (x 6) (a+b):=d 6 (by decide);change _=_ at f g r O P;obtain⟨A1,c1,A2,c2,t,l,y4⟩:=s.form;have i:=(Below.block c (w.heap.size+1+1) (by omega)).trans F.out;obtain⟨z0,z1,z2,g0,g1,g2⟩:=qAB i;simp only[List.drop_succ_cons,List.drop_zero];rw[show List.range 7=[0,1,2,3,4,5,6]from rfl];simp only[fA,f,g,r,O,P,t];generalize x 4=x4;clear f g r O P d;have o:=λu0 u1 u2=>qAb (u0:=u0) (u1:=u1) (u2:=u2) (Le.trans m.out c) (show w.heap.size<=w.heap.size+1+1 by omega);have H:=λu0 u1 u2=>qAB (qAR (u0:=u0) (u1:=u1) (u2:=u2) i);have n:=λu0 u1 u2=>And.intro (NumL.box3 (u0:=u0) (u1:=u1) (u2:=u2) l i) (NumL.box3 (u0:=u0) (u1:=u1) (u2:=u2) y4 i);obtain⟨sr,C⟩:∃sr,rneg (a+b)=sr:=⟨_,rfl⟩;rw[C];have⟨B,I,k,Z,aU,b1,a8,a7⟩:=hyd8 o H n i l y4 t s;have⟨aJ,M⟩:=hyd2 c C;clear C c s t y4 l i n H o;go_wp2;refine S _ _ ?_;go_wp2;obtain⟨d0,d1,d2,-⟩:=I.out (.bool sr) (.slice A1 (dg (rnum (a+b))).length c1) (.slice A2 (dg (a+b).den).length c2);refine bodyPost_ret (v:= .agg #[.bool sr,.slice A1 (dg (rnum (a+b))).length c1,.slice A2 (dg (a+b).den).length c2]) (by simp[results,Try.results55,go_sem,d0,d1,d2]) rfl ⟨_,rfl,B.out _ _ _,?_⟩
    exact⟨_,_,by rw[M.out],(k.out _ _ _).1,(k.out _ _ _).2⟩
  ·have b0:(sa==sb)=false:=by simpa using hs
   have an:=a5.out hs;have⟨bM,aa⟩:=hyd2 hs an;clear an hs;go_wp2_with (fail);go_at_call 76;refine(qDZ L L X Y _ _ W1 y.out z.out).mono ?_;rintro e W3 ⟨rfl,aT,rfl⟩;have l:Le W1 (W1.drewN aT):=Le.quiet aT;obtain⟨ay,A⟩:∃ay,ordI X Y=ay:=⟨_,rfl⟩;rw[A];generalize W1.drewN aT=W3 at*;have G:=(Below.cell l (p:=⟨w.heap.size,0,none⟩) (by show w.heap.size<W1.heap.size;omega)).trans G;have N:=(Below.cell l (p:=⟨w.heap.size+1,0,none⟩) (by show w.heap.size+1<W1.heap.size;omega)).trans N;have bf:=(Below.block l (w.heap.size+1+1) (by omega)).trans F.out;have ap:=Le.trans m.out l;have aB:=a3.out.le ap;have bl:=y.out.le l;have bp:=z.out.le l;have bh:=ad.out.le l;have cs:=Below.size l;clear ad F m j y z;have⟨ad,F,m,j,y,z⟩:=hyd6 bh bf ap aB bl bp;clear bh bf ap aB bl bp;have aU:=hyd1 l;clear l
   by_cases ac:X<Y
   ·have bL:¬0<=ay:=by rw[<-A,qDE];omega
    have al:mkR sb (Y - X) D=a+b:=by have:=aa.out;rw[if_pos ac]at this;exact this
    have ar:=hyd1 ac;clear ac;have⟨am,aL⟩:=hyd2 al A;clear A al;go_wp2;refine qAU (R:=leRel) 7 [some 46,some 47,some 48,some 49,some 50,some 51,some 52,none] [[],[0],[],[],[2,3],[],[1,4,5],[6]]
     [.eq (.pointer (some ⟨w.heap.size+1,0,none⟩)),.eq (.bool sb),.eq (.slice Ay (dg Y).length cy),.eq (.slice Ax (dg X).length cx),MPred.num L .i64 (Y - X),.eq (.slice Az (dg D).length cz),MPred.rat L .i64 (a+b)] (λ_ _=>False) (by kernel_rfl) (by kernel_rfl) (by kernel_rfl) (by kernel_rfl) ?_ (λ_ _ _ _ _ h=>h.elim) ?_
    ·simp only[List.take_succ_cons,List.take_zero];refine mSc ?_ (mSc ?_ (mSc ?_ (mSc ?_ (mSc ?_ (mSc ?_ (mSc ?_ (qAZ)))))))
     ·refine mSl rfl λx W c d Q hK _=>?_;simp only[fA]at hK ⊢;go_wp2;exact hK _ _ lrR rfl
     ·refine mSl rfl λx W c d Q hK _=>?_;obtain⟨f,-⟩:=d;change _=_ at f;have cc:=(Below.cell c (p:=⟨w.heap.size+1,0,none⟩) (by show w.heap.size+1<W3.heap.size;omega)).trans N;simp only[fA,f]at hK ⊢;go_wp2;exact hK _ _ lrR rfl
     ·refine mSl rfl λx W c d Q hK _=>?_;simp only[fA]at hK ⊢;go_wp2;exact hK _ _ lrR rfl
     ·refine mSl rfl λx W c d Q hK _=>?_;simp only[fA]at hK ⊢;go_wp2;exact hK _ _ lrR rfl
     ·refine mSl rfl λx W c d Q hK _=>?_;obtain⟨f,g,-⟩:=d;change _=_ at f g;simp only[fA,f,g]at hK ⊢;go_wp2_with (fail);go_at_call 86;refine(qGS L Y X _ _ W (j.out.le c) (z.out.le c) (y.out.le c) (Nat.le_of_lt ar.out) (by omega)).mono ?_;rintro e w' ⟨v',rfl,q,E⟩;obtain⟨A9,c9,rfl⟩:=E.slice;go_wp2;exact hK _ _ q E
     ·refine mSl rfl λx W c d Q hK _=>?_;simp only[fA]at hK ⊢;go_wp2;exact hK _ _ lrR rfl
     ·refine mSl rfl λx W c d Q hK _=>?_;obtain⟨f,g,r,-⟩:=d;change _=_ at f r;replace g:NumL L .i64 W (x 4) (Y - X):=g;simp only[fA,f,r]at hK ⊢;go_wp2_with (fail);go_at_call 84;refine(qCK L sb (Y - X) D _ _ W (j.out.le c) g (ad.out.le c) ak.out (by have:=au.out;have:=av.out;have:=aw.out;omega) (by omega)).mono ?_;rintro e w' ⟨v',rfl,q,l⟩;rw[am.out]at l;obtain⟨A1,c1,A2,c2,rfl,-,-⟩:=l.form;go_wp2;exact hK _ _ q l
    ·intro x W2 c d Q' S _;have f:=d 0 (by decide);have g:=d 1 (by decide);have r:=d 2 (by decide);have O:=d 3 (by decide);have P:=d 5 (by decide);have s:RatL L .i64 W2 (x 6) (a+b):=d 6 (by decide);change _=_ at f g r O P;obtain⟨A1,c1,A2,c2,t,l,y4⟩:=s.form;have i:=(Below.block c (w.heap.size+1+1) (by omega)).trans F.out;obtain⟨z0,z1,z2,g0,g1,g2⟩:=qAB i;simp only[List.drop_succ_cons,List.drop_zero];rw[show List.range 7=[0,1,2,3,4,5,6]from rfl];simp only[fA,f,g,r,O,P,t];generalize x 4=x4;clear f g r O P d;have o:=λu0 u1 u2=>qAb (u0:=u0) (u1:=u1) (u2:=u2) (Le.trans m.out c) (show w.heap.size<=w.heap.size+1+1 by omega);have H:=λu0 u1 u2=>qAB (qAR (u0:=u0) (u1:=u1) (u2:=u2) i);have n:=λu0 u1 u2=>And.intro (NumL.box3 (u0:=u0) (u1:=u1) (u2:=u2) l i) (NumL.box3 (u0:=u0) (u1:=u1) (u2:=u2) y4 i);obtain⟨sr,C⟩:∃sr,rneg (a+b)=sr:=⟨_,rfl⟩;rw[C];have⟨B,I,k,Z,aU,b1,a8,a7⟩:=hyd8 o H n i l y4 t s;have⟨aJ,M⟩:=hyd2 c C;clear C c s t y4 l i n H o;go_wp2;refine S _ _ ?_;go_wp2;obtain⟨d0,d1,d2,-⟩:=I.out (.bool sr) (.slice A1 (dg (rnum (a+b))).length c1) (.slice A2 (dg (a+b).den).length c2);refine bodyPost_ret (v:= .agg #[.bool sr,.slice A1 (dg (rnum (a+b))).length c1,.slice A2 (dg (a+b).den).length c2]) (by simp[results,Try.results55,go_sem,d0,d1,d2]) rfl ⟨_,rfl,B.out _ _ _,?_⟩
     exact⟨_,_,by rw[M.out],(k.out _ _ _).1,(k.out _ _ _).2⟩
   ·have bL:0<=ay:=by rw[<-A,qDE];omega
    have al:mkR sa (X - Y) D=a+b:=by have:=aa.out;rw[if_neg ac]at this;exact this
    have ar:=hyd1 ac;clear ac;have⟨am,aL⟩:=hyd2 al A;clear A al;go_wp2;refine qAU (R:=leRel) 7 [some 39,some 40,some 41,some 42,some 43,some 44,some 45,none] [[],[0],[],[],[2,3],[],[1,4,5],[6]]
     [.eq (.pointer (some ⟨w.heap.size,0,none⟩)),.eq (.bool sa),.eq (.slice Ax (dg X).length cx),.eq (.slice Ay (dg Y).length cy),MPred.num L .i64 (X - Y),.eq (.slice Az (dg D).length cz),MPred.rat L .i64 (a+b)] (λ_ _=>False) (by kernel_rfl) (by kernel_rfl) (by kernel_rfl) (by kernel_rfl) ?_ (λ_ _ _ _ _ h=>h.elim) ?_
    ·simp only[List.take_succ_cons,List.take_zero];refine mSc ?_ (mSc ?_ (mSc ?_ (mSc ?_ (mSc ?_ (mSc ?_ (mSc ?_ (qAZ)))))))
     ·refine mSl rfl λx W c d Q hK _=>?_;simp only[fA]at hK ⊢;go_wp2;exact hK _ _ lrR rfl
     ·refine mSl rfl λx W c d Q hK _=>?_;obtain⟨f,-⟩:=d;change _=_ at f;have cc:=(Below.cell c (p:=⟨w.heap.size,0,none⟩) (by show w.heap.size<W3.heap.size;omega)).trans G;simp only[fA,f]at hK ⊢;go_wp2;exact hK _ _ lrR rfl
     ·refine mSl rfl λx W c d Q hK _=>?_;simp only[fA]at hK ⊢;go_wp2;exact hK _ _ lrR rfl
     ·refine mSl rfl λx W c d Q hK _=>?_;simp only[fA]at hK ⊢;go_wp2;exact hK _ _ lrR rfl
     ·refine mSl rfl λx W c d Q hK _=>?_;obtain⟨f,g,-⟩:=d;change _=_ at f g;simp only[fA,f,g]at hK ⊢;go_wp2_with (fail);go_at_call 86;refine(qGS L X Y _ _ W (j.out.le c) (y.out.le c) (z.out.le c) (Nat.le_of_not_lt ar.out) (by omega)).mono ?_;rintro e w' ⟨v',rfl,q,E⟩;obtain⟨A9,c9,rfl⟩:=E.slice;go_wp2;exact hK _ _ q E
     ·refine mSl rfl λx W c d Q hK _=>?_;simp only[fA]at hK ⊢;go_wp2;exact hK _ _ lrR rfl
     ·refine mSl rfl λx W c d Q hK _=>?_;obtain⟨f,g,r,-⟩:=d;change _=_ at f r;replace g:NumL L .i64 W (x 4) (X - Y):=g;simp only[fA,f,r]at hK ⊢;go_wp2_with (fail);go_at_call 84;refine(qCK L sa (X - Y) D _ _ W (j.out.le c) g (ad.out.le c) ak.out (by have:=au.out;have:=av.out;have:=aw.out;omega) (by omega)).mono ?_;rintro e w' ⟨v',rfl,q,l⟩;rw[am.out]at l;obtain⟨A1,c1,A2,c2,rfl,-,-⟩:=l.form;go_wp2;exact hK _ _ q l
    ·intro x W2 c d Q' S _;have f:=d 0 (by decide);have g:=d 1 (by decide);have r:=d 2 (by decide);have O:=d 3 (by decide);have P:=d 5 (by decide);have s:RatL L .i64 W2 (x 6) (a+b):=d 6 (by decide);change _=_ at f g r O P;obtain⟨A1,c1,A2,c2,t,l,y4⟩:=s.form;have i:=(Below.block c (w.heap.size+1+1) (by omega)).trans F.out;obtain⟨z0,z1,z2,g0,g1,g2⟩:=qAB i;simp only[List.drop_succ_cons,List.drop_zero];rw[show List.range 7=[0,1,2,3,4,5,6]from rfl];simp only[fA,f,g,r,O,P,t];generalize x 4=x4;clear f g r O P d;have o:=λu0 u1 u2=>qAb (u0:=u0) (u1:=u1) (u2:=u2) (Le.trans m.out c) (show w.heap.size<=w.heap.size+1+1 by omega);have H:=λu0 u1 u2=>qAB (qAR (u0:=u0) (u1:=u1) (u2:=u2) i);have n:=λu0 u1 u2=>And.intro (NumL.box3 (u0:=u0) (u1:=u1) (u2:=u2) l i) (NumL.box3 (u0:=u0) (u1:=u1) (u2:=u2) y4 i);obtain⟨sr,C⟩:∃sr,rneg (a+b)=sr:=⟨_,rfl⟩;rw[C];have⟨B,I,k,Z,aU,b1,a8,a7⟩:=hyd8 o H n i l y4 t s;have⟨aJ,M⟩:=hyd2 c C;clear C c s t y4 l i n H o;go_wp2;refine S _ _ ?_;go_wp2;obtain⟨d0,d1,d2,-⟩:=I.out (.bool sr) (.slice A1 (dg (rnum (a+b))).length c1) (.slice A2 (dg (a+b).den).length c2);refine bodyPost_ret (v:= .agg #[.bool sr,.slice A1 (dg (rnum (a+b))).length c1,.slice A2 (dg (a+b).den).length c2]) (by simp[results,Try.results55,go_sem,d0,d1,d2]) rfl ⟨_,rfl,B.out _ _ _,?_⟩
     exact⟨_,_,by rw[M.out],(k.out _ _ _).1,(k.out _ _ _).2⟩
theorem qE0 (L:Nat->Prop) (a b:Rat) (va vb:Value) (w:World) (hL:Up w L) (ha:RatL L .i64 w va a) (hb:RatL L .i64 w vb b) (hma:Rsz a 5000000) (hmb:Rsz b 5000000):
  Calls Try.prog 87 #[va,vb] w λe w'=>∃v',e= .returned v'/\Le w w'/\RatL L .i64 w' v' (a*b):=by
 obtain⟨An,cn,Ad,cd,rfl,T,P⟩:=ha.form;obtain⟨Bn,dn,Bd,dd,rfl,aa,Y⟩:=hb.form;obtain⟨aW,aX⟩:=hma;obtain⟨aY,aZ⟩:=hmb;have ae:=qAK (rnum a) (rnum b);have ag:=qAK (a.den) (b.den);have ac:(a.den)*(b.den)≠0:=Nat.ne_of_gt (Nat.mul_pos (qA3 a) (qA3 b));obtain⟨J,G⟩:∃J,rneg a=J:=⟨_,rfl⟩;obtain⟨M,H⟩:∃M,rneg b=M:=⟨_,rfl⟩;have q:=qGf a b;rw[G,H]at*;have⟨a5,aT,aU,U,S,ab,Z,aJ⟩:=hyd8 hL ha hb T P aa Y G;have⟨aK,af,ah,ad,D⟩:=hyd5 H ae ag ac q;clear q ac ag ae H G Y aa P T hb ha hL;go_enter Try.func87,Try.ntmps87;go_wp2;obtain⟨W0,O,aV,E,h0,h1,h2⟩:=qCa w (.cells #[.bool J,.slice An (dg (rnum a)).length cn,.slice Ad (dg a.den).length cd] 63) (.cells #[.bool M,.slice Bn (dg (rnum b)).length dn,.slice Bd (dg b.den).length dd] 63) (.cells #[.bool false,.slice none 0 0,.slice none 0 0] 63);rw[O];clear O;obtain⟨ao,ap,aq,-⟩:=qAB h0;obtain⟨ar,au,av,-⟩:=qAB h1;have o:=a5.out.le E;have⟨aQ,aR,a4,g,j⟩:=hyd5 h0 h1 h2 E o;clear o E h2 h1 h0;refine qAU (R:=leRel) 16 [some 5,some 6,some 7,some 8,some 9,some 10,some 11,some 12,some 13,some 14,some 15,some 16,some 17,some 18,some 19,some 20,none] [[],[0],[],[2],[1,3],[],[5],[],[7],[6,8],[],[10],[],[12],[11,13],[4,9,14],[15]]
  [.eq (.pointer (some ⟨w.heap.size,0,none⟩)),.eq (.bool J),.eq (.pointer (some ⟨w.heap.size+1,0,none⟩)),.eq (.bool M),.eq (.bool (J != M)),.eq (.pointer (some ⟨w.heap.size,1,none⟩)),.eq (.slice An (dg (rnum a)).length cn),.eq (.pointer (some ⟨w.heap.size+1,1,none⟩)),.eq (.slice Bn (dg (rnum b)).length dn),MPred.num L .i64 (rnum a*rnum b),
   .eq (.pointer (some ⟨w.heap.size,2,none⟩)),.eq (.slice Ad (dg a.den).length cd),.eq (.pointer (some ⟨w.heap.size+1,2,none⟩)),.eq (.slice Bd (dg b.den).length dd),MPred.num L .i64 (a.den*b.den),MPred.rat L .i64 (a*b)] (λ_ _=>False) (by kernel_rfl) (by kernel_rfl) (by kernel_rfl) (by kernel_rfl) ?_ (λ_ _ _ _ _ h=>h.elim) ?_
 ·simp only[List.take_succ_cons,List.take_zero];refine mSc ?_ (mSc ?_ (mSc ?_ (mSc ?_ (mSc ?_ (mSc ?_ (mSc ?_ (mSc ?_ (mSc ?_ (mSc ?_ (mSc ?_ (mSc ?_ (mSc ?_ (mSc ?_ (mSc ?_ (mSc ?_ (qAZ))))))))))))))))
  ·refine mSl rfl λx W f c Q hK _=>?_;simp only[fA]at hK ⊢;go_wp2;exact hK _ _ lrR rfl
  ·refine mSl rfl λx W f c Q hK _=>?_;obtain⟨d,-⟩:=c;change _=_ at d;have N:=bcl f (by omega) ao;simp only[fA,d]at hK ⊢;go_wp2;exact hK _ _ lrR rfl
  ·refine mSl rfl λx W f c Q hK _=>?_;simp only[fA]at hK ⊢;go_wp2;exact hK _ _ lrR rfl
  ·refine mSl rfl λx W f c Q hK _=>?_;obtain⟨d,-⟩:=c;change _=_ at d;have N:=bcl f (by omega) ar;simp only[fA,d]at hK ⊢;go_wp2;exact hK _ _ lrR rfl
  ·refine mSl rfl λx W f c Q hK _=>?_;obtain⟨d,i,-⟩:=c;change _=_ at d i;simp only[fA,d,i]at hK ⊢;go_wp2;exact hK _ _ lrR rfl
  ·refine mSl rfl λx W f c Q hK _=>?_;simp only[fA]at hK ⊢;go_wp2;exact hK _ _ lrR rfl
  ·refine mSl rfl λx W f c Q hK _=>?_;obtain⟨d,-⟩:=c;change _=_ at d;have N:=bcl f (by omega) ap;simp only[fA,d]at hK ⊢;go_wp2;exact hK _ _ lrR rfl
  ·refine mSl rfl λx W f c Q hK _=>?_;simp only[fA]at hK ⊢;go_wp2;exact hK _ _ lrR rfl
  ·refine mSl rfl λx W f c Q hK _=>?_;obtain⟨d,-⟩:=c;change _=_ at d;have N:=bcl f (by omega) au;simp only[fA,d]at hK ⊢;go_wp2;exact hK _ _ lrR rfl
  ·refine mSl rfl λx W f c Q hK _=>?_;obtain⟨d,i,-⟩:=c;change _=_ at d i;simp only[fA,d,i]at hK ⊢;go_wp2_with (fail);go_at_call 83;refine(qBp L (rnum a) (rnum b) _ _ W (j.out.le f) ((U.out.le g.out).le f) ((ab.out.le g.out).le f) (by omega) (by omega)).mono ?_;rintro e w' ⟨v',rfl,n,l⟩;obtain⟨A9,c9,rfl⟩:=l.slice;go_wp2;exact hK _ _ n l
  ·refine mSl rfl λx W f c Q hK _=>?_;simp only[fA]at hK ⊢;go_wp2;exact hK _ _ lrR rfl
  ·refine mSl rfl λx W f c Q hK _=>?_;obtain⟨d,-⟩:=c;change _=_ at d;have N:=bcl f (by omega) aq;simp only[fA,d]at hK ⊢;go_wp2;exact hK _ _ lrR rfl
  ·refine mSl rfl λx W f c Q hK _=>?_;simp only[fA]at hK ⊢;go_wp2;exact hK _ _ lrR rfl
  ·refine mSl rfl λx W f c Q hK _=>?_;obtain⟨d,-⟩:=c;change _=_ at d;have N:=bcl f (by omega) av;simp only[fA,d]at hK ⊢;go_wp2;exact hK _ _ lrR rfl
  ·refine mSl rfl λx W f c Q hK _=>?_;obtain⟨d,i,-⟩:=c;change _=_ at d i;simp only[fA,d,i]at hK ⊢;go_wp2_with (fail);go_at_call 83;refine(qBp L (a.den) (b.den) _ _ W (j.out.le f) ((S.out.le g.out).le f) ((Z.out.le g.out).le f) (by omega) (by omega)).mono ?_;rintro e w' ⟨v',rfl,n,l⟩;obtain⟨A9,c9,rfl⟩:=l.slice;go_wp2;exact hK _ _ n l
  ·refine mSl rfl λx W f c Q hK _=>?_;obtain⟨d,i,C,-⟩:=c;change _=_ at d;replace i:NumL L .i64 W (x 9) (rnum a*rnum b):=i;replace C:NumL L .i64 W (x 14) (a.den*b.den):=C;simp only[fA,d]at hK ⊢;go_wp2_with (fail);go_at_call 84;refine(qCK L (J != M) (rnum a*rnum b) (a.den*b.den) _ _ W (j.out.le f) i C ad.out (by have:=af.out;omega) (by have:=ah.out;omega)).mono ?_;rintro e w' ⟨v',rfl,n,l⟩;rw[D.out]at l;obtain⟨A1,c1,A2,c2,rfl,-,-⟩:=l.form;go_wp2;exact hK _ _ n l
 ·intro x W f c Q' a6 _;have d:=c 0 (by decide);have i:=c 1 (by decide);have C:=c 2 (by decide);have e3:=c 3 (by decide);have e4:=c 4 (by decide);have e5:=c 5 (by decide);have e6:=c 6 (by decide);have e7:=c 7 (by decide);have e8:=c 8 (by decide);have s:=c 10 (by decide);have t:=c 11 (by decide);have y:=c 12 (by decide);have z:=c 13 (by decide);have A:RatL L .i64 W (x 15) (a*b):=c 15 (by decide);change _=_ at d i C e3 e4 e5 e6 e7 e8 s t y z;obtain⟨A1,c1,A2,c2,B,n,l⟩:=A.form;have k:=(Below.block f (w.heap.size+1+1) (by omega)).trans a4.out;obtain⟨z0,z1,z2,g0,g1,g2⟩:=qAB k;simp only[List.drop_succ_cons,List.drop_zero];rw[show List.range 16=[0,1,2,3,4,5,6,7,8,9,10,11,12,13,14,15]from rfl];simp only[fA,d,i,C,e3,e4,e5,e6,e7,e8,s,t,y,z,B];generalize x 9=x9;generalize x 14=x14;clear d i C e3 e4 e5 e6 e7 e8 s t y z c;have r:=λu0 u1 u2=>qAb (u0:=u0) (u1:=u1) (u2:=u2) (Le.trans g.out f) (show w.heap.size<=w.heap.size+1+1 by omega);have V:=λu0 u1 u2=>qAB (qAR (u0:=u0) (u1:=u1) (u2:=u2) k);have p:=λu0 u1 u2=>And.intro (NumL.box3 (u0:=u0) (u1:=u1) (u2:=u2) n k) (NumL.box3 (u0:=u0) (u1:=u1) (u2:=u2) l k);obtain⟨sr,I⟩:∃sr,rneg (a*b)=sr:=⟨_,rfl⟩;rw[I];have⟨F,X,m,aI,ba,bb,aG,aF⟩:=hyd8 r V p k n l B A
  have⟨aS,ai⟩:=hyd2 f I;clear I f A B l n k p V r;go_wp2;refine a6 _ _ ?_;go_wp2;obtain⟨d0,d1,d2,-⟩:=X.out (.bool sr) (.slice A1 (dg (rnum (a*b))).length c1) (.slice A2 (dg (a*b).den).length c2);refine bodyPost_ret (v:= .agg #[.bool sr,.slice A1 (dg (rnum (a*b))).length c1,.slice A2 (dg (a*b).den).length c2]) (by simp[results,Try.results87,go_sem,d0,d1,d2]) rfl ⟨_,rfl,F.out _ _ _,?_⟩;exact⟨_,_,by rw[ai.out],(m.out _ _ _).1,(m.out _ _ _).2⟩
theorem qEv (L:Nat->Prop) (a b:Rat) (va vb:Value) (w:World) (hL:Up w L) (ha:RatL L .i64 w va a) (hb:RatL L .i64 w vb b) (hma:Rsz a 5000000) (hmb:Rsz b 5000000) (hb0:b≠0):
  Calls Try.prog 58 #[va,vb] w λe w'=>∃v',e= .returned v'/\Le w w'/\RatL L .i64 w' v' (a / b):=by
 obtain⟨An,cn,Ad,cd,rfl,T,P⟩:=ha.form;obtain⟨Bn,dn,Bd,dd,rfl,aa,Y⟩:=hb.form;obtain⟨aW,aX⟩:=hma;obtain⟨aY,aZ⟩:=hmb;have ae:=qAK (rnum a) (b.den);have ag:=qAK (a.den) (rnum b);have ac:(a.den)*(rnum b)≠0:=Nat.ne_of_gt (Nat.mul_pos (qA3 a) (Nat.pos_of_ne_zero λh=>hb0 (rnum_zero.1 h)));obtain⟨J,G⟩:∃J,rneg a=J:=⟨_,rfl⟩;obtain⟨M,H⟩:∃M,rneg b=M:=⟨_,rfl⟩;have q:=qGg (a:=a) hb0;rw[G,H]at*;have⟨a5,aT,aU,U,S,ab,Z,aJ⟩:=hyd8 hL ha hb T P aa Y G;have⟨aK,af,ah,ad,D⟩:=hyd5 H ae ag ac q;clear q ac ag ae H G Y aa P T hb ha hL;go_enter Try.func58,Try.ntmps58;go_wp2;obtain⟨W0,O,aV,E,h0,h1,h2⟩:=qCa w (.cells #[.bool J,.slice An (dg (rnum a)).length cn,.slice Ad (dg a.den).length cd] 63) (.cells #[.bool M,.slice Bn (dg (rnum b)).length dn,.slice Bd (dg b.den).length dd] 63) (.cells #[.bool false,.slice none 0 0,.slice none 0 0] 63);rw[O];clear O;obtain⟨ao,ap,aq,-⟩:=qAB h0;obtain⟨ar,au,av,-⟩:=qAB h1;have o:=a5.out.le E;have⟨aQ,aR,a4,g,j⟩:=hyd5 h0 h1 h2 E o;clear o E h2 h1 h0;refine qAU (R:=leRel) 16 [some 5,some 6,some 7,some 8,some 9,some 10,some 11,some 12,some 13,some 14,some 15,some 16,some 17,some 18,some 19,some 20,none] [[],[0],[],[2],[1,3],[],[5],[],[7],[6,8],[],[10],[],[12],[11,13],[4,9,14],[15]]
  [.eq (.pointer (some ⟨w.heap.size,0,none⟩)),.eq (.bool J),.eq (.pointer (some ⟨w.heap.size+1,0,none⟩)),.eq (.bool M),.eq (.bool (J != M)),.eq (.pointer (some ⟨w.heap.size,1,none⟩)),.eq (.slice An (dg (rnum a)).length cn),.eq (.pointer (some ⟨w.heap.size+1,2,none⟩)),.eq (.slice Bd (dg b.den).length dd),MPred.num L .i64 (rnum a*b.den),
   .eq (.pointer (some ⟨w.heap.size,2,none⟩)),.eq (.slice Ad (dg a.den).length cd),.eq (.pointer (some ⟨w.heap.size+1,1,none⟩)),.eq (.slice Bn (dg (rnum b)).length dn),MPred.num L .i64 (a.den*rnum b),MPred.rat L .i64 (a / b)] (λ_ _=>False) (by kernel_rfl) (by kernel_rfl) (by kernel_rfl) (by kernel_rfl) ?_ (λ_ _ _ _ _ h=>h.elim) ?_
 ·simp only[List.take_succ_cons,List.take_zero];refine mSc ?_ (mSc ?_ (mSc ?_ (mSc ?_ (mSc ?_ (mSc ?_ (mSc ?_ (mSc ?_ (mSc ?_ (mSc ?_ (mSc ?_ (mSc ?_ (mSc ?_ (mSc ?_ (mSc ?_ (mSc ?_ (qAZ))))))))))))))))
  ·refine mSl rfl λx W f c Q hK _=>?_;simp only[fA]at hK ⊢;go_wp2;exact hK _ _ lrR rfl
  ·refine mSl rfl λx W f c Q hK _=>?_;obtain⟨d,-⟩:=c;change _=_ at d;have N:=bcl f (by omega) ao;simp only[fA,d]at hK ⊢;go_wp2;exact hK _ _ lrR rfl
  ·refine mSl rfl λx W f c Q hK _=>?_;simp only[fA]at hK ⊢;go_wp2;exact hK _ _ lrR rfl
  ·refine mSl rfl λx W f c Q hK _=>?_;obtain⟨d,-⟩:=c;change _=_ at d;have N:=bcl f (by omega) ar;simp only[fA,d]at hK ⊢;go_wp2;exact hK _ _ lrR rfl
  ·refine mSl rfl λx W f c Q hK _=>?_;obtain⟨d,i,-⟩:=c;change _=_ at d i;simp only[fA,d,i]at hK ⊢;go_wp2;exact hK _ _ lrR rfl
  ·refine mSl rfl λx W f c Q hK _=>?_;simp only[fA]at hK ⊢;go_wp2;exact hK _ _ lrR rfl
  ·refine mSl rfl λx W f c Q hK _=>?_;obtain⟨d,-⟩:=c;change _=_ at d;have N:=bcl f (by omega) ap;simp only[fA,d]at hK ⊢;go_wp2;exact hK _ _ lrR rfl
  ·refine mSl rfl λx W f c Q hK _=>?_;simp only[fA]at hK ⊢;go_wp2;exact hK _ _ lrR rfl
  ·refine mSl rfl λx W f c Q hK _=>?_;obtain⟨d,-⟩:=c;change _=_ at d;have N:=bcl f (by omega) av;simp only[fA,d]at hK ⊢;go_wp2;exact hK _ _ lrR rfl
  ·refine mSl rfl λx W f c Q hK _=>?_;obtain⟨d,i,-⟩:=c;change _=_ at d i;simp only[fA,d,i]at hK ⊢;go_wp2_with (fail);go_at_call 83;refine(qBp L (rnum a) (b.den) _ _ W (j.out.le f) ((U.out.le g.out).le f) ((Z.out.le g.out).le f) (by omega) (by omega)).mono ?_;rintro e w' ⟨v',rfl,n,l⟩;obtain⟨A9,c9,rfl⟩:=l.slice;go_wp2;exact hK _ _ n l
  ·refine mSl rfl λx W f c Q hK _=>?_;simp only[fA]at hK ⊢;go_wp2;exact hK _ _ lrR rfl
  ·refine mSl rfl λx W f c Q hK _=>?_;obtain⟨d,-⟩:=c;change _=_ at d;have N:=bcl f (by omega) aq;simp only[fA,d]at hK ⊢;go_wp2;exact hK _ _ lrR rfl
  ·refine mSl rfl λx W f c Q hK _=>?_;simp only[fA]at hK ⊢;go_wp2;exact hK _ _ lrR rfl
  ·refine mSl rfl λx W f c Q hK _=>?_;obtain⟨d,-⟩:=c;change _=_ at d;have N:=bcl f (by omega) au;simp only[fA,d]at hK ⊢;go_wp2;exact hK _ _ lrR rfl
  ·refine mSl rfl λx W f c Q hK _=>?_;obtain⟨d,i,-⟩:=c;change _=_ at d i;simp only[fA,d,i]at hK ⊢;go_wp2_with (fail);go_at_call 83;refine(qBp L (a.den) (rnum b) _ _ W (j.out.le f) ((S.out.le g.out).le f) ((ab.out.le g.out).le f) (by omega) (by omega)).mono ?_;rintro e w' ⟨v',rfl,n,l⟩;obtain⟨A9,c9,rfl⟩:=l.slice;go_wp2;exact hK _ _ n l
  ·refine mSl rfl λx W f c Q hK _=>?_;obtain⟨d,i,C,-⟩:=c;change _=_ at d;replace i:NumL L .i64 W (x 9) (rnum a*b.den):=i;replace C:NumL L .i64 W (x 14) (a.den*rnum b):=C;simp only[fA,d]at hK ⊢;go_wp2_with (fail);go_at_call 84;refine(qCK L (J != M) (rnum a*b.den) (a.den*rnum b) _ _ W (j.out.le f) i C ad.out (by have:=af.out;omega) (by have:=ah.out;omega)).mono ?_;rintro e w' ⟨v',rfl,n,l⟩;rw[D.out]at l;obtain⟨A1,c1,A2,c2,rfl,-,-⟩:=l.form;go_wp2;exact hK _ _ n l
 ·intro x W f c Q' a6 _;have d:=c 0 (by decide);have i:=c 1 (by decide);have C:=c 2 (by decide);have e3:=c 3 (by decide);have e4:=c 4 (by decide);have e5:=c 5 (by decide);have e6:=c 6 (by decide);have e7:=c 7 (by decide);have e8:=c 8 (by decide);have s:=c 10 (by decide);have t:=c 11 (by decide);have y:=c 12 (by decide);have z:=c 13 (by decide);have A:RatL L .i64 W (x 15) (a / b):=c 15 (by decide);change _=_ at d i C e3 e4 e5 e6 e7 e8 s t y z;obtain⟨A1,c1,A2,c2,B,n,l⟩:=A.form;have k:=(Below.block f (w.heap.size+1+1) (by omega)).trans a4.out;obtain⟨z0,z1,z2,g0,g1,g2⟩:=qAB k;simp only[List.drop_succ_cons,List.drop_zero];rw[show List.range 16=[0,1,2,3,4,5,6,7,8,9,10,11,12,13,14,15]from rfl];simp only[fA,d,i,C,e3,e4,e5,e6,e7,e8,s,t,y,z,B];generalize x 9=x9;generalize x 14=x14;clear d i C e3 e4 e5 e6 e7 e8 s t y z c;have r:=λu0 u1 u2=>qAb (u0:=u0) (u1:=u1) (u2:=u2) (Le.trans g.out f) (show w.heap.size<=w.heap.size+1+1 by omega);have V:=λu0 u1 u2=>qAB (qAR (u0:=u0) (u1:=u1) (u2:=u2) k);have p:=λu0 u1 u2=>And.intro (NumL.box3 (u0:=u0) (u1:=u1) (u2:=u2) n k) (NumL.box3 (u0:=u0) (u1:=u1) (u2:=u2) l k);obtain⟨sr,I⟩:∃sr,rneg (a / b)=sr:=⟨_,rfl⟩;rw[I];have⟨F,X,m,aI,ba,bb,aG,aF⟩:=hyd8 r V p k n l B A
  have⟨aS,ai⟩:=hyd2 f I;clear I f A B l n k p V r;go_wp2;refine a6 _ _ ?_;go_wp2;obtain⟨d0,d1,d2,-⟩:=X.out (.bool sr) (.slice A1 (dg (rnum (a / b))).length c1) (.slice A2 (dg (a / b).den).length c2);refine bodyPost_ret (v:= .agg #[.bool sr,.slice A1 (dg (rnum (a / b))).length c1,.slice A2 (dg (a / b).den).length c2]) (by simp[results,Try.results58,go_sem,d0,d1,d2]) rfl ⟨_,rfl,F.out _ _ _,?_⟩;exact⟨_,_,by rw[ai.out],(m.out _ _ _).1,(m.out _ _ _).2⟩
theorem qKI {L:Nat->Prop} {V:World} (hL:∀b,V.heap.size<=b->L b) (a b c:Nat) (t:TypeId):ArrL L (gv .i64) (V.alloc (.cells #[.int .i64 a,.int .i64 b,.int .i64 c] t)) (.slice (some ⟨V.heap.size,0,none⟩) 3 3) [a,b,c]:=by
 refine⟨some ⟨V.heap.size,0,none⟩,3,rfl,Nat.le_refl _,by unfold maxLen;omega,nofun,λ_=>⟨V.heap.size,0,rfl,hL _ (Nat.le_refl _),by unfold World.alloc;show V.heap.size<(V.heap.push _).size;rw[Array.size_push];omega,λj d=>?_⟩⟩;have f:(V.alloc (.cells #[.int .i64 a,.int .i64 b,.int .i64 c] t)).heap[V.heap.size]? =some (.cells #[.int .i64 a,.int .i64 b,.int .i64 c] t):=by unfold World.alloc;exact Array.getElem?_push_size
 rw[Nat.zero_add,cell_of_row _ _ _ _ t (0,0) f]
 match j,d with
 | 0,_=>rfl
 | 1,_=>rfl
 | 2,_=>rfl
theorem dg3 {N r0 r1 r2 q1:Nat} (h0:N%1000000000=r0) (h1:N / 1000000000=q1) (h2:q1%1000000000=r1) (h3:q1 / 1000000000=r2) (hN:N<=18446744073709551615):qAQ [r0,r1,r2]=dg N:=by
 have c:=qAM
 have d:Low [r0,r1,r2]:=λg b=>by
  simp at b
  rcases b with rfl|rfl|rfl<;>omega
 rw[qFd d]
 congr 1
 simp only[nv,c];omega
theorem qH8 (L:Nat->Prop) (z:Int) (w:World) (hL:Up w L) (hz0: -9223372036854775808<=z) (hz1:z<=9223372036854775807):
  Calls Try.prog 100 #[.int .i64 z] w λe w'=>∃v',e= .returned v'/\Le w w'/\NumL L .i64 w' v' z.natAbs:=by
 obtain⟨N,q⟩:∃N,z.natAbs=N:=⟨_,rfl⟩;rw[q];have B:N<=18446744073709551615:=by omega
 obtain⟨j,m⟩:∃j,N%1000000000=j:=⟨_,rfl⟩;obtain⟨g,n⟩:∃g,N / 1000000000=g:=⟨_,rfl⟩;obtain⟨k,o⟩:∃k,g%1000000000=k:=⟨_,rfl⟩;obtain⟨l,p⟩:∃l,g / 1000000000=l:=⟨_,rfl⟩;have r:=dg3 m n o p B;have E:j<1000000000:=by omega
 have F:k<1000000000:=by omega
 have G:l<1000000000:=by omega
 have I:(g:Int)<=18446744074:=by omega
 have H:(N:Int)<=18446744073709551615:=by omega
 have M:(N:Int)%1000000000=(j:Int):=by omega
 have O:(N:Int) / 1000000000=(g:Int):=by omega
 have P:(g:Int)%1000000000=(k:Int):=by omega
 have Q:(g:Int) / 1000000000=(l:Int):=by omega
 have c:=qKI (L:=L) (V:=w) hL j k l 3;have f:=qAA w (.cells #[.int .i64 j,.int .i64 k,.int .i64 l] 3)
 by_cases J:z<0
 ·have C: -(z+1)+1=(N:Int):=by omega
  have⟨y,A,s,t,v,x,h,b⟩:=hyd8 hL q m n o p r c;have d:=hyd1 f;clear f c r p o n m q hL;go_enter Try.func100,Try.ntmps100;go_wp2_with (first | (go_at_call 98;((with_reducible refine(qCz L _ _ _ b.out).mono ?_);rintro e w' ⟨D,rfl,rfl,i⟩)));go_ret;exact⟨_,rfl,d.out,by unfold NumL;rw[<-h.out];exact i⟩
 ·have C:z=(N:Int):=by omega
  subst C
  have R:IntKind.u64.wrap (N:Int)=(N:Int):=by
   have:=qLd (N:Int) (by omega) hz1;simpa using this
  have⟨y,A,s,t,v,x,h,b⟩:=hyd8 hL q m n o p r c;have d:=hyd1 f;clear f c r p o n m q hL;go_enter Try.func100,Try.ntmps100;go_wp2_with (first | (go_at_call 98;((with_reducible refine(qCz L _ _ _ b.out).mono ?_);rintro e w' ⟨D,rfl,rfl,i⟩)));go_ret;exact⟨_,rfl,d.out,by unfold NumL;rw[<-h.out];exact i⟩
theorem qHv {L:Nat->Prop} {w W:World} {z:Int} {N:Nat} {s:Bool} {t t2:TypeId} {A1:Option Addr} {c1:Nat} (hUp:Up w L) (hle:Le w W) (hlt:w.heap.size<W.heap.size)
  (hbx:W.heap[w.heap.size]? =some (.cells #[.bool false,.slice none 0 0,.slice none 0 0] t)) (hn:NumL L .i64 W (.slice A1 (dg N).length c1) N) (hN:z.natAbs=N) (hs:decide (z<0)=s):
  ∃X,(((W.setCell ⟨w.heap.size,0,none⟩ (.bool s)).setCell ⟨w.heap.size,1,none⟩ (.slice A1 (dg N).length c1)).setCell ⟨w.heap.size,2,none⟩ (.slice (some ⟨W.heap.size,0,none⟩) 1 1)).alloc (.cells #[.int .i64 1] t2)=X/\(X.cell? ⟨w.heap.size,0,none⟩=some (.bool s)/\X.cell? ⟨w.heap.size,1,none⟩=some (.slice A1 (dg N).length c1)/\X.cell? ⟨w.heap.size,2,none⟩=some (.slice (some ⟨W.heap.size,0,none⟩) 1 1))∧
   Le w X/\RatL L .i64 X (.agg #[.bool s,.slice A1 (dg N).length c1,.slice (some ⟨W.heap.size,0,none⟩) 1 1]) (z:Rat):=by
 have h:=qAb (u0:= .bool s) (u1:= .slice A1 (dg N).length c1) (u2:= .slice (some ⟨W.heap.size,0,none⟩) 1 1) hle (Nat.le_refl _);have i:=qAR (u0:= .bool s) (u1:= .slice A1 (dg N).length c1) (u2:= .slice (some ⟨W.heap.size,0,none⟩) 1 1) hbx;have j:=NumL.box3 (u0:= .bool s) (u1:= .slice A1 (dg N).length c1) (u2:= .slice (some ⟨W.heap.size,0,none⟩) 1 1) hn hbx;have k:(((W.setCell ⟨w.heap.size,0,none⟩ (.bool s)).setCell ⟨w.heap.size,1,none⟩ (.slice A1 (dg N).length c1)).setCell ⟨w.heap.size,2,none⟩ (.slice (some ⟨W.heap.size,0,none⟩) 1 1)).heap.size =W.heap.size:=by simp[World.setCell]
 generalize (((W.setCell ⟨w.heap.size,0,none⟩ (.bool s)).setCell ⟨w.heap.size,1,none⟩ (.slice A1 (dg N).length c1)).setCell ⟨w.heap.size,2,none⟩ (.slice (some ⟨W.heap.size,0,none⟩) 1 1))=V at*;refine⟨_,rfl,?_,h.trans (qAA _ _),?_⟩
 ·have l:=qAA V (.cells #[.int .i64 1] t2);obtain⟨c,d,f,-⟩:=qAB ((Below.block l w.heap.size (by omega)).trans i);exact⟨c,d,f⟩
 ·refine⟨_,_,by rw[show rneg (z:Rat)=s by rw[<-hs];rfl],?_,?_⟩
  ·rw[show rnum (z:Rat)=N by rw[<-hN];rfl];exact j.le (qAA _ _)
  ·rw[show(z:Rat).den =1 from rfl,<-k];exact qBX (g:=1) (λb m=>hUp b (by omega)) (by omega) qCb _
theorem qHw (L:Nat->Prop) (z:Int) (w:World) (hL:Up w L) (hz0: -9223372036854775808<=z) (hz1:z<=9223372036854775807):
  Calls Try.prog 88 #[.int .i64 z] w λe w'=>∃v',e= .returned v'/\Le w w'/\RatL L .i64 w' v' (z:Rat):=by
 obtain⟨s,l⟩:∃s,decide (z<0)=s:=⟨_,rfl⟩;have f:=hyd1 hL;clear hL;go_enter Try.func88,Try.ntmps88;go_wp2_with (fail);go_at_call 100;refine(qH8 L z _ (f.out.le (qAA _ _)) hz0 hz1).mono ?_;rintro e t ⟨G,rfl,b,d⟩;obtain⟨b,c⟩:=qCJ b;obtain⟨r,x,rfl⟩:=d.slice;have g:=f.out.le b;obtain⟨H,I,J,D,E,F⟩:=qAB c;have m:=(gsl c);obtain⟨X,o,⟨y,A,B⟩,i,h⟩:=qHv (s:=s) (t2:=3) f.out b m c d rfl l;have⟨k,q,n,p,C,j⟩:=hyd6 b d g c l o;clear o l c g d b;go_wp2;rw[j.out];exact bodyPost_ret (v:= .agg #[.bool s,.slice r (dg z.natAbs).length x,.slice (some ⟨t.heap.size,0,none⟩) 1 1]) (by simp[results,Try.results88,go_sem,y,A,B]) rfl ⟨_,rfl,i,h⟩
end Go.Proofs.Ytcoajjdhkhgfdaa

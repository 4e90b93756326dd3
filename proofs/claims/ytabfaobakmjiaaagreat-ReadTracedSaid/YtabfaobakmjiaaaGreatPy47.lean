/- motion.Points: the spots of a path. -/
import Derived.Test.YtabfaobakmjiaaaGreatPy46
namespace Go.Proofs.YtabfaobakmjiaaaGreat
set_option maxRecDepth 100000
set_option maxHeartbeats 2000000
open Go.RowKit Go.Shelf
set_option linter.unusedVariables false
set_option linter.unusedSimpArgs false
theorem qQ2 {w:World} {base e size n:Nat} {v:Value} {xs:List Value} (h:w.ownsRow base e size v n xs):∀(a:Addr) (m k:Nat),v= .slice (some a) m k->∃cs,w.heap[a.block]? =some (.cells cs e):=λa k c q=>by
 rcases h.2 with⟨rfl,-⟩| ⟨g,cap,cur,rfl,-,hg,-⟩
 ·cases q
 ·injection q with q1;injection q1 with q1;subst q1;exact⟨_,hg⟩
def qRY (res:Except Int (List (Int×Int))) (w:World) (e:Ending) (w':World):Prop:=Le w w'/\∃v c,e= .returned (.tuple #[v,.int .i64 c])/\match res with
 | .ok L=>SpotsV w' v L/\c=0/\∀(a:Addr) (n k:Nat),v= .slice (some a) n k->∃cs,w'.heap[a.block]? =some (.cells cs 41)
 | .error z=>v= .slice none 0 0/\c=z
theorem qQ3 {u:FracA×FracA} {s:G2} {a:ArmA} {z:Int} (h:armG u s a= .error z):z≠0:=by
 obtain⟨k,c⟩:=a
 cases hP:powG u k with
 | error y=>rw[qJJ hP]at h;injection h with h;subst h;exact qLa hP
 | ok x=>
  cases hM:mulG c (qAa x)with
  | error y=>rw[qJK hP hM]at h;injection h with h;subst h;exact qHC hM
  | ok y=>rw[qHD hP hM]at h;exact qHC h
theorem qFx {u:FracA×FracA} {z:Int}:∀(l:List ArmA) {s:G2},qBL u s l= .error z->z≠0
 | [],s,h=>by cases h
 | a::l,s,h=>by
  unfold qBL at h
  split at h
  ·rename_i y hy;injection h with h;subst h;exact qQ3 hy
  ·exact qFx l h
theorem qMm {x:FracA×FracA} {z:Int} (h:qB0 x= .error z):z≠0/\spE (qB0 x)=(0,0,z):=by
 rw[h];refine⟨?_,rfl⟩;unfold qB0 at h
 split at h
 ·rename_i h1;injection h with h;subst h;exact h1
 ·split at h
  ·rename_i h1;injection h with h;subst h;exact h1
  ·split at h
   ·cases h
   ·injection h with h;subst h;decide
theorem qPR (n:Nat) (h:0<n):TSz gi n:=by
 have:=qFv 1 n h
 rwa[show gpow gi 1=gi from by unfold gpow gpow;exact qEB gi]at this
theorem qRu:∀g,tval iG=some g->TSz g 2:=λg hg=>by
 rw[qNu,qC6 (qPR 40 (by decide))]at hg;injection hg with hg;rw[<-hg];exact qPR 2 (by decide)
theorem qCk {w:World} {base e size n:Nat} {v:Value} {xs:List Value} (h:w.ownsRow base e size v n xs):∃A c,v= .slice A n c:=by
 rcases h.2 with⟨rfl,rfl⟩| ⟨g,cap,cur,rfl,_⟩
 ·exact⟨none,0,rfl⟩
 ·exact⟨_,cap,rfl⟩
theorem qFy {l:List ArmA} {m:Nat} (h:qC5 l=0) (h0:1<=(m:Int)) (h1:(m:Int)<=16):qA4 l (m:Int)=qAz l m (4*m):=by
 unfold qA4;rw[if_neg (by simpa using h),if_pos ⟨h0,h1⟩,Int.toNat_natCast]
theorem qRv {a b:Int} (h0:0<=a) (h1:a<=1000) (hb:1<=b): -9223372036854775808<=a / b/\a / b<=9223372036854775807:=by
 have c:=Int.ediv_nonneg h0 (show(0:Int)<=b by omega);have d:=Int.ediv_le_self b h0;omega
theorem qLd {s:Nat} (h:s<=1000): -9223372036854775808<=(s:Int)/\(s:Int)<=9223372036854775807:=by omega
structure PtI (W1:World) (t:TypeId) (l:List ArmA) (n idx:Nat) (v:Value) (W:World):Prop where
 le:Le W1 W
 row:∃L,qAz l n idx= .ok L/\W.ownsRow W1.heap.size t 2 v L.length (qCT L)
theorem qDM (l:List ArmA) (n:Int) (v:Value) (w:World) (hv:ArmsL w v l):Calls Tryz.prog 11 #[v,.int .i64 n] w (qRY (qA4 l n) w):=by
 obtain⟨A,c,rfl,fE,-⟩:=id hv;have aI:=qJG l _ w hv;have bD:=qHT l;obtain⟨E,hE⟩:∃E,qC5 l=E:=⟨_,rfl⟩;rw[hE]at aI;have⟨eo,cf,a8,ci⟩:=hyd4 hv aI hE bD;clear bD hE aI hv;go_enter Tryz.func11,Tryz.ntmps11;go_wp2_with (fail);go_at_call 37;refine cf.out.mono ?_;rintro e W1 ⟨rfl,az⟩
 by_cases cJ:E=0
 ·subst cJ;have M:=hyd1 az;clear az;go_wp2_with (fail);go_at_call 38;refine(qBr n 1 16 W1).mono ?_;rintro e w2 ⟨rfl,rfl⟩
  by_cases hn:qAE n 1 16=true
  ·have ef:1<=n/\n<=16:=by simpa[qAE]using hn
   obtain⟨m,rfl⟩:∃m:Nat,n=(m:Int):=⟨n.toNat,by omega⟩;obtain⟨ck,cl⟩:=ef;rw[hn];have cU:=qJk 1 1 W1 (by decide) (by decide) (by decide) (by decide);have⟨ee,cV⟩:=hyd2 hn cU;clear cU hn;go_wp2_with (fail);go_at_call 39;refine cV.out.mono ?_;rintro e W3 ⟨a3,v3,c3,rfl,bp⟩;have cb:=bp.isAV;obtain⟨d6,ds,d4,dw,d8,du,d2,dy,d7,dt,d5,dx,d9,dv,d3,dz,rfl⟩:=bp.form;obtain⟨W4,dU,aa,kI⟩:=al1 W3 (.cells #[.bool d6,.slice ds d4 dw,.bool d8,.slice du d2 dy,.bool d7,.slice dt d5 dx,.bool d9,.slice dv d3 dz] 79);have cM:PtI W4 41 l m 0 (.slice none 0 0) W4:=⟨Le.refl _,[],rfl,World.ownsRow_nil _ _ _ _⟩;have cH:=cb.le aa;have dj:=eo.out.le (M.out.trans (a3.trans aa));have bB:=M.out.trans (a3.trans aa);have⟨eb,ft,fj,dI,dC,cN,cI,dk⟩:=hyd8 a3 bp cb aa kI cM cH dj;have au:=hyd1 bB;clear bB dj cH cM kI aa cb bp a3;go_wp2_with (fail);clear dU;generalize hBI:W3.heap.size=BI at dC ⊢;have fk:=hyd1 hBI;clear hBI;have j1:(m:Int)<=16:=by omega
   go_loopw [32,9] (λix vl wr=>∃idx:Nat,idx<=4*m/\ix= .int .i64 idx/\Hid (PtI W4 41 l m idx vl wr)) (λix _ _=>4*m - (intOf ix).toNat)
   case atStart=>exact⟨0,Nat.zero_le _,rfl,cN⟩
   case round=>
    obtain⟨idx,fD,rfl,hI⟩:=hrel;obtain⟨S,L,hL,af⟩:=hI.out;obtain⟨AL,cL,rfl⟩:=qCk af
    by_cases da:idx<4*m
    ·have i1:(idx:Int)<4*(m:Int):=by omega
     have i2:(0:Int)<=(idx:Int):=by omega
     have aQ:¬(m:Int)=0:=by omega
     have bH: -9223372036854775808<=(idx:Int) / (m:Int)/\(idx:Int) / (m:Int)<=9223372036854775807:=qRv i2 (by omega) (by omega);have aU:=λ(W:World) (h:Le wr W)=>qL9 iG ((idx / m:Nat):Int) _ W ((cI.out.le S).le h) (qRu);obtain⟨P1,cd⟩:∃P,powG iG ((idx / m:Nat):Int)=P:=⟨_,rfl⟩;rw[cd]at aU;have dD:=bxl S dC.out;have⟨dT,aj,aE,av,cr,cm,cq,cQ⟩:=hyd8 hI S hL af bH aQ aU cd;have dE:=hyd1 dD;clear dD cd aU aQ bH af hL S hI;go_wp2_with (fail);refine qDa (R:=resRel) 10 [some 36,some 37,some 38,some 39,some 40,some 35,some 41,some 42,some 11,none,some 12] [[],[],[],[1,2],[0,3],[4],[5],[5],[],[6,8],[7]]
      [.eq (.agg #[.bool d6,.slice ds d4 dw,.bool d8,.slice du d2 dy,.bool d7,.slice dt d5 dx,.bool d9,.slice dv d3 dz]),.eq (.int .i64 (idx:Nat)),.eq (.int .i64 (m:Nat)),.eq (.int .i64 ((idx / m:Nat):Int)),RPred.pair P1,RPred.pair P1,RPred.val P1,.eq (.int .i64 (codeG P1)),MPredR.any,MPredR.any] (GBox8 6 8 9 wr 79) (λ_ _=>False) (by kernel_rfl) (by kernel_rfl) (by kernel_rfl) (by kernel_rfl) (by kernel_rfl) (GBox8.start 6 8 9 wr 79 _ (by decide)) ?_ (λ_ _ _ _ h=>h.elim) ?_
     ·simp only[List.take_succ_cons,List.take_zero];refine sGc rfl ?_ (sGc rfl ?_ (sGc rfl ?_ (sGc rfl ?_ (sGc rfl ?_ (sGc rfl ?_ (sGc rfl ?_ (sGc rfl ?_ (sGc rfl ?_ (sGc rfl ?_ (qD9))))))))))
      ·intro Dn xv W hD J hR hf i Q hK hP;have bi:=i.1;obtain⟨z0,z1,z2,z3,z4,z5,z6,z7⟩:=qAF (bxl bi dE.out);clear bi;simp only[fA]at hK ⊢;have j:=hyd1 i;clear i;go_wp2;exact hK _ _ (qCD (Le.refl _)) rfl (j.out.keep rfl (Le.refl _))
      ·intro Dn xv W hD J hR hf i Q hK hP;simp only[fA]at hK ⊢;have j:=hyd1 i;clear i;go_wp2;exact hK _ _ (qCD (Le.refl _)) rfl (j.out.keep rfl (Le.refl _))
      ·intro Dn xv W hD J hR hf i Q hK hP;simp only[fA]at hK ⊢;have j:=hyd1 i;clear i;go_wp2;exact hK _ _ (qCD (Le.refl _)) rfl (j.out.keep rfl (Le.refl _))
      ·intro Dn xv W hD J hR hf i Q hK hP;obtain⟨e0,e1,-⟩:=hf;change _=_ at e0 e1;have bi:=i.1;have fF:=cm.out;obtain⟨fG,fH⟩:=cr.out;clear bi;simp only[fA,e0,e1]at hK ⊢;have j:=hyd1 i;clear i;go_wp2;exact hK _ _ (qCD (Le.refl _)) rfl (j.out.keep rfl (Le.refl _))
      ·intro Dn xv W hD J hR hf i Q hK hP;obtain⟨e0,e1,-⟩:=hf;change _=_ at e0 e1;have cW:=cq.out W i.1;simp only[fA,e0,e1]at hK ⊢;have⟨j,cX⟩:=hyd2 i cW;clear cW i;go_wp2_with (fail);go_at_call 40;refine cX.out.mono ?_;rintro e w' ⟨y1,v1,cc,rfl,hr⟩;have dW:=hr.codeG;subst dW;have⟨dF,eh⟩:=hyd2 y1 hr;clear hr y1;go_wp2;exact hK _ _ (qCD dF.out) ⟨_,rfl,eh.out⟩ (j.out.keep rfl dF.out)
      ·intro Dn xv W hD J hR hf i Q hK hP;obtain⟨e0,-⟩:=hf;replace e0:∃v',(xv 4)= .tuple #[v',.int .i64 (codeG P1)]/\IsResT W v' (codeG P1) P1:=e0;obtain⟨vv,qv,ac⟩:=e0;have ap:=ac;obtain⟨bX,bL,bV,bP,bZ,bN,bT,bR,bY,bM,bW,bQ,ca,bO,bU,bS,rfl⟩:=ac.form;clear ac;have a7:=hyd1 ap;clear ap;simp only[fA,qv]at hK ⊢;have bc:=qv;clear qv bc;have j:=hyd1 i;clear i;go_wp2;exact hK _ _ (qCD (Le.refl _)) ⟨_,rfl,a7.out⟩ (j.out.keep rfl (Le.refl _))
      ·intro Dn xv W hD J hR hf i Q hK hP;obtain⟨e0,-⟩:=hf;replace e0:∃v',(xv 5)= .tuple #[v',.int .i64 (codeG P1)]/\IsResT W v' (codeG P1) P1:=e0;obtain⟨vv,qv,ac⟩:=e0;have ap:=ac;obtain⟨bX,bL,bV,bP,bZ,bN,bT,bR,bY,bM,bW,bQ,ca,bO,bU,bS,rfl⟩:=ac.form;clear ac;have a7:=hyd1 ap;clear ap;simp only[fA,qv]at hK ⊢;have bc:=qv;clear qv bc;have j:=hyd1 i;clear i;go_wp2;exact hK _ _ (qCD (Le.refl _)) a7.out (j.out.take hD rfl)
      ·intro Dn xv W hD J hR hf i Q hK hP;obtain⟨e0,-⟩:=hf;replace e0:∃v',(xv 5)= .tuple #[v',.int .i64 (codeG P1)]/\IsResT W v' (codeG P1) P1:=e0;obtain⟨vv,qv,ac⟩:=e0;have ap:=ac;obtain⟨bX,bL,bV,bP,bZ,bN,bT,bR,bY,bM,bW,bQ,ca,bO,bU,bS,rfl⟩:=ac.form;clear ac;have a7:=hyd1 ap;clear ap;simp only[fA,qv]at hK ⊢;have bc:=qv;clear qv bc;have j:=hyd1 i;clear i;go_wp2;exact hK _ _ (qCD (Le.refl _)) rfl (j.out.keep rfl (Le.refl _))
      ·intro Dn xv W hD J hR hf i Q hK hP;simp only[fA]at hK ⊢;have j:=hyd1 i;clear i;go_wp2;exact hK _ _ (qCD (qAB _ _)) trivial (j.out.make hD rfl)
      ·intro Dn xv W hD J hR hf i Q hK hP;obtain⟨e0,e1,-⟩:=hf;have d0:=J 6 (by decide);have d1:=J 8 (by decide);replace e0:IsResT W (xv 6) (codeG P1) P1:=e0;obtain⟨kb,qb,dY,aZ⟩:=i.ready d1 hD;obtain⟨bX,bL,bV,bP,bZ,bN,bT,bR,bY,bM,bW,bQ,ca,bO,bU,bS,qv⟩:=IsResT.form e0;have bG:=i.put (v:=undef) d1 d0 qb dY aZ qv rfl;simp only[fA,qv,qb]at hK ⊢;obtain⟨z0,z1,z2,z3,z4,z5,z6,z7⟩:=qAF aZ;have⟨y0,y1,y2,y3,y4,y5,y6,y7⟩:=frz8 aZ;clear qv qb;clear e0 e1;have⟨aV,j,fx⟩:=hyd3 bG i aZ;clear aZ i bG;go_wp2;exact hK undef _ aV.out.2 trivial aV.out.1
     ·intro Dn xv c5 hD hR hf i Q' cR _;have e2:IsResT c5 (xv 6) (codeG P1) P1:=hf 6 (by decide);have e1:xv 7= .int .i64 (codeG P1):=hf 7 (by decide);obtain⟨f1,qb,dZ,gn,fZ,gl,gd,gp,gb,gj,gg,go,ga,gm,ge,gq,gc,gk,gh,qv,bJ⟩:=i.full (hD 8 (by decide)) (hD 9 (by decide));have a4:=i.1;rw[qv]at e2;have aB:=e2;simp only[List.drop_succ_cons,List.drop_zero];rw[show List.range 10=[0,1,2,3,4,5,6,7,8,9]from rfl];simp only[fA,qv,e1,qb];clear qv e1 qb hf e2 i hD hR;have⟨U,cx,bg⟩:=hyd3 a4 bJ aB;clear aB bJ a4;go_wp2;refine cR _ _ ?_;clear cR;have bC:=aj.out.trans U.out;have ab:idx%m<=1000:=by have:=Nat.mod_lt idx (show 0<m by omega);omega
      have bA:=qJk ((idx%m:Nat):Int) (m:Int) c5 (qLd ab).1 (qLd ab).2 (by omega) (by omega);obtain⟨ct,cu⟩: -9223372036854775808<=(idx:Int)%(m:Int)/\(idx:Int)%(m:Int)<=9223372036854775807:=qLd ab;have⟨ch,ce,dK⟩:=hyd3 bC bA ab;clear ab bA bC;have aQ:¬(m:Int)=0:=by omega
      go_wp2_with (fail);go_at_call 39;refine ce.out.mono ?_;rintro e I ⟨N,fV,f4,rfl,a5⟩;have aC:=a5.isAV;obtain⟨eA,ev,e8,ez,eC,ex,e6,e4,eB,ew,e9,e3,eD,ey,e7,e5,rfl⟩:=a5.form;obtain⟨bK,cS,r,kq⟩:=al1 I (.cells #[.bool eA,.slice ev e8 ez,.bool eC,.slice ex e6 e4,.bool eB,.slice ew e9 e3,.bool eD,.slice ey e7 e5] 79);have kx:=bxl (N.trans r) cx.out;obtain⟨z0,z1,z2,z3,z4,z5,z6,z7⟩:=qAF kx;obtain⟨g0,g1,g2,g3,g4,g5,g6,g7⟩:=qAF kq;have aS:=qI0 (qBc P1) (qBc (qBz ((idx%m:Nat):Int) (m:Int))) _ _ bK ((bg.out.le (N.trans r)).isAV) (aC.le r);change Calls Tryz.prog 41 _ bK (qCt (mulG (qBc P1) (qBc (qBz ((idx%m:Nat):Int) (m:Int)))) bK)at aS;have aL:=ch.out.trans (N.trans r);have⟨a0,ei,dQ,aO,et,fT,cn,dG⟩:=hyd8 N a5 aC r kq kx aS aL;clear aL aS kx kq r aC a5 N;go_wp2_with (fail);clear cS;go_at_call 41;refine cn.out.mono ?_;rintro e c6 ⟨ah,fW,dO,rfl,a6⟩;clear z0 z1 z2 z3 z4 z5 z6 z7 g0 g1 g2 g3 g4 g5 g6 g7;have a9:=bxl ah et.out;obtain⟨b5,bs,b3,bw,b7,bu,b1,bz,b6,bt,b4,bx,b8,bv,b2,b0,rfl⟩:=a6.form;obtain⟨g0,g1,g2,g3,g4,g5,g6,g7⟩:=qAF a9;have⟨k0,k1,k2,k3,k4,k5,k6,k7⟩:=frz8 a9;obtain⟨bf,ay⟩:∃V,((((((((c6.setCell ⟨I.heap.size,0,none⟩ (.bool b5)).setCell ⟨I.heap.size,1,none⟩ (.slice bs b3 bw)).setCell ⟨I.heap.size,2,none⟩ (.bool b7)).setCell ⟨I.heap.size,3,none⟩ (.slice bu b1 bz)).setCell ⟨I.heap.size,4,none⟩ (.bool b6)).setCell ⟨I.heap.size,5,none⟩ (.slice bt b4 bx)).setCell ⟨I.heap.size,6,none⟩ (.bool b8)).setCell ⟨I.heap.size,7,none⟩ (.slice bv b2 b0))=V:=⟨_,rfl⟩
      have ht:=qAT c6 I.heap.size (.bool b5) (.slice bs b3 bw) (.bool b7) (.slice bu b1 bz) (.bool b6) (.slice bt b4 bx) (.bool b8) (.slice bv b2 b0);have aW:IsResT bf (.agg #[.bool b5,.slice bs b3 bw,.bool b7,.slice bu b1 bz,.bool b6,.slice bt b4 bx,.bool b8,.slice bv b2 b0]) dO (mulG (qBc P1) (qBc (qBz ((idx%m:Nat):Int) (m:Int)))):=by rw[<-ay];exact a6.touch (qAu a9) ht
      have cw:bf.heap[I.heap.size]? =some (.cells #[.bool b5,.slice bs b3 bw,.bool b7,.slice bu b1 bz,.bool b6,.slice bt b4 bx,.bool b8,.slice bv b2 b0] 79):=by rw[<-ay];exact qAc a9 _ _ _ _ _ _ _ _
      have ai:Le wr bf:=by
       rw[<-ay];exact qBC (U.out.trans (a0.out.trans (aO.out.trans ah))) (by have:=U.out.size;have:=a0.out.size;omega) _ _ _ _ _ _ _ _
      have aD:=aW.isAV;obtain⟨ug,br,bj,-⟩:=qSR (n:=m) (k:=idx / m) (s:=idx%m) (by omega) (by omega) (by have:=Nat.div_lt_iff_lt_mul (x:=idx) (y:=4) (show 0<m by omega);omega) (Nat.mod_lt _ (by omega));rw[Nat.mul_comm (idx / m) m,Nat.div_add_mod]at bj;clear ct cu;have cv:uA m idx=qBc (mulG (qBc P1) (qBc (qBz ((idx%m:Nat):Int) (m:Int)))):=by unfold uA;rw[cQ.out]
      have aK:l.length<=1000:=by rcases ci.out with⟨-,h,-⟩| ⟨h,-⟩;omega;exact absurd a8.out h
      have db:=qNw l (uA m idx) _ _ bf (dk.out.le (aj.out.trans ai)) (by rw[cv];exact aD) (λg h=>by rw[bj,qC6 (br.up (by decide))]at h;injection h with h;rw[<-h];exact br) aK;obtain⟨h0,h1,h2,h3,h4,h5,h6,h7⟩:=qAF cw;have a2:=aj.out.trans ai;have⟨dH,ej,fy,fI,ek,fz,bk,dR⟩:=hyd8 ah a6 a9 ht aW cw ai aD;have⟨fw,fq,fv,ea,dc,aM⟩:=hyd6 br bj cv aK db a2;clear a2 db aK cv bj br aD ai cw aW ht a9 a6 ah;go_wp2_with (fail);clear ay;go_at_call 42;refine dc.out.mono ?_;rintro e c7 ⟨O,fX,aA,rfl,d⟩;clear g0 g1 g2 g3 g4 g5 g6 g7 k0 k1 k2 k3 k4 k5 k6 k7 h0 h1 h2 h3 h4 h5 h6 h7;obtain⟨eQ,eE,eO,eI,eS,eG,eM,eK,eR,eF,eP,eJ,eT,eH,eN,eL,rfl⟩:=d.form;obtain⟨dM,cT,t,ba⟩:=al1 c7 (.cells #[.bool eQ,.slice eE eO eI,.bool eS,.slice eG eM eK,.bool eR,.slice eF eP eJ,.bool eT,.slice eH eN eL] 79);have B:=aM.out.trans (O.trans t)
      by_cases hc:aA=0
      ·subst hc
       obtain⟨pg,C,aJ⟩:∃g,qBL (uA m idx) (0,0) l= .ok g/\TurnF c7 _ g:=by
        cases C:qBL (uA m idx) (0,0) l with
        | error z=>rw[C]at d;exact absurd d.2.symm (qFx _ C)
        | ok g=>rw[C]at d;exact⟨g,rfl,d.1⟩
       have aT:=qLb (qAa pg) _ dM (aJ.le t).isAV;obtain⟨g0,g1,g2,g3,g4,g5,g6,g7⟩:=qAF ba;have⟨a1,cs,ao,dA,aF,dX,bo,am⟩:=hyd8 O d t ba C aJ aT B;clear B aT aJ C ba t d O;go_wp2_with (fail);clear cT;go_at_call 43;refine bo.out.mono ?_;rintro e dN ⟨D,rfl⟩;clear g0 g1 g2 g3 g4 g5 g6 g7;obtain⟨X,Y,Z,G⟩:∃X Y Z,spE (qB0 (qAa pg))=(X,Y,Z):=⟨_,_,_,rfl⟩;rw[G];dsimp only;obtain⟨c8,fm,F,bb⟩:=al1 dN (.cells #[.int .i64 X,.int .i64 Y] 41);have p:=am.out.trans (D.trans F)
       by_cases hZ:Z=0
       ·subst hZ
        have cp:qB0 (qAa pg)= .ok (X,Y):=by
         cases hv:qB0 (qAa pg)with
         | error z=>rw[hv]at G;injection G with h1 h2;injection h2 with h2 h3;exact absurd h3 (qMm hv).1
         | ok q=>rw[hv]at G;injection G with h1 h2;injection h2 with h2 h3;rw[<-h1,<-h2]
        obtain⟨mi,ed,dl,dn,dq⟩:=info_parts qRt;have aX:=bk.out.trans (a1.out.trans (ao.out.trans (D.trans F)));have aw:=qAK av.out aX;have bF:=qSS c8 (X,Y) 41;have cY:∀u∈[Value.int .i64 X,Value.int .i64 Y],u.oneCell'=true:=by intro u hu;simp at hu;rcases hu with rfl|rfl<;>rfl
        have aP:=qEh aE.out;have dd:=aw.lt;have o:qCa l m idx= .ok (X,Y):=by unfold qCa;rw[aF.out];exact cp
        have aR:=qMP aE.out o;have em:=p.size;have fl:L.length<64:=by omega
        obtain⟨s0,s1⟩:=qDj bb;have⟨bl,df,bm,dB,an,fs,el,bq⟩:=hyd8 D G F bb p cp aX aw;have⟨co,cZ,de,aY,bn,dm,dp,dr⟩:=hyd8 bF cY dd o aR dl dn dq;have dJ:=hyd1 aP;clear aP dq dn dl aR o dd cY bF aw aX cp p bb F G D;go_wp2_with (first | (at_builtin;go_must (refine qCn _ rfl _ _ 23 rfl W4.heap.size 41 mi _ 2 16 Tryz.underlying23 ed dm.out dp.out dr.out rfl (by decide) (.slice AL L.length cL) L.length (qCT L) rfl (bq.out.alloc _) ⟨c8.heap.size,0,none⟩ 1 1 [.int .i64 X,.int .i64 Y] rfl rfl co.out cZ.out (by unfold maxLen;omega) (by omega) (by simp;omega) ?_)));intro v4 W5 ak cg bI;obtain⟨A4,c4,rfl⟩:=qCk ak;have aN:Le W4 W5:=(an.out.alloc (by omega) _).grown cg (by simp;omega) (λk e=>(de.out k e).1);have cj:(L++[(X,Y)]).length =L.length+1:=by simp
        have cO:PtI W4 41 l m (idx+1) (.slice A4 (L.length+1) c4) W5:=⟨aN,_,bn.out,by rw[cj,qLc];exact ak⟩;have⟨dL,fp,ep,ec,fr,cP⟩:=hyd6 ak cg bI aN cj cO;clear cO cj aN bI cg ak;go_wp2;go_roundw
        case rel=>exact⟨idx+1,by omega,by go_num,cP⟩
        case measure=>simp[intOf];omega
       ·have aH:qB0 (qAa pg)= .error Z:=by
         cases hv:qB0 (qAa pg)with
         | error z=>rw[hv]at G;injection G with h1 h2;injection h2 with h2 h3;rw[h3]
         | ok q=>rw[hv]at G;injection G with h1 h2;injection h2 with h2 h3;exact absurd h3.symm hZ
        have o:qCa l m idx= .error Z:=by unfold qCa;rw[aF.out];exact aH
        have b:qA4 l (m:Int)= .error Z:=(qFy a8.out ck cl).trans (qI5 aE.out o da);have H:=au.out.trans p;have⟨bl,df,bm,dB,an,dV,aY,f⟩:=hyd8 D G F bb p aH o b;have T:=hyd1 H;clear H b o aH p bb F G D;go_wp2;exact bodyPost_ret (v:= .tuple #[.slice none 0 0,.int .i64 Z]) (by simp[results,Tryz.results11,go_sem]) rfl ⟨T.out,_,_,rfl,by rw[f.out];exact⟨rfl,rfl⟩⟩
      ·obtain⟨z,C,hz⟩:∃z,qBL (uA m idx) (0,0) l= .error z/\aA=z:=by
        cases C:qBL (uA m idx) (0,0) l with
        | error z=>rw[C]at d;exact⟨z,rfl,d.2⟩
        | ok g=>rw[C]at d;exact absurd d.2 hc
       subst hz;have o:qCa l m idx= .error aA:=by unfold qCa;rw[C]
       have b:qA4 l (m:Int)= .error aA:=(qFy a8.out ck cl).trans (qI5 aE.out o da);have H:=au.out.trans B;have⟨a1,cs,ao,dA,aF,am,aY,f⟩:=hyd8 O d t ba C B o b;have T:=hyd1 H;clear H b o B C ba t d O;go_wp2;exact bodyPost_ret (v:= .tuple #[.slice none 0 0,.int .i64 aA]) (by simp[results,Tryz.results11,go_sem]) rfl ⟨T.out,_,_,rfl,by rw[f.out];exact⟨rfl,rfl⟩⟩
    ·obtain rfl:idx=4*m:=by omega
     have b:qA4 l (m:Int)= .ok L:=(qFy a8.out ck cl).trans hL;have H:=au.out.trans S;have dh:=SpotsV.of_row af (by have:=qEh hL;omega);have⟨dT,aj,aE,av,f,T,di⟩:=hyd7 hI S hL af b H dh;clear dh H b af hL S hI;go_wp2;exact bodyPost_ret (v:= .tuple #[.slice AL L.length cL,.int .i64 0]) (by simp[results,Tryz.results11,go_sem]) rfl ⟨T.out,_,_,rfl,by rw[f.out];exact⟨di.out,rfl,qQ2 av.out⟩⟩
  ·have b:qA4 l n= .error 2:=by
    unfold qA4;rw[if_neg (by simpa using a8.out),if_neg (by simpa[qAE]using hn)]
   rw[show qAE n 1 16=false by simpa using hn];have⟨ee,f⟩:=hyd2 hn b;clear b hn;go_wp2;exact bodyPost_ret (v:= .tuple #[.slice none 0 0,.int .i64 2]) (by simp[results,Tryz.results11,go_sem]) rfl ⟨M.out,_,_,rfl,by rw[f.out];exact⟨rfl,rfl⟩⟩
 ·have b:qA4 l n= .error E:=by unfold qA4;rw[a8.out,if_pos cJ]
  have⟨M,f⟩:=hyd2 az b;clear b az;go_wp2;exact bodyPost_ret (v:= .tuple #[.slice none 0 0,.int .i64 E]) (by simp[results,Tryz.results11,go_sem]) rfl ⟨M.out,_,_,rfl,by rw[f.out];exact⟨rfl,rfl⟩⟩
end Go.Proofs.YtabfaobakmjiaaaGreat

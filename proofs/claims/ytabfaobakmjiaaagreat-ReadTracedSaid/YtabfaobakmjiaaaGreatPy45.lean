/- motion.place: the place of a path at a moment. motion.nearest, barleycornref02.spot: the spot of a place. -/
import Derived.Test.YtabfaobakmjiaaaGreatPy43
import Derived.Test.YtabfaobakmjiaaaGreatPy44
namespace Go.Proofs.YtabfaobakmjiaaaGreat
set_option maxRecDepth 100000
set_option maxHeartbeats 8000000
open Go.RowKit Go.ChangeShapes Go.WideShapes Go.Deep
set_option linter.unusedVariables false
set_option linter.unusedSimpArgs false
attribute [local go_sem] Oper.semAt_some
abbrev qEP:Array Value:=#[.bool false,.slice none 0 0,.bool false,.slice none 0 0,.bool false,.slice none 0 0,.bool false,.slice none 0 0]
theorem IsTurnA.form {w:World} {v:Value} {x:FracA×FracA} (h:IsTurnA w v x):qNl v:=by
 obtain⟨b,g,d,j,c,i,f,k,rfl,-,-⟩:=h;exact⟨_,_,_,_,_,_,_,_,_,_,_,_,_,_,_,_,rfl⟩
theorem TurnF.aform {w:World} {v:Value} {g:G2} (h:TurnF w v g):qNl v:=by
 obtain⟨q,b,o,i,s,d,m,k,r,c,p,j,t,f,n,l,rfl,-,-⟩:=h;exact⟨_,_,_,_,_,_,_,_,_,_,_,_,_,_,_,_,rfl⟩
def Box8 (t:TypeId) (W:World) (B:Nat) (g:G2):Prop:=
 ∃s1 A1 n1 c1 t1 B1 m1 d1 s2 A2 n2 c2 t2 B2 m2 d2,W.heap[B]? =some (.cells #[.bool s1,.slice A1 n1 c1,.bool t1,.slice B1 m1 d1,.bool s2,.slice A2 n2 c2,.bool t2,.slice B2 m2 d2] t)∧
  TurnF W (.agg #[.bool s1,.slice A1 n1 c1,.bool t1,.slice B1 m1 d1,.bool s2,.slice A2 n2 c2,.bool t2,.slice B2 m2 d2]) g
theorem Box8.kc {t:TypeId} {W W':World} {B:Nat} {g:G2} (h:Box8 t W B g) (hk:KC W W'):Box8 t W' B g:=by
 obtain⟨s,b,q,i,x,d,o,k,v,c,r,j,y,f,p,l,m,n⟩:=h;exact⟨s,b,q,i,x,d,o,k,v,c,r,j,y,f,p,l,hk.at m,n.kc hk⟩
theorem KC.of_le {W W':World} (h:Le W W'):KC W W':=⟨h.size,λB o hB _=>bxl h hB⟩
theorem qEi {n:Nat} {w W:World} {X:Nat} (h:Below n w W) (hX:n<=X) (u0 u1 u2 u3 u4 u5 u6 u7:Value):Below n w (set8 W X u0 u1 u2 u3 u4 u5 u6 u7):=
 (((((((Below.setCell h (p:=⟨X,0,none⟩) hX _).setCell (p:=⟨X,1,none⟩) hX _).setCell (p:=⟨X,2,none⟩) hX _).setCell (p:=⟨X,3,none⟩) hX _).setCell (p:=⟨X,4,none⟩) hX _).setCell (p:=⟨X,5,none⟩) hX _).setCell (p:=⟨X,6,none⟩) hX _).setCell (p:=⟨X,7,none⟩) hX _
theorem qFw (B:Nat) (W:World) (X:Nat) (u0 u1 u2 u3 u4 u5 u6 u7:Value):KeepsFrom B W (set8 W X u0 u1 u2 u3 u4 u5 u6 u7):=
 ((((((((KeepsOthers.setCell W _ u0).from B).trans ((KeepsOthers.setCell _ _ u1).from B)).trans ((KeepsOthers.setCell _ _ u2).from B)).trans ((KeepsOthers.setCell _ _ u3).from B)).trans ((KeepsOthers.setCell _ _ u4).from B)).trans ((KeepsOthers.setCell _ _ u5).from B)).trans ((KeepsOthers.setCell _ _ u6).from B)).trans ((KeepsOthers.setCell _ _ u7).from B)
structure PlI (w W0:World) (t4 t5:TypeId) (cu:Array Value) (Bn B6:Nat) (l:List ArmA) (u:FracA×FracA) (pre:List (Fin l.length)) (W:World):Prop where
 kept:Kept w.heap.size [Bn] W0 W
 size:W0.heap.size<=W.heap.size
 bu:W.heap[w.heap.size]? =some (.cells cu t4)
 r4:W.heap[w.heap.size+1]? =some (.cells qEP t4)
 r5:W.heap[w.heap.size+2]? =some (.cells #[.int .i64 0] t5)
 sum:∃s,Box8 t4 W B6 s/\TSz s 40/\(pre<+:List.finRange l.length->qBL u (0,0) l=qBL u s (l.drop pre.length))
theorem PlI.from (w W0:World) (t4 t5:TypeId) (cu:Array Value) (Bn B6:Nat) (l:List ArmA) (u:FracA×FracA) (hs:w.heap.size+3<=W0.heap.size) (hn:Bn<W0.heap.size):OwnFrom W0.heap.size (PlI w W0 t4 t5 cu Bn B6 l u):=by
 rintro s X Y t ⟨h,i,j,m,n,g,o,p,q⟩ d b;have c:KC X Y:=KC.of_grown d λr e=>(b r e).2;exact⟨h.trans ⟨(Below.refl _ _).grown d (by omega) λk e=>by have:=(b k e).1;omega,λB f=>d.block B (by simp at f;omega) (λe=>by have:=(b _ e.symm).1;simp at f;omega)⟩,Nat.le_trans i d.size,c.at j,c.at m,c.at n,g,o.kc c,p,q⟩
structure PlX (w:World) (t4 t5:TypeId) (l:List ArmA) (u:FracA×FracA) (c:Code) (pre:List (Fin l.length)) (W:World):Prop where
 code:c= .ret
 below:Below w.heap.size w W
 r4:W.heap[w.heap.size+1]? =some (.cells qEP t4)
 err:∃z:Int,W.heap[w.heap.size+2]? =some (.cells #[.int .i64 z] t5)/\(pre<+:List.finRange l.length->qBL u (0,0) l= .error z)
theorem PlX.from (w:World) (t4 t5:TypeId) (l:List ArmA) (u:FracA×FracA) (N0:Nat) (h:w.heap.size<=N0) (c:Code):OwnFrom N0 (PlX w t4 t5 l u c):=by
 rintro s X Y o ⟨i,f,j,z,m,n⟩ g b;have d:KC X Y:=KC.of_grown g λr e=>(b r e).2;exact⟨i,f.grown g f.size (λk e=>by have:=(b k e).1;omega),d.at j,z,d.at m,n⟩
theorem qHg {g:G2} {c:Int} (h:outG g= .error c):c≠0:=by
 unfold outG at h
 split at h
 ·cases h
 ·injection h with h;omega
theorem qLa {x:FracA×FracA} {n c:Int} (h:powG x n= .error c):c≠0:=by
 unfold powG at h
 split at h
 ·split at h
  ·injection h with h;omega
  ·split at h
   ·split at h
    ·injection h with h;omega
    ·exact qHg h
   ·exact qHg h
 ·injection h with h;omega
theorem qHC {f:G2->G2->G2} {x y:FracA×FracA} {c:Int} (h:opG (λa b=>outG (f a b)) x y= .error c):c≠0:=by
 unfold opG at h
 split at h
 ·exact qHg h
 ·injection h with h;omega
theorem qNv {w W:World} {k:Nat} {g:G2} {t:TypeId} {fs1 ft1 fs2 ft2:Bool} {fA1 fB1 fA2 fB2:Option Addr} {fn1 fc1 fm1 fd1 fn2 fc2 fm2 fd2:Nat} {os1 ot1 os2 ot2:Bool} {oA1 oB1 oA2 oB2:Option Addr} {on1 oc1 om1 od1 on2 oc2 om2 od2:Nat} (hR:Le w W) (hk:w.heap.size<=k) (hx:W.heap[k]? =some (.cells #[.bool os1,.slice oA1 on1 oc1,.bool ot1,.slice oB1 om1 od1,.bool os2,.slice oA2 on2 oc2,.bool ot2,.slice oB2 om2 od2] t)) (hf:TurnF W (.agg #[.bool fs1,.slice fA1 fn1 fc1,.bool ft1,.slice fB1 fm1 fd1,.bool fs2,.slice fA2 fn2 fc2,.bool ft2,.slice fB2 fm2 fd2]) g):
  ∃V,((((((((W.setCell ⟨k,0,none⟩ (.bool fs1)).setCell ⟨k,1,none⟩ (.slice fA1 fn1 fc1)).setCell ⟨k,2,none⟩ (.bool ft1)).setCell ⟨k,3,none⟩ (.slice fB1 fm1 fd1)).setCell ⟨k,4,none⟩ (.bool fs2)).setCell ⟨k,5,none⟩ (.slice fA2 fn2 fc2)).setCell ⟨k,6,none⟩ (.bool ft2)).setCell ⟨k,7,none⟩ (.slice fB2 fm2 fd2))=V/\Le w V/\V.heap[k]? =some (.cells #[.bool fs1,.slice fA1 fn1 fc1,.bool ft1,.slice fB1 fm1 fd1,.bool fs2,.slice fA2 fn2 fc2,.bool ft2,.slice fB2 fm2 fd2] t)/\TurnF V (.agg #[.bool fs1,.slice fA1 fn1 fc1,.bool ft1,.slice fB1 fm1 fd1,.bool fs2,.slice fA2 fn2 fc2,.bool ft2,.slice fB2 fm2 fd2]) g:=
 ⟨_,rfl,qBC hR hk _ _ _ _ _ _ _ _,qAc hx _ _ _ _ _ _ _ _,hf.touch (qAu hx) (qAT _ _ _ _ _ _ _ _ _ _)⟩
theorem qJm {w W:World} {k:Nat} (hR:Le w W) (hk:w.heap.size<=k):∃V,((((((((W.setCell ⟨k,0,none⟩ (.bool false)).setCell ⟨k,1,none⟩ (.slice none 0 0)).setCell ⟨k,2,none⟩ (.bool false)).setCell ⟨k,3,none⟩ (.slice none 0 0)).setCell ⟨k,4,none⟩ (.bool false)).setCell ⟨k,5,none⟩ (.slice none 0 0)).setCell ⟨k,6,none⟩ (.bool false)).setCell ⟨k,7,none⟩ (.slice none 0 0))=V/\Le w V:=⟨_,rfl,qBC hR hk _ _ _ _ _ _ _ _⟩
theorem qJJ {u:FracA×FracA} {s:G2} {k z:Int} {c:FracA×FracA} (h:powG u k= .error z):armG u s ⟨k,c⟩= .error z:=by unfold armG;rw[h]
theorem qJK {u:FracA×FracA} {s x:G2} {k z:Int} {c:FracA×FracA} (h:powG u k= .ok x) (h2:mulG c (qAa x)= .error z):armG u s ⟨k,c⟩= .error z:=by
 unfold armG;rw[h];simp only;rw[h2]
theorem qHD {u:FracA×FracA} {s x y:G2} {k:Int} {c:FracA×FracA} (h:powG u k= .ok x) (h2:mulG c (qAa x)= .ok y):armG u s ⟨k,c⟩=qKV (qAa s) (qAa y):=by
 unfold armG;rw[h];simp only;rw[h2]
theorem qNw (l:List ArmA) (u:FracA×FracA) (v vu:Value) (w:World) (hv:ArmsL w v l) (hu:IsTurnA w vu u) (hz:∀g,tval u=some g->TSz g 2) (hl:l.length<=1000):
  Calls Tryz.prog 42 #[v,vu] w (qCt (qBL u (0,0) l) w):=by
 obtain⟨tv,hv⟩:=hv.vals;have eg:=hv;obtain⟨A,c,rfl,gI,eT,dB,dQ,eb,hr⟩:=hv;unfold maxLen at eT;have ee:=hu;obtain⟨bv,bj,bt,bn,bx,bl,br,bp,bw,bk,bu,bo,bz,bm,bs,bq,rfl⟩:=hu.form;clear hu;obtain⟨Wa,eR,fb,dD,q0,q1,q2⟩:=qDg w (.cells #[.bool bv,.slice bj bt bn,.bool bx,.slice bl br bp,.bool bw,.slice bk bu bo,.bool bz,.slice bm bs bq] 79) (.cells qEP 79) (.cells #[.int .i64 0] 27);have gJ:w.heap.size+3<=Wa.heap.size:=by omega
 clear fb;have⟨eh,dR,ec,dW,fV,ef,fe,dE⟩:=hyd8 eg dQ eb hr dB ee hz dD;have⟨fi,fj,fk⟩:=hyd3 q0 q1 q2;clear q2 q1 q0 dD hz ee dB hr eb dQ eg;refine(callsIn_wide (n:=5)).1 ?_;refine callsIn_of_wp_marks Tryz.func42 rfl trivial ?_ rfl;simp only[Tryz.ntmps42,List.size_toArray,List.length_cons,List.length_nil,Nat.reduceAdd,Nat.reduceSub,Array.replicate_succ,Array.replicate_zero,List.push_toArray,List.append_toArray,List.nil_append,List.cons_append];gi_wp2_with (fail);refine⟨trivial,?_⟩;gi_at_call 22;refine(callsIn_wide.2 (qI1 (λ_=>True) 0 _ (Up.any _) (by decide) (by decide))).mono ?_;rintro e Wb ⟨vb,rfl,cd,cG⟩;obtain⟨bS,bH,bQ,bL,bU,bJ,bO,bM,rfl⟩:=id cG.fform;have⟨aN,dO⟩:=hyd2 cd cG;clear cG cd;gi_wp2_with (fail);refine⟨trivial,?_⟩;gi_at_call 22;refine(callsIn_wide.2 (qI1 (λ_=>True) 0 _ (Up.any _) (by decide) (by decide))).mono ?_;rintro e I ⟨vc,rfl,O,b8⟩;obtain⟨bT,bI,bR,pc2,bV,bK,bP,bN,rfl⟩:=id b8.fform;obtain⟨T,eS,P,kd⟩:=al1 I (.cells #[.bool bS,.slice bH bQ bL,.bool bU,.slice bJ bO bM,.bool bT,.slice bI bR pc2,.bool bV,.slice bK bP bN] 79);have gK:I.heap.size<T.heap.size:=(gsl kd);have E:Le Wa T:=(aN.out.trans O).trans P;have gl:=aN.out.size;have gm:=O.size;have dF:Below w.heap.size w T:=dE.out.trans (E.mono (by omega));have d0:=bxl E fi.out;have d1:=bxl E fj.out
 have d2:=bxl E fk.out;have cg:Box8 79 T I.heap.size (0,0):=⟨bS,bH,bQ,bL,bU,bJ,bO,bM,bT,bI,bR,pc2,bV,bK,bP,bN,kd,.mk ((dO.out.le O).le P) (b8.le P)⟩;have⟨eX,gc,eY,gN,e3,dG,eJ,eK⟩:=hyd8 O b8 P kd E dF d0 d1;have⟨eL,cP⟩:=hyd2 d2 cg;clear cg d2 d1 d0 dF E kd P b8 O;gi_wp2_with (fail);clear eS eR;refine⟨trivial,?_⟩;gi_at_call 74;refine(callsIn_wide.2 (qMk _ _ _ _)).mono ?_;rintro e W0 ⟨rfl,cD⟩;have m:Le T W0:=by rw[<-cD];exact qAB _ _
 have bA:W0.heap[T.heap.size]? =some (.cells #[.slice A l.length c] 25):=by rw[<-cD];exact qCN _ _
 have dY:T.heap.size<W0.heap.size:=(gsl bA);clear cD;have cA:Below w.heap.size w W0:=dG.out.trans (m.mono (by omega));have e0:=bxl m eJ.out;have e1:=bxl m eK.out;have e2:=bxl m eL.out;have af:=cP.out.kc (KC.of_le m);have o:=qGf l _ tv w W0 T.heap.size w.heap.size eh.out hl dY (by omega) (Nat.le_refl _) cA (qAC bA);have dJ:TSz (((0:Int):Rat),((0:Int):Rat)) 40:=⟨qHB 0 (by decide) (by decide) |>.up (by decide),qHB 0 (by decide) (by decide) |>.up (by decide)⟩;have⟨e4,gj,bX,dK⟩:=hyd4 m bA cA dJ;clear dJ cA bA m;gi_wp2;refine qDt rfl (by omega) (gf:=129) (lb:=#[.pointer (some ⟨T.heap.size,0,none⟩)]) rfl trivial (enters_of Tryz.func129 (by kernel_rfl) rfl)
  o Kept.trans (Kept.put (by omega) (by simp;omega)) (Below.refl _ _) (λ_=>rfl)
  (PlI w W0 79 27 #[.bool bv,.slice bj bt bn,.bool bx,.slice bl br bp,.bool bw,.slice bk bu bo,.bool bz,.slice bm bs bq] T.heap.size I.heap.size l u) (PlX w 79 27 l u) (PlI.from w W0 _ _ _ _ _ l u (by omega) dY) (PlX.from _ _ _ _ _ _ (by omega)) ⟨Kept.refl _ _ _,Nat.le_refl _,e0,e1,e2,(0,0),af,dK.out,λ_=>rfl⟩
  (λx W=>{tmps:=#[.slice A l.length c,.agg #[.bool bv,.slice bj bt bn,.bool bx,.slice bl br bp,.bool bw,.slice bk bu bo,.bool bz,.slice bm bs bq],undef,.pointer (some ⟨w.heap.size,0,none⟩),.pointer (some ⟨w.heap.size+1,0,none⟩),.pointer (some ⟨w.heap.size+1+1,0,none⟩),.pointer (some ⟨I.heap.size,0,none⟩),.int .i64 l[x.1].k,.pointer (some ⟨W.heap.size,0,none⟩),undef,undef,
   .agg #[.bool bS,.slice bH bQ bL,.bool bU,.slice bJ bO bM],.agg #[.bool bT,.slice bI bR pc2,.bool bV,.slice bK bP bN],.agg #[.bool bS,.slice bH bQ bL,.bool bU,.slice bJ bO bM,.bool bT,.slice bI bR pc2,.bool bV,.slice bK bP bN],.slice A l.length c,.func (.func 129) #[] #[.pointer (some ⟨T.heap.size,0,none⟩)],.int .i64 l[x.1].k,.agg (tv x.1),undef,undef,undef,undef,undef,undef,undef,undef,undef,undef,undef,undef,undef,undef,undef,undef,undef,undef,undef,undef,undef,undef,undef,undef,undef,undef,undef],defers:=[]}) (λx W=>W.alloc (.cells (tv x.1) 79)) (λ_ _=>World.grownBy_alloc _ _ _) (λx W hz=>Kept.alloc _ (by omega) (by simp;omega)) ?_ ?_ ?_ ?_
 ·intro la x W K hK;dsimp only[qI3];obtain⟨b,off,hA,hb,aJ⟩:=dW.out (by have:=x.2;omega);obtain⟨s1,A1,n1,c1,t1,B1,m1,d1,s2,A2,n2,c2,t2,B2,m2,d2,he,-⟩:=aJ x.1 x.2;rw[he]at hK ⊢;clear aJ hA hb o af e0 e1 e2;gi_wp2;exact hK
 ·rintro la bi x W V ⟨k1,k2,k3,k4,k5,s,k6,k7,k8⟩ el em dL eZ;have hx:=x.2;obtain⟨b,off,hA,hb,aJ⟩:=dW.out (by omega);obtain⟨s1,A1,n1,c1,t1,B1,m1,d1,s2,A2,n2,c2,t2,B2,m2,d2,he,-⟩:=aJ x.1 x.2;have M:=dL W.heap.size _ (qCN W _) rfl;have ed:=ec.out x.1 x.2;have b4:Below w.heap.size w V:=bX.out.trans k1.1;have aQ:=ed.le b4;have dP:l.getD x.1 default=l[x.1]:=by simp[List.getD_eq_getElem?_getD,List.getElem?_eq_getElem hx]
  have Z:bi++[x]<+:List.finRange l.length->qBL u (0,0) l=(match armG u s l[x.1]with
    | .error e=> .error e
    | .ok t=>qBL u t (l.drop (bi++[x]).length)):=λhp=>by
   obtain⟨fa,dU⟩:=qCh hp;rw[k8 fa,<-dU,qMO hx,dP,List.length_append,List.length_singleton,<-dU]
   cases armG u s l[x.1]<;>rfl
  obtain⟨be,aS,bc,aW,bg,aU,ba,aY,bf,aT,bd,aX,bh,aV,bb,aZ,H,q⟩:=k6
  have aI:∀(W':World) (z:Int) (hk:KeepsFrom W0.heap.size V W') (hb:Below w.heap.size w W') (h4:W'.heap[w.heap.size+1]? =some (.cells qEP 79)) (h5:W'.heap[w.heap.size+2]? =some (.cells #[.int .i64 0] 27)) (he:armG u s l[x.1]= .error z) (aa:Act),
    ownPostG W0.heap.size (Kept w.heap.size [T.heap.size]) (PlI w W0 79 27 #[.bool bv,.slice bj bt bn,.bool bx,.slice bl br bp,.bool bw,.slice bk bu bo,.bool bz,.slice bm bs bq] T.heap.size I.heap.size l u) (PlX w 79 27 l u) (bi++[x]) V .ret aa ((set8 W' (w.heap.size+1) (.bool false) (.slice none 0 0) (.bool false) (.slice none 0 0) (.bool false) (.slice none 0 0) (.bool false) (.slice none 0 0)).setCell ⟨w.heap.size+1+1,0,none⟩ (.int .i64 z)):=λW' z hk hb h4 h5 he aa=>
   ⟨(hk.trans (qFw _ _ _ _ _ _ _ _ _ _ _)).trans ((KeepsOthers.setCell _ _ _).from _),rfl,(qEi hb (by omega) _ _ _ _ _ _ _ _).setCell (p:=⟨w.heap.size+1+1,0,none⟩) (by show w.heap.size<=w.heap.size+1+1;omega) _,
    (Below.heap_setCell _ _ _ _ (show w.heap.size+1≠w.heap.size+1+1 by omega)).trans (qAc h4 _ _ _ _ _ _ _ _),z,qAZ (((qAT W' (w.heap.size+1) _ _ _ _ _ _ _ _).2.1 _ (show w.heap.size+2≠w.heap.size+1 by omega)).trans h5),λhp=>by rw[Z hp,he]⟩
  have X:∀(w4:World) (s':G2) (a3:Bool) (ap:Option Addr) (a1 av:Nat) (a5:Bool) (ar:Option Addr) (az ax:Nat) (a4:Bool) (aq:Option Addr) (a2 aw:Nat) (a6:Bool) (au:Option Addr) (a0 ay:Nat) (G:Le V w4) (hf:TurnF w4 (.agg #[.bool a3,.slice ap a1 av,.bool a5,.slice ar az ax,.bool a4,.slice aq a2 aw,.bool a6,.slice au a0 ay]) s') (he:armG u s l[x.1]= .ok s') (aa:Act),
    ownPostG W0.heap.size (Kept w.heap.size [T.heap.size]) (PlI w W0 79 27 #[.bool bv,.slice bj bt bn,.bool bx,.slice bl br bp,.bool bw,.slice bk bu bo,.bool bz,.slice bm bs bq] T.heap.size I.heap.size l u) (PlX w 79 27 l u) (bi++[x]) V .normal aa (set8 w4 I.heap.size (.bool a3) (.slice ap a1 av) (.bool a5) (.slice ar az ax) (.bool a4) (.slice aq a2 aw) (.bool a6) (.slice au a0 ay)):=λw4 s' a3 ap a1 av a5 ar az ax a4 aq a2 aw a6 au a0 ay G hf he aa=>by
   have dC:=bxl G H;have ht:=qAT w4 I.heap.size (.bool a3) (.slice ap a1 av) (.bool a5) (.slice ar az ax) (.bool a4) (.slice aq a2 aw) (.bool a6) (.slice au a0 ay)
   have dS:Kept w.heap.size [T.heap.size] V (set8 w4 I.heap.size (.bool a3) (.slice ap a1 av) (.bool a5) (.slice ar az ax) (.bool a4) (.slice aq a2 aw) (.bool a6) (.slice au a0 ay)):=
    ⟨qEi (G.mono (by omega)) (by omega) _ _ _ _ _ _ _ _,λB hB=>(ht.2.1 _ (by simp at hB;omega)).trans (G.block _ (by simp at hB;omega))⟩
   exact⟨(qCS G _).trans (qFw _ _ _ _ _ _ _ _ _ _ _),dS,k1.trans dS,by rw[ht.1];exact Nat.le_trans k2 G.size,(ht.2.1 _ (by omega)).trans (bxl G k3),(ht.2.1 _ (by omega)).trans (bxl G k4),(ht.2.1 _ (by omega)).trans (bxl G k5),s',
    ⟨a3,ap,a1,av,a5,ar,az,ax,a4,aq,a2,aw,a6,au,a0,ay,qAc dC _ _ _ _ _ _ _ _,hf.touch (qAu dC) ht⟩,qRX he,λhp=>by rw[Z hp,he]⟩
  rw[he]at M aQ ⊢;obtain⟨yc,cQ⟩:∃y,l[x.1]=y:=⟨_,rfl⟩;rw[cQ]at aI X aQ ⊢;have cb:=dR.out _ (List.getElem_mem hx);rw[cQ]at cb;clear o aJ hA hb dL Z k8 ed dP cQ he;obtain⟨kk,yt⟩:=yc;dsimp only at aQ cb ⊢;obtain⟨BB,cB⟩:∃BB,W.heap.size=BB:=⟨_,rfl⟩;rw[cB]at M ⊢;obtain⟨cq,cr,cs,ct,cu,cv,cw,cx⟩:=qAF k3;have cf:=λW' (G:Le V W')=>qL9 u kk _ W' (ef.out.le (b4.trans (G.mono (by omega)))) fe.out;have gF:BB<V.heap.size:=(gsl M);have gH:W0.heap.size<=V.heap.size:=k2;have⟨U,b9,cF,ea,aH,cR,cS,fX⟩:=hyd8 aI X M aQ b4 k1 k2 cB;have⟨go,gn,g4,g5,g6,eM,ac,ag⟩:=hyd8 em el e0 e1 e2 af H q;have⟨cT,bF,bG,ff,cO⟩:=hyd5 k3 k4 k5 k7 cf;clear cf k7 k5 k4 k3 q H af e2 e1 e0 el em cB k2 k1 b4 aQ M X aI;gi_wp2_with (fail);refine⟨trivial,?_⟩;gi_at_call 40;refine(CallsIn.inRound la (callsIn_wide.2 (cO.out V (Le.refl _)))).mono ?_;rintro e w1 ⟨F,v1,cc,rfl,bD⟩;clear cq cr cs ct cu cv cw cx
  cases hP:powG u kk with
  | error z=>
   rw[hP]at bD;obtain⟨rfl,rfl⟩:=bD;have ek:=qLa hP;obtain⟨w0,gL,aL,kx⟩:=al1 w1 (.cells qEP 79);obtain⟨dh,di,dj,dk,dl,dm,dn,dp⟩:=qAF kx;have⟨dq,dr,ds,dt,du,dv,dw,dx⟩:=frz8 kx;have bE:=F.size;obtain⟨w2,ei,d⟩:=qJm (F.trans aL) bE;have R:=bxl d bF.out;have S:=bxl d bG.out;obtain⟨a8,a9,aA,aB,aC,aD,aE,aF⟩:=qAF R;have⟨cy,cz,c0,c3,c4,c6,c7,c8⟩:=frz8 R;have gr:=qAC S;have fr:=fz0 S 0;have h:=U.out w2 cc (qCS d _) (aH.out.trans (d.mono (by omega))) R S (qJJ hP);have⟨cK,eV,ah,et,eu,j,b3,er⟩:=hyd8 F aL d R S h hP kx;clear kx hP h S R d aL F;gi_wp2_with (refine⟨trivial,?_⟩);exact j.out _
  | ok xg=>
   rw[hP]at bD;obtain⟨b5,rfl⟩:=bD;obtain⟨fz,fm,fx,fq,f1,fo,fv,ft,f0,fn,fy,fs,f2,fp,fw,fu,rfl⟩:=id b5.aform;obtain⟨w2,ei,ai,kx⟩:=al1 w1 (.cells #[.bool fz,.slice fm fx fq,.bool f1,.slice fo fv ft,.bool f0,.slice fn fy fs,.bool f2,.slice fp fw fu] 79);have d:Le V w2:=F.trans ai;have cH:=b5.le ai;have cV:=bxl d cF.out;obtain⟨cq,cr,cs,ct,cu,cv,cw,cx⟩:=qAF cV;obtain⟨dh,di,dj,dk,dl,dm,dn,dp⟩:=qAF kx;have ce:=qI0 yt (qAa xg) _ _ w2 (ea.out.le d) cH.isAV;have bE:=F.size;have⟨cK,eW,ah,fZ,gd,gp,er,cN⟩:=hyd8 F ai d b5 cH cV kx ce;have b3:=hyd1 hP;clear hP ce kx cV cH b5 d ai F;gi_wp2_with (fail);clear ei;refine⟨trivial,?_⟩;gi_at_call 41;refine(CallsIn.inRound la (callsIn_wide.2 cN.out)).mono ?_;rintro e w3 ⟨L,v3,cc,rfl,aO⟩;clear cq cr cs ct cu cv cw cx dh di dj dk dl dm dn dp;have ad:=bxl L er.out;obtain⟨dy,dz,d3,d4,d5,d6,d7,d8⟩:=qAF ad;have⟨dq,dr,ds,dt,du,dv,dw,dx⟩:=frz8 ad;have C:Le V w3:=ah.out.trans L;change IsResT w3 v3 cc (mulG yt (qAa xg))at aO
   cases hM:mulG yt (qAa xg)with
   | error z=>
    rw[hM]at aO;obtain⟨rfl,rfl⟩:=aO;have ek:=qHC hM;obtain⟨w4,ej,i⟩:=qJm C bE;have R:=bxl i bF.out;have S:=bxl i bG.out;obtain⟨a8,a9,aA,aB,aC,aD,aE,aF⟩:=qAF R;have⟨cy,cz,c0,c3,c4,c6,c7,c8⟩:=frz8 R;have gr:=qAC S;have fr:=fz0 S 0;have h:=U.out w4 cc (qCS i _) (aH.out.trans (i.mono (by omega))) R S (qJK b3.out hM);have⟨cL,bB,aM,et,eu,j,cC,es⟩:=hyd8 L C i R S h hM ad;clear ad hM h S R i C L;gi_wp2_with (refine⟨trivial,?_⟩);exact j.out _
   | ok yg=>
    rw[hM]at aO;obtain⟨b6,rfl⟩:=aO;obtain⟨h0,ha,hw,hi,h2,hd,ho,hm,h1,hc,hy,hj,h3,hg,hs,hn,rfl⟩:=id b6.aform;obtain⟨w4,ej,i,ky,cI⟩:=qNv C bE ad b6;have ks:=bxl i ac.out;obtain⟨cY,cZ,da,db,dc,dd,de,df⟩:=qAF ks;obtain⟨eB,eC,eD,eE,eF,eG,eH,eI⟩:=qAF ky;have bZ:=qNm (qAa s) (qAa yg) _ _ w4 (ag.out.le i).isAV cI.isAV;have⟨cL,bB,aM,ga,gP,ge,gO,cE⟩:=hyd8 L C i b6 ky cI ks bZ;have⟨cC,es⟩:=hyd2 hM ad;clear ad hM bZ ks cI ky b6 i C L;gi_wp2_with (fail);clear ej;clear dq dr ds dt du dv dw dx dy dz d3 d4 d5 d6 d7 d8;refine⟨trivial,?_⟩;gi_at_call 90;refine(CallsIn.inRound la (callsIn_wide.2 cE.out)).mono ?_;rintro e w5 ⟨N,v5,cc,rfl,aP⟩;clear cY cZ da db dc dd de df eB eC eD eE eF eG eH eI;have f:Le V w5:=aM.out.trans N;have ao:=bxl f ac.out;obtain⟨fN,fO,fP,fQ,fR,fS,fT,fU⟩:=qAF ao;have⟨g7,g8,g9,gA,gB,gC,gD,gE⟩:=frz8 ao;change IsResT w5 v5 cc (qKV (qAa s) (qAa yg))at aP
    cases hA:qKV (qAa s) (qAa yg)with
    | error z=>
     rw[hA]at aP;obtain⟨rfl,rfl⟩:=aP;have ek:=qHC hA;have ht:=qAT w5 I.heap.size (.bool false) (.slice none 0 0) (.bool false) (.slice none 0 0) (.bool false) (.slice none 0 0) (.bool false) (.slice none 0 0);obtain⟨w6,ab⟩:∃w6,((((((((w5.setCell ⟨I.heap.size,0,none⟩ (.bool false)).setCell ⟨I.heap.size,1,none⟩ (.slice none 0 0)).setCell ⟨I.heap.size,2,none⟩ (.bool false)).setCell ⟨I.heap.size,3,none⟩ (.slice none 0 0)).setCell ⟨I.heap.size,4,none⟩ (.bool false)).setCell ⟨I.heap.size,5,none⟩ (.slice none 0 0)).setCell ⟨I.heap.size,6,none⟩ (.bool false)).setCell ⟨I.heap.size,7,none⟩ (.slice none 0 0))=w6:=⟨_,rfl⟩;have J:Touch I.heap.size w5 w6:=by rw[<-ab];exact ht
     have am:Below w.heap.size w w6:=by rw[<-ab];exact qEi (aH.out.trans (f.mono (by omega))) (by omega) _ _ _ _ _ _ _ _
     have cJ:KeepsFrom W0.heap.size V w6:=by rw[<-ab];exact(qCS f _).trans (qFw _ _ _ _ _ _ _ _ _ _ _)
     have R:=(J.2.1 _ (show w.heap.size+1≠I.heap.size by omega)).trans (bxl f bF.out);have S:=(J.2.1 _ (show w.heap.size+2≠I.heap.size by omega)).trans (bxl f bG.out);obtain⟨a8,a9,aA,aB,aC,aD,aE,aF⟩:=qAF R;have⟨cy,cz,c0,c3,c4,c6,c7,c8⟩:=frz8 R;have gr:=qAC S;have fr:=fz0 S 0;have h:=U.out w6 cc cJ am R S ((qHD b3.out cC.out).trans hA);have⟨cM,bC,ep,fc,dZ,ca,gh,et⟩:=hyd8 N f ao ht J am cJ R;have⟨eu,j,eQ⟩:=hyd3 S h hA;clear hA h S R cJ am J ht ao f N;gi_wp2_with (refine⟨trivial,?_⟩);exact j.out _
    | ok sg=>
     rw[hA]at aP;obtain⟨b7,rfl⟩:=aP;obtain⟨fH,f4,fF,f8,fJ,f6,fD,fB,fI,f5,fG,f9,fK,f7,fE,fC,rfl⟩:=id b7.aform;have h:=b9.out w5 sg fH f4 fF f8 fJ f6 fD fB fI f5 fG f9 fK f7 fE fC f b7 ((qHD b3.out cC.out).trans hA);have⟨cM,bC,ep,gb,j,eQ⟩:=hyd6 N f ao b7 h hA;clear hA h b7 ao f N;gi_wp2_with (refine⟨trivial,?_⟩);exact j.out _
 ·rintro D ys W hD rfl ⟨k1,k2,k3,k4,k5,s,⟨be,aS,bc,aW,bg,aU,ba,aY,bf,aT,bd,aX,bh,aV,bb,aZ,H,q⟩,k7,k8⟩ al
  have Q:qBL u (0,0) l= .ok s:=by
   rw[k8 (qB7 _),List.length_finRange];exact qNt
  obtain⟨cY,cZ,da,db,dc,dd,de,df⟩:=qAF H;obtain⟨a8,a9,aA,aB,aC,aD,aE,aF⟩:=qAF k4;have⟨cy,cz,c0,c3,c4,c6,c7,c8⟩:=frz8 k4;have dX:∀(vs:Array Value),True:=λ_=>trivial;have ht:=qAT W (w.heap.size+1) (.bool be) (.slice aS bc aW) (.bool bg) (.slice aU ba aY) (.bool bf) (.slice aT bd aX) (.bool bh) (.slice aV bb aZ);obtain⟨w6,ab⟩:∃w6,((((((((W.setCell ⟨(w.heap.size+1),0,none⟩ (.bool be)).setCell ⟨(w.heap.size+1),1,none⟩ (.slice aS bc aW)).setCell ⟨(w.heap.size+1),2,none⟩ (.bool bg)).setCell ⟨(w.heap.size+1),3,none⟩ (.slice aU ba aY)).setCell ⟨(w.heap.size+1),4,none⟩ (.bool bf)).setCell ⟨(w.heap.size+1),5,none⟩ (.slice aT bd aX)).setCell ⟨(w.heap.size+1),6,none⟩ (.bool bh)).setCell ⟨(w.heap.size+1),7,none⟩ (.slice aV bb aZ))=w6:=⟨_,rfl⟩;have J:Touch (w.heap.size+1) W w6:=by rw[<-ab];exact ht
  have h4:w6.heap[w.heap.size+1]? =some (.cells #[.bool be,.slice aS bc aW,.bool bg,.slice aU ba aY,.bool bf,.slice aT bd aX,.bool bh,.slice aV bb aZ] 79):=by rw[<-ab];exact qAc k4 _ _ _ _ _ _ _ _
  have h5:=(J.2.1 _ (show w.heap.size+2≠w.heap.size+1 by omega)).trans k5;have dM:=q.touch (qAu k4) J;have dH:=(J.2.1 D (by omega)).trans al;have am:Below w.heap.size w w6:=by rw[<-ab];exact qEi (bX.out.trans k1.1) (by omega) _ _ _ _ _ _ _ _
  have gr:=qAC h5;have fr:=fz0 h5 0;clear o k8 dX;have⟨cR,cS,cT,bF,bG,ac,ag,ff⟩:=hyd8 k1 k2 k3 k4 k5 H q k7;have⟨Y,bY,fc,dZ,eP,dA,dN,dI⟩:=hyd8 Q al ht J h4 h5 dM dH;have ca:=hyd1 am;clear am dH dM h5 h4 J ht al Q k7 q H k5 k4 k3 k2 k1;gi_wp2;refine qAI w.heap.size [{target:= .collected D,args:=#[]}] _ ⟨⟨D,rfl,by omega,?_,by simp⟩,trivial⟩ λw9 hb r=>?_
  ·exact(Below.heap_setCell _ _ _ _ (show D≠w.heap.size+1+1 by omega)).trans dI.out
  ·have c5:=qAC (r _ _ (qAZ dA.out) rfl);obtain⟨ci,cj,ck,cl,cm,cn,co,cp⟩:=qAF (r _ _ ((Below.heap_setCell _ _ _ _ (show w.heap.size+1≠w.heap.size+1+1 by omega)).trans eP.out) rfl);have eU:=(dN.out.put64 (z':=0) dA.out).kc (W':=w9) ⟨hb.size,r⟩;exact⟨.tuple #[.agg #[.bool be,.slice aS bc aW,.bool bg,.slice aU ba aY,.bool bf,.slice aT bd aX,.bool bh,.slice aV bb aZ],.int .i64 0],by simp[results,Tryz.results42,go_sem,c5,ci,cj,ck,cl,cm,cn,co,cp],(ca.out.setCell (p:=⟨w.heap.size+1+1,0,none⟩) (by show w.heap.size<=w.heap.size+1+1;omega) _).trans hb,_,_,rfl,by rw[Y.out];exact⟨eU,rfl⟩⟩
 ·rintro D cc bi W hD dV ⟨rfl,k1,k2,z,k3,k4⟩ al;have Q:=k4 dV;clear o k4;have⟨cR,cS,cT,bY,Y⟩:=hyd5 k1 k2 k3 al Q;clear Q al k3 k2 k1;gi_wp2;refine qAI w.heap.size [{target:= .collected D,args:=#[]}] _ ⟨⟨D,rfl,by omega,bY.out,by simp⟩,trivial⟩ λw9 hb r=>?_;have c5:=qAC (r _ _ cT.out rfl);obtain⟨ci,cj,ck,cl,cm,cn,co,cp⟩:=qAF (r _ _ cS.out rfl);exact⟨.tuple #[.agg qEP,.int .i64 z],by simp[results,Tryz.results42,go_sem,c5,ci,cj,ck,cl,cm,cn,co,cp],cR.out.trans hb,_,_,rfl,by rw[Y.out];exact⟨rfl,rfl⟩⟩
end Go.Proofs.YtabfaobakmjiaaaGreat
namespace Go.Proofs.YtabfaobakmjiaaaGreat
set_option maxRecDepth 100000
set_option maxHeartbeats 8000000
open Go.RowKit Go.Shelf
set_option linter.unusedVariables false
set_option linter.unusedSimpArgs false
theorem qEl {w W:World} {X:Nat} {u0 u1:Value} (h:Le w W) (hX:w.heap.size<=X):Le w ((W.setCell ⟨X,0,none⟩ u0).setCell ⟨X,1,none⟩ u1):=
 (Below.setCell h (p:=⟨X,0,none⟩) hX _).setCell (p:=⟨X,1,none⟩) hX _
def spE:Except Int (Int×Int)->Int×Int×Int
 | .ok (a,b)=>(a,b,0)
 | .error z=>(0,0,z)
def qRr (r:Except Int (Int×Int)) (w:World) (e:Ending) (w':World):Prop:=Le w w'/\e= .returned (.tuple #[.agg #[.int .i64 (spE r).1,.int .i64 (spE r).2.1],.int .i64 (spE r).2.2])
theorem qQZ {x:FracA×FracA} {X a:Int} (h:qAV x.1=(X,a)) (ha:a≠0):qB0 x= .error a:=by unfold qB0;rw[h];exact if_pos ha
theorem qQ0 {x:FracA×FracA} {X Y b:Int} (h:qAV x.1=(X,0)) (h2:qAV x.2=(Y,b)) (hb:b≠0):qB0 x= .error b:=by
 unfold qB0;rw[h,h2];rw[if_neg (by simp)];exact if_pos hb
theorem qQ1 {x:FracA×FracA} {X Y:Int} (h:qAV x.1=(X,0)) (h2:qAV x.2=(Y,0)):qB0 x=if qAE X (-10000) 10000&&qAE Y (-10000) 10000 then .ok (X,Y)else .error 22:=by
 unfold qB0;rw[h,h2,if_neg (by simp),if_neg (by simp)]
 by_cases b:(-10000<=X/\X<=10000)/\(-10000<=Y/\Y<=10000)
 ·rw[if_pos b,if_pos (by rw[within_iff.2 b.1,within_iff.2 b.2];rfl)]
 ·rw[if_neg b,if_neg ?_];intro h;rw[Bool.and_eq_true,within_iff,within_iff]at h;exact b h
theorem qLb (x:FracA×FracA) (v:Value) (w:World) (hv:IsTurnA w v x):Calls Tryz.prog 43 #[v] w (qRr (qB0 x) w):=by
 obtain⟨A1,c1,B1,C,A2,c2,B2,d2,rfl,P,Q⟩:=hv;obtain⟨W0,ab,af,G,k0,k1⟩:=qBX w (.cells #[.bool x.1.sn,.slice A1 x.1.gn.length c1,.bool x.1.sd,.slice B1 x.1.gd.length C,.bool x.2.sn,.slice A2 x.2.gn.length c2,.bool x.2.sd,.slice B2 x.2.gd.length d2] 79) (.cells #[.int .i64 0,.int .i64 0] 41);have H:=qI2 x.1 _ W0 (P.le G);have N:=λ(W:World) (h:Le W0 W)=>qI2 x.2 _ W (Q.le (G.trans h));obtain⟨X,a,hX⟩:∃X a,qAV x.1=(X,a):=⟨_,_,rfl⟩;obtain⟨Y,b,hY⟩:∃Y b,qAV x.2=(Y,b):=⟨_,_,rfl⟩;rw[hX]at H;simp only[hY]at N;dsimp only at H;obtain⟨r,hr⟩:∃r,qB0 x=r:=⟨_,rfl⟩;rw[hr];obtain⟨z0,z1,z2,z3,z4,z5,z6,z7⟩:=qAF k0;have ax:¬w.heap.size=w.heap.size+1:=by omega
 have ay:¬w.heap.size+1=w.heap.size:=by omega
 clear af;have⟨az,a0,S,ah,ai,T,U,L⟩:=hyd8 P Q G k0 k1 H N hX;have⟨R,O⟩:=hyd2 hY hr;clear hr hY hX N H k1 k0 G Q P;go_enter Tryz.func43,Tryz.ntmps43;go_wp2_with (fail);clear ab;go_at_call 91;refine T.out.mono ?_;rintro e W1 ⟨rfl,m⟩;have F:=bxl m ah.out;have z:=bxl m ai.out;have o:=S.out.trans m;clear z0 z1 z2 z3 z4 z5 z6 z7;obtain⟨z0,z1,z2,z3,z4,z5,z6,z7⟩:=qAF F
 by_cases ha:a=0
 ·subst ha;have V:=U.out W1 m;have⟨M,aa,J,A,Z⟩:=hyd5 m F z o V;clear V o z F m;go_wp2_with (fail);go_at_call 91;refine Z.out.mono ?_;rintro e W2 ⟨rfl,j⟩;have k:=bxl j J.out;have c:=A.out.trans j;clear z0 z1 z2 z3 z4 z5 z6 z7;obtain⟨g0,g1⟩:=qDj k;have⟨f0,f1⟩:=frz2 k
  by_cases hb:b=0
  ·subst hb;have l:=qQ1 L.out R.out;rw[O.out]at l;obtain⟨p,I⟩:∃p,qAE X (-10000) 10000=p:=⟨_,rfl⟩;obtain⟨q,hq⟩:∃q,qAE Y (-10000) 10000=q:=⟨_,rfl⟩;rw[I,hq]at l
   cases p with
   | true=>
    cases q with
    | true=>
     have f:r= .ok (X,Y):=l;obtain⟨D,C⟩:=qDj (qB8 (u0:=(.int .i64 X)) (u1:=(.int .i64 Y)) k);have d:=qEl (u0:=(.int .i64 X)) (u1:=(.int .i64 Y)) c (show w.heap.size<=w.heap.size+1 by omega);have⟨s,B,n,E,i,g,t,y⟩:=hyd8 j k c l f d I hq;clear hq I d f l c k j;go_wp2_with (first | (go_at_call 38;((with_reducible refine(qBr _ _ _ _).mono ?_);rintro e w' ⟨rfl,rfl⟩;first |rw[t.out]|rw[y.out])));exact bodyPost_ret (v:= .tuple #[.agg #[.int .i64 X,.int .i64 Y],.int .i64 0]) (by simp[results,Tryz.results43,go_sem,D,C]) rfl ⟨g.out,by rw[i.out];rfl⟩
    | false=>
     have f:r= .error 22:=l;obtain⟨D,C⟩:=qDj (qB8 (u0:=(.int .i64 0)) (u1:=(.int .i64 0)) k);have d:=qEl (u0:=(.int .i64 0)) (u1:=(.int .i64 0)) c (show w.heap.size<=w.heap.size+1 by omega);have⟨s,B,n,E,i,g,t,y⟩:=hyd8 j k c l f d I hq;clear hq I d f l c k j;go_wp2_with (first | (go_at_call 38;((with_reducible refine(qBr _ _ _ _).mono ?_);rintro e w' ⟨rfl,rfl⟩;first |rw[t.out]|rw[y.out])));exact bodyPost_ret (v:= .tuple #[.agg #[.int .i64 0,.int .i64 0],.int .i64 22]) (by simp[results,Tryz.results43,go_sem,D,C]) rfl ⟨g.out,by rw[i.out];rfl⟩
   | false=>
    cases q with
    | true=>
     have f:r= .error 22:=l;obtain⟨D,C⟩:=qDj (qB8 (u0:=(.int .i64 0)) (u1:=(.int .i64 0)) k);have d:=qEl (u0:=(.int .i64 0)) (u1:=(.int .i64 0)) c (show w.heap.size<=w.heap.size+1 by omega);have⟨s,B,n,E,i,g,t,y⟩:=hyd8 j k c l f d I hq;clear hq I d f l c k j;go_wp2_with (first | (go_at_call 38;((with_reducible refine(qBr _ _ _ _).mono ?_);rintro e w' ⟨rfl,rfl⟩;first |rw[t.out]|rw[y.out])));exact bodyPost_ret (v:= .tuple #[.agg #[.int .i64 0,.int .i64 0],.int .i64 22]) (by simp[results,Tryz.results43,go_sem,D,C]) rfl ⟨g.out,by rw[i.out];rfl⟩
    | false=>
     have f:r= .error 22:=l;obtain⟨D,C⟩:=qDj (qB8 (u0:=(.int .i64 0)) (u1:=(.int .i64 0)) k);have d:=qEl (u0:=(.int .i64 0)) (u1:=(.int .i64 0)) c (show w.heap.size<=w.heap.size+1 by omega);have⟨s,B,n,E,i,g,t,y⟩:=hyd8 j k c l f d I hq;clear hq I d f l c k j;go_wp2_with (first | (go_at_call 38;((with_reducible refine(qBr _ _ _ _).mono ?_);rintro e w' ⟨rfl,rfl⟩;first |rw[t.out]|rw[y.out])));exact bodyPost_ret (v:= .tuple #[.agg #[.int .i64 0,.int .i64 0],.int .i64 22]) (by simp[results,Tryz.results43,go_sem,D,C]) rfl ⟨g.out,by rw[i.out];rfl⟩
  ·have f:r= .error b:=by rw[<-O.out];exact qQ0 L.out R.out hb
   obtain⟨D,C⟩:=qDj (qB8 (u0:= .int .i64 0) (u1:= .int .i64 0) k);have d:=qEl (u0:= .int .i64 0) (u1:= .int .i64 0) c (show w.heap.size<=w.heap.size+1 by omega);have⟨s,B,n,i,g⟩:=hyd5 j k c f d;clear d f c k j;go_wp2;exact bodyPost_ret (v:= .tuple #[.agg #[.int .i64 0,.int .i64 0],.int .i64 b]) (by simp[results,Tryz.results43,go_sem,D,C]) rfl ⟨g.out,by rw[i.out];rfl⟩
 ·have f:r= .error a:=by rw[<-O.out];exact qQZ L.out ha
  obtain⟨g0,g1⟩:=qDj z;have⟨f0,f1⟩:=frz2 z;obtain⟨D,C⟩:=qDj (qB8 (u0:= .int .i64 0) (u1:= .int .i64 0) z);have d:=qEl (u0:= .int .i64 0) (u1:= .int .i64 0) o (show w.heap.size<=w.heap.size+1 by omega);have⟨M,aa,J,A,i,g⟩:=hyd6 m F z o f d;clear d f o z F m;go_wp2;exact bodyPost_ret (v:= .tuple #[.agg #[.int .i64 0,.int .i64 0],.int .i64 a]) (by simp[results,Tryz.results43,go_sem,D,C]) rfl ⟨g.out,by rw[i.out];rfl⟩
end Go.Proofs.YtabfaobakmjiaaaGreat

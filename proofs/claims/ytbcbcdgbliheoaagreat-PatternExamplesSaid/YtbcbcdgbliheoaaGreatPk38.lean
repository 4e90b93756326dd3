/- exact: run at rat: the deferred closure, a call that returns, a call that reports an error; CheckFrac. exact: the closures of operated and Compare: two .. -/
import Derived.Test.YtbcbcdgbliheoaaGreatPk36
import Derived.Test.YtbcbcdgbliheoaaGreatPk37
namespace Go.Proofs.YtbcbcdgbliheoaaGreat
set_option maxRecDepth 100000
set_option maxHeartbeats 4000000
open Go.RowKit Go.Shelf
set_option linter.unusedVariables false
set_option linter.unusedSimpArgs false
set_option maxRecDepth 10000
abbrev flt (c:Int):List PanicEntry:=[{v:= .iface 111 (.agg #[.int .i64 c]),recovered:=false}]
structure TwoG (i j:Nat) (D:Nat->Bool) (x:Nat->Value) (W:World):Prop where
 a:D i=true->∃k,x i= .pointer (some ⟨k,0,none⟩)/\k<W.heap.size
 b:D j=true->∃k,x j= .pointer (some ⟨k,0,none⟩)/\k<W.heap.size
 ne:D i=true->D j=true->x i≠x j
theorem TwoG.quiet {i j n:Nat} {D:Nat->Bool} {x:Nat->Value} {W W':World} {v:Value} (h:TwoG i j D x W) (hs:Le W W') (hi:n≠i) (hj:n≠j):TwoG i j (updB D n) (updV x n v) W':=by
 have c:∀q,q≠n->updB D n q=D q:=λq hq=>by simp[updB,hq]
 have d:∀q,q≠n->updV x n v q=x q:=λq hq=>by simp[updV,hq]
 refine⟨?_,?_,?_⟩
 ·rw[c i (Ne.symm hi),d i (Ne.symm hi)];exact λl=>by obtain⟨k,f,g⟩:=h.a l;exact⟨k,f,Nat.lt_of_lt_of_le g hs.size⟩
 ·rw[c j (Ne.symm hj),d j (Ne.symm hj)];exact λl=>by obtain⟨k,f,g⟩:=h.b l;exact⟨k,f,Nat.lt_of_lt_of_le g hs.size⟩
 ·rw[c i (Ne.symm hi),d i (Ne.symm hi),c j (Ne.symm hj),d j (Ne.symm hj)];exact h.ne
theorem TwoG.left {i j:Nat} {D:Nat->Bool} {x:Nat->Value} {W:World} {o:Obj} (h:TwoG i j D x W) (hij:i≠j):TwoG i j (updB D i) (updV x i (.pointer (some ⟨W.heap.size,0,none⟩))) (W.alloc o):=by
 have g:∀q,q≠i->updB D i q=D q:=λq hq=>by simp[updB,hq]
 have l:∀v q,q≠i->updV x i v q=x q:=λv q hq=>by simp[updV,hq]
 refine⟨λ_=>⟨W.heap.size,by simp[updV],by simp⟩,?_,λ_=>?_⟩
 ·rw[g j (Ne.symm hij),l _ j (Ne.symm hij)];exact λf=>by obtain⟨k,d,m⟩:=h.b f;exact⟨k,d,by rw[World.size_alloc];omega⟩
 ·rw[g j (Ne.symm hij),l _ j (Ne.symm hij)];intro f c;obtain⟨k,d,m⟩:=h.b f;rw[d]at c;simp only[updV,if_true]at c;injection c with c;injection c with c;injection c with c;omega
theorem TwoG.right {i j:Nat} {D:Nat->Bool} {x:Nat->Value} {W:World} {o:Obj} (h:TwoG i j D x W) (hij:i≠j):TwoG i j (updB D j) (updV x j (.pointer (some ⟨W.heap.size,0,none⟩))) (W.alloc o):=by
 have f:∀q,q≠j->updB D j q=D q:=λq hq=>by simp[updB,hq]
 have g:∀v q,q≠j->updV x j v q=x q:=λv q hq=>by simp[updV,hq]
 refine⟨?_,λ_=>⟨W.heap.size,by simp[updV],by simp⟩,?_⟩
 ·rw[f i hij,g _ i hij];exact λd=>by obtain⟨k,c,l⟩:=h.a d;exact⟨k,c,by rw[World.size_alloc];omega⟩
 ·rw[f i hij,g _ i hij];intro d _ b;obtain⟨k,c,l⟩:=h.a d;rw[c]at b;simp only[updV,if_true]at b;injection b with b;injection b with b;injection b with b;omega
theorem TwoG.start {i j:Nat} {D:Nat->Bool} {x:Nat->Value} {W:World} (hi:D i=false) (hj:D j=false):TwoG i j D x W:=
 ⟨λh=>absurd h (by rw[hi];simp),λh=>absurd h (by rw[hj];simp),λh=>absurd h (by rw[hi];simp)⟩
def MPred.ratO (x:FracA):MPred:=⟨λv w=>∃r,x.rat?=some r/\RatL (λ_=>True) .u32 w v r,λ_ _ _ hb ⟨r,e,h⟩=>⟨r,e,h.le hb⟩⟩
def FBox (W:World) (B:Nat) (v:Value) (x:FracA):Prop:=∃A c A' c',v= .agg #[.bool x.sn,.slice A x.gn.length c,.bool x.sd,.slice A' x.gd.length c']/\W.heap[B]? =some (.cells #[.bool x.sn,.slice A x.gn.length c,.bool x.sd,.slice A' x.gd.length c'] 47)/\IsFracA (λ_=>True) W v x
theorem FBox.lt {W:World} {B:Nat} {v:Value} {x:FracA} (h:FBox W B v x):B<W.heap.size:=by
 obtain⟨A,c,d,f,e,b,g⟩:=h;exact(gsl b)
theorem qH8:qAZ Tryz.prog 60:=λ_ _=>by kernel_rfl
def qKI (x y:FracA) (w:World) (e:Ending) (w':World):Prop:=Le w w'/\(((okAF x&&okAF y)=true/\e= .returned (.int .i64 (cmpV x y)))∨((okAF x&&okAF y)=false/\e= .panicked (flt 10)))
theorem qOC {x y:FracA} (h:x.rat?=none∨y.rat?=none):(okAF x&&okAF y)=false:=by
 unfold okAF
 rcases h with h|h
 ·rw[h];rfl
 ·rw[h];simp
theorem qNR {x y:FracA} {a b:Rat} (h1:x.rat?=some a) (h2:y.rat?=some b):(okAF x&&okAF y)=true:=by unfold okAF;rw[h1,h2];rfl
theorem qJt (x y:FracA) (Bx By:Nat) (va vb:Value) (w:World) (hx:FBox w Bx va x) (hy:FBox w By vb y):
  Calls Tryz.prog 60 #[.pointer (some ⟨Bx,0,none⟩),.pointer (some ⟨By,0,none⟩)] w (qKI x y w):=by
 have bS:=hx.lt;have bT:=hy.lt;obtain⟨A,c,A',c',rfl,kx,aD⟩:=hx;obtain⟨B,d,B',d',rfl,ky,aE⟩:=hy;obtain⟨a0,a1,a2,a3⟩:=qAO kx;obtain⟨b0,b1,b2,b3⟩:=qAO ky;have⟨bW,bX,ab,ac⟩:=hyd4 kx ky aD aE;clear aE aD ky kx;go_enter Tryz.func60,Tryz.ntmps60;go_wp2_with (fail);refine qDJ (R:=leRel) 6 [some 5,some 6,some 7,some 8,some 3,some 4,none,none] [[],[0],[],[2],[],[],[1,4],[3,5]]
  [.eq (.agg #[.bool x.sn,.slice A x.gn.length c,.bool x.sd,.slice A' x.gd.length c']),MPred.ratO x,.eq (.agg #[.bool y.sn,.slice B y.gn.length d,.bool y.sd,.slice B' y.gd.length d']),MPred.ratO y,MPred.box w.heap.size (.cells #[.bool false,.slice none 0 0,.slice none 0 0] 88),MPred.box w.heap.size (.cells #[.bool false,.slice none 0 0,.slice none 0 0] 88)] (TwoG 4 5) (λch W=>ch=flt 10/\(x.rat?=none∨y.rat?=none)/\Le w W) (by kernel_rfl) (by kernel_rfl) (by kernel_rfl) (by kernel_rfl) (by kernel_rfl) (λD L t=>TwoG.start (t 4 (by decide)) (t 5 (by decide))) ?_ ?_ ?_
 ·simp only[List.take_succ_cons,List.take_zero];refine sGc rfl ?_ (sGc rfl ?_ (sGc rfl ?_ (sGc rfl ?_ (sGc rfl ?_ (sGc rfl ?_ (qC9))))))
  ·intro D L W t C f l i Q hK hP;have aN:=(Below.cell f (p:=⟨Bx,0,none⟩) (by show Bx<w.heap.size;omega)).trans a0;have aO:=(Below.cell f (p:=⟨Bx,1,none⟩) (by show Bx<w.heap.size;omega)).trans a1;have aP:=(Below.cell f (p:=⟨Bx,2,none⟩) (by show Bx<w.heap.size;omega)).trans a2;have aQ:=(Below.cell f (p:=⟨Bx,3,none⟩) (by show Bx<w.heap.size;omega)).trans a3;simp only[fA]at hK ⊢;go_wp2;exact hK _ _ lrR rfl (i.quiet (Le.refl _) (by decide) (by decide))
  ·intro D L W t C f l i Q hK hP;obtain⟨M,-⟩:=l;change _=_ at M;simp only[fA,M]at hK ⊢
   cases hr:x.rat? with
   | some r=>
    have J:=qDu (λ_=>True) x r _ W (Up.any _) (ab.out.le f) hr;have⟨n,m,v,q⟩:=hyd4 J hr i f;clear f i hr J;go_wp2_with (fail);go_at_call 61;refine n.out.mono ?_;rintro e w' ⟨v',rfl,P,S⟩;have y3:=S;obtain⟨A1,c1,A2,c2,rfl,-,-⟩:=S.form;have bi:=hyd1 S;clear S;go_wp2;exact hK _ _ P ⟨r,m.out,y3⟩ (v.out.quiet P (by decide) (by decide))
   | none=>
    have J:=qDv (λ_=>True) x _ W (Up.any _) (ab.out.le f) hr;have⟨n,m,v,q⟩:=hyd4 J hr i f;clear f i hr J;go_wp2_with (fail);go_at_call 61;refine n.out.mono ?_;rintro e w' ⟨rfl,P⟩;go_wp2_with (fail);exact hP _ _ _ ⟨rfl,.inl m.out,q.out.trans P⟩
  ·intro D L W t C f l i Q hK hP;have aN:=(Below.cell f (p:=⟨By,0,none⟩) (by show By<w.heap.size;omega)).trans b0;have aO:=(Below.cell f (p:=⟨By,1,none⟩) (by show By<w.heap.size;omega)).trans b1;have aP:=(Below.cell f (p:=⟨By,2,none⟩) (by show By<w.heap.size;omega)).trans b2;have aQ:=(Below.cell f (p:=⟨By,3,none⟩) (by show By<w.heap.size;omega)).trans b3;simp only[fA]at hK ⊢;go_wp2;exact hK _ _ lrR rfl (i.quiet (Le.refl _) (by decide) (by decide))
  ·intro D L W t C f l i Q hK hP;obtain⟨M,-⟩:=l;change _=_ at M;simp only[fA,M]at hK ⊢
   cases hr:y.rat? with
   | some r=>
    have J:=qDu (λ_=>True) y r _ W (Up.any _) (ac.out.le f) hr;have⟨n,m,v,q⟩:=hyd4 J hr i f;clear f i hr J;go_wp2_with (fail);go_at_call 61;refine n.out.mono ?_;rintro e w' ⟨v',rfl,P,S⟩;have y3:=S;obtain⟨A1,c1,A2,c2,rfl,-,-⟩:=S.form;have bi:=hyd1 S;clear S;go_wp2;exact hK _ _ P ⟨r,m.out,y3⟩ (v.out.quiet P (by decide) (by decide))
   | none=>
    have J:=qDv (λ_=>True) y _ W (Up.any _) (ac.out.le f) hr;have⟨n,m,v,q⟩:=hyd4 J hr i f;clear f i hr J;go_wp2_with (fail);go_at_call 61;refine n.out.mono ?_;rintro e w' ⟨rfl,P⟩;go_wp2_with (fail);exact hP _ _ _ ⟨rfl,.inr m.out,q.out.trans P⟩
  ·intro D L W t C f l i Q hK hP;simp only[fA]at hK ⊢;have ar:=f.size;go_wp2;exact hK _ _ (qAA _ _) ⟨_,rfl,ar,by unfold World.alloc;exact Array.getElem?_push_size⟩ (i.left (by decide))
  ·intro D L W t C f l i Q hK hP;simp only[fA]at hK ⊢;have ar:=f.size;go_wp2;exact hK _ _ (qAA _ _) ⟨_,rfl,ar,by unfold World.alloc;exact Array.getElem?_push_size⟩ (i.right (by decide))
 ·rintro a9 ch W aV ⟨rfl,aA,o⟩;exact⟨aV,o,.inr ⟨qOC aA,rfl⟩⟩
 ·intro D L W t f l i Q' aS _;have M:=l 0 (by decide);have e2:=l 2 (by decide);change _=_ at M e2;obtain⟨a,ha,j⟩:=l 1 (by decide);obtain⟨b,hb,k⟩:=l 3 (by decide);obtain⟨k4,q4,aW,s⟩:=l 4 (by decide);obtain⟨k5,q5,aX,ax⟩:=l 5 (by decide);replace q4:L 4=_:=q4;replace q5:L 5=_:=q5;replace j:RatL (λ_=>True) .u32 W (L 1) a:=j;replace k:RatL (λ_=>True) .u32 W (L 3) b:=k;have ao:=i.ne (t 4 (by decide)) (t 5 (by decide));rw[q4,q5]at ao;have g:k5≠k4:=λh=>ao (by rw[h]);obtain⟨An,cn,Ad,cd,q1,-,-⟩:=j.form;obtain⟨Bn,dn,Bd,dd,q3,-,-⟩:=k.form;rw[q1]at j;rw[q3]at k;simp only[List.drop_succ_cons,List.drop_zero];rw[show List.range 6=[0,1,2,3,4,5]from rfl];simp only[fA,M,e2,q1,q3,q4,q5];clear M e2 q1 q3 q4 q5 l i t ao;obtain⟨sa,au⟩:∃sa,rneg a=sa:=⟨_,rfl⟩;obtain⟨sb,av⟩:∃sb,rneg b=sb:=⟨_,rfl⟩;rw[au]at j ⊢;rw[av]at k ⊢
  obtain⟨T,aT,F,j4,j5,H,I⟩:∃T,((W.setCell ⟨k4,0,none⟩ (.bool sa)).setCell ⟨k4,1,none⟩ (.slice An (dg (rnum a)).length cn)).setCell ⟨k4,2,none⟩ (.slice Ad (dg a.den).length cd)=T/\Le w T/\T.heap[k4]? =some (.cells #[.bool sa,.slice An (dg (rnum a)).length cn,.slice Ad (dg a.den).length cd] 88)/\T.heap[k5]? =some (.cells #[.bool false,.slice none 0 0,.slice none 0 0] 88)/\RatL (λ_=>True) .u32 T (.agg #[.bool sa,.slice An (dg (rnum a)).length cn,.slice Ad (dg a.den).length cd]) a/\RatL (λ_=>True) .u32 T (.agg #[.bool sb,.slice Bn (dg (rnum b)).length dn,.slice Bd (dg b.den).length dd]) b:=
   ⟨_,rfl,qBr f aW,qBO s,((Below.heap_setCell _ _ _ _ g).trans ((Below.heap_setCell _ _ _ _ g).trans (Below.heap_setCell _ _ _ _ g))).trans ax,j.box3 s,k.box3 s⟩
  obtain⟨U,aU,V,l4,l5,Z,aa⟩:∃U,((T.setCell ⟨k5,0,none⟩ (.bool sb)).setCell ⟨k5,1,none⟩ (.slice Bn (dg (rnum b)).length dn)).setCell ⟨k5,2,none⟩ (.slice Bd (dg b.den).length dd)=U/\Le w U/\U.heap[k4]? =some (.cells #[.bool sa,.slice An (dg (rnum a)).length cn,.slice Ad (dg a.den).length cd] 88)/\U.heap[k5]? =some (.cells #[.bool sb,.slice Bn (dg (rnum b)).length dn,.slice Bd (dg b.den).length dd] 88)/\RatL (λ_=>True) .u32 U (.agg #[.bool sa,.slice An (dg (rnum a)).length cn,.slice Ad (dg a.den).length cd]) a/\RatL (λ_=>True) .u32 U (.agg #[.bool sb,.slice Bn (dg (rnum b)).length dn,.slice Bd (dg b.den).length dd]) b:=
   ⟨_,rfl,qBr F aX,((Below.heap_setCell _ _ _ _ (Ne.symm g)).trans ((Below.heap_setCell _ _ _ _ (Ne.symm g)).trans (Below.heap_setCell _ _ _ _ (Ne.symm g)))).trans j4,qBO j5,H.box3 j5,I.box3 j5⟩
  have bo:¬k5=k4:=g;have bp:¬k4=k5:=λh=>g h.symm;obtain⟨z0,z1,z2,f0,f1,f2⟩:=qAU s;obtain⟨u0,u1,u2,g0,g1,g2⟩:=qAU j5;obtain⟨d0,d1,d2,-⟩:=qAU l4;obtain⟨d3,d4,d5,-⟩:=qAU l5;have bQ:=(gsl l4);have bR:=(gsl l5);have⟨q,aY,ak,bv,bw,bU,bV,bY⟩:=hyd8 f F V s ax j4 j5 l4;have⟨bZ,br,bs,ba,bb,ap,aq,bt⟩:=hyd8 l5 j k H I Z aa au;have⟨bu,ag,ah⟩:=hyd3 av ha hb;clear hb ha av au aa Z I H k j l5 l4 j5 j4 ax s V F f;go_wp2;clear z0 z1 z2 f0 f1 f2 u0 u1 u2 g0 g1 g2;refine aS _ _ ?_;clear aT aU;have E:=qNR ag.out ah.out;have ai:=qHz ag.out ah.out;obtain⟨cv,z⟩:∃cv,rsgn (a - b)=cv:=⟨_,rfl⟩;rw[z]at ai;have Y:=qML (λ_=>True) a b _ _ U (Up.any _) ap.out aq.out ((FracA.sz ag.out).up (by decide)) ((FracA.sz ah.out).up (by decide));have⟨N,aB,aj,an⟩:=hyd4 E ai z Y;clear Y z ai E;go_wp2_with (fail);go_at_call 62;refine an.out.mono ?_;rintro e V3 ⟨v3,rfl,X,O⟩;obtain⟨Cn,en,Cd,ed,e3,-,-⟩:=O.form;have aw:=qNM (λ_=>True) (a - b) _ V3 O;rw[aj.out]at aw;subst e3;have⟨al,bq,aC⟩:=hyd3 X O aw;clear aw O X;go_wp2_with (fail);go_at_call 63;refine aC.out.mono ?_;rintro e V4 ⟨rfl,G⟩;have o:=(ak.out.trans al.out).trans G;have⟨aZ,am⟩:=hyd2 G o;clear o G
  go_wp2;go_ret;exact⟨am.out,.inl ⟨N.out,by rw[aB.out];rfl⟩⟩
end Go.Proofs.YtbcbcdgbliheoaaGreat

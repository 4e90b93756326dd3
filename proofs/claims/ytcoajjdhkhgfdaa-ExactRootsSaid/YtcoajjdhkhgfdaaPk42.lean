/- Roots, program side: RootsIn; the exported functions. (The region is that of Compare's function, at another world.) -/
import Derived.Test.YtcoajjdhkhgfdaaPk41
namespace Go.Proofs.Ytcoajjdhkhgfdaa
set_option maxRecDepth 100000
set_option maxHeartbeats 4000000
open Go.RowKit Go.Shelf
set_option linter.unusedVariables false
set_option linter.unusedSimpArgs false
def valI:Except Int Int->Int
 | .ok z=>z
 | .error _=>0
def qAo:Except Int Int->Int
 | .ok _=>0
 | .error z=>z
noncomputable def qAm (p:List FracA) (x y:FracA):Except Int Int:=
 match qA7 p with
 | .error z=> .error z
 | .ok l=>match x.rat? with
  | none=> .error 10
  | some a=>match y.rat? with
   | none=> .error 10
   | some b=>if l.length=0 then .error 6 else if 0<rsgn (a - b)then .error 2 else if l.length=1 then .ok 0 else .ok (cntA a (qBR l) - cntA b (qBR l))
theorem qK6 {p:List FracA} {x y:FracA} {z:Int} (h:qA7 p= .error z):qAm p x y= .error z:=by unfold qAm;rw[h]
theorem qIf {p:List FracA} {x y:FracA} {l:List Rat} (h:qA7 p= .ok l) (hb:x.rat?=none∨y.rat?=none):qAm p x y= .error 10:=by
 unfold qAm;rw[h];dsimp only
 rcases hb with hb|hb
 ·rw[hb]
 ·rw[hb]
  cases x.rat?<;>rfl
theorem qJb {p:List FracA} {x y:FracA} {l:List Rat} {a b:Rat} (h:qA7 p= .ok l) (ha:x.rat?=some a) (hb:y.rat?=some b):qAm p x y=if l.length=0 then .error 6 else if 0<rsgn (a - b)then .error 2 else if l.length=1 then .ok 0 else .ok (cntA a (qBR l) - cntA b (qBR l)):=by
 unfold qAm;rw[h,ha,hb]
theorem qIS (res:Except Int Int) (g:FuncId) (cap:Array Value) (w:World) (hg:qA8 Try.prog g) (hf:∀W,Le w W->Calls Try.prog g cap W (IntR W res)):
  Calls Try.prog 12 #[.func (.func g) #[] cap] w λe w'=>e= .returned (.tuple #[.int .i64 (valI res),.int .i64 (qAo res)])/\Le w w':=by
 cases res with
 | ok z=>
  refine qH7 g cap z w hg λW d=>(hf W d).mono ?_;rintro e h ⟨c,⟨f,b,rfl⟩| ⟨f,b,-⟩⟩
  ·injection b with b;subst b;exact⟨rfl,c⟩
  ·cases b
 | error z=>
  refine qGn g cap z w hg λW d=>(hf W d).mono ?_;rintro e h ⟨c,⟨f,b,-⟩| ⟨f,b,rfl⟩⟩
  ·cases b
  ·injection b with b;subst b;exact⟨rfl,c⟩
theorem qLU (p:List FracA) (vp:Value) (w:World) (hp:SeqE inK w vp p) (hroom:qDR p):Calls Try.prog 6 #[vp] w λe w'=>e= .returned (.tuple #[.int .i64 (valI (qBt p)),.int .i64 (qAo (qBt p))])/\Le w w':=by
 have C:=mkf;have j:=hp;obtain⟨x,A,rfl,-⟩:=hp.slice;obtain⟨y,n,d,m⟩:=enew w (.cells #[.slice x p.length A] 22);have b:=qIS (qBt p) 13 #[.pointer (some ⟨w.heap.size,0,none⟩)] y qIR λW r=>qK5 p _ w.heap.size _ W ((r.block _ (gsl m)).trans m) (j.le (d.trans (r.mono d.size))) hroom;obtain⟨v,q⟩:∃v,valI (qBt p)=v:=⟨_,rfl⟩;obtain⟨c,o⟩:∃c,qAo (qBt p)=c:=⟨_,rfl⟩;rw[q,o]at b ⊢;have⟨t,D,f,F,k,l,E,B⟩:=hyd8 j hp d m b hroom q o;clear o q hroom b m d hp j;go_enter Try.func6,Try.ntmps6;go_wp2_with (fail);clear n;go_at_call 12;refine k.out.mono ?_;rintro e z ⟨rfl,h⟩;have g:Le w z:=f.out.trans (h.mono f.out.size);have⟨s,i⟩:=hyd2 h g;clear g h;go_wp2;go_ret2;exact⟨rfl,i.out⟩
theorem qGx:qA8 Try.prog 22:=λ_ _=>by kernel_rfl
theorem qIg (p:List FracA) (x y:FracA) (vp va vb:Value) (Bp Bx By:Nat) (tp:TypeId) (w:World) (kp:w.heap[Bp]? =some (.cells #[vp] tp)) (hp:SeqE inK w vp p) (hx:FBox w Bx va x) (hy:FBox w By vb y) (hroom:qDR p):
  Calls Try.prog 22 #[.pointer (some ⟨Bp,0,none⟩),.pointer (some ⟨Bx,0,none⟩),.pointer (some ⟨By,0,none⟩)] w (IntR w (qAm p x y)):=by
 obtain⟨res,aP⟩:∃r,qAm p x y=r:=⟨_,rfl⟩;rw[aP];have c0:w.cell? ⟨Bp,0,none⟩=some vp:=cell_of_row w Bp 0 _ _ _ kp;have kc:=qHJ vp p w hp;have dy:=qEM;unfold qA8 at dy;have⟨fl,fd,Y,ai,bl,d8,d9⟩:=hyd7 kp hp kc aP hroom hx hy;clear hy hx hroom aP kc hp kp;go_enter Try.func22,Try.ntmps22;go_wp2_with (fail);go_at_call 14;refine Y.out.mono ?_;rintro e W1 ⟨av,⟨X,v1,ci,rfl,ao⟩| ⟨z,hz,rfl⟩⟩
 ·obtain⟨fr,cU,xt⟩:=qBA ci;have cH:=d8.out.le av;have cJ:=d9.out.le av;have fe:=cH.lt;have ff:=cJ.lt;obtain⟨A,c,A',c',rfl,kx,cI⟩:=cH;obtain⟨B,d,B',d',rfl,ky,cK⟩:=cJ;obtain⟨a0,a1,a2,a3⟩:=qAh kx;obtain⟨b0,b1,b2,b3⟩:=qAh ky;obtain⟨LA,lc,rfl⟩:=ao.slice;obtain⟨n,hn⟩:∃n,X.length=n:=⟨_,rfl⟩;rw[hn]at ao ⊢;clear c0;have⟨fm,fn,bF,bG,am,aS,aQ,e6⟩:=hyd8 kx ky cI cK av ci ao cU;have⟨fs,bi⟩:=hyd2 xt hn;clear hn xt cU ao ci av cK cI ky kx;go_wp2_with (fail);refine qEq (R:=leRel) 6 [some 10,some 11,some 12,some 13,some 5,some 6,none,none] [[],[0],[],[2],[],[],[1,4],[3,5]]
   [.eq (.agg #[.bool x.sn,.slice A x.gn.length c,.bool x.sd,.slice A' x.gd.length c']),MPred.ratO x,.eq (.agg #[.bool y.sn,.slice B y.gn.length d,.bool y.sd,.slice B' y.gd.length d']),MPred.ratO y,MPred.box W1.heap.size (.cells #[.bool false,.slice none 0 0,.slice none 0 0] 57),MPred.box W1.heap.size (.cells #[.bool false,.slice none 0 0,.slice none 0 0] 57)] (TwoG 4 5) (λch W=>ch=flt 10/\(x.rat?=none∨y.rat?=none)/\Le W1 W) (by kernel_rfl) (by kernel_rfl) (by kernel_rfl) (by kernel_rfl) (by kernel_rfl) (λD x' hD=>TwoG.start (hD 4 (by decide)) (hD 5 (by decide))) ?_ ?_ ?_
  ·simp only[List.take_succ_cons,List.take_zero];refine sGc rfl ?_ (sGc rfl ?_ (sGc rfl ?_ (sGc rfl ?_ (sGc rfl ?_ (sGc rfl ?_ (qA2))))))
   ·intro D x' W hD aA f q N Q hK hP;have di:=(Below.cell f (p:=⟨Bx,0,none⟩) (by show Bx<W1.heap.size;omega)).trans a0;have dj:=(Below.cell f (p:=⟨Bx,1,none⟩) (by show Bx<W1.heap.size;omega)).trans a1;have dk:=(Below.cell f (p:=⟨Bx,2,none⟩) (by show Bx<W1.heap.size;omega)).trans a2;have dl:=(Below.cell f (p:=⟨Bx,3,none⟩) (by show Bx<W1.heap.size;omega)).trans a3;simp only[fA]at hK ⊢;go_wp2;exact hK _ _ lrR rfl (N.quiet (Le.refl _) (by decide) (by decide))
   ·intro D x' W hD aA f q N Q hK hP;obtain⟨F,-⟩:=q;change _=_ at F;simp only[fA,F]at hK ⊢
    cases hr:x.rat? with
    | some r=>
     have r1:=qE1 (λ_=>True) x r _ W (Up.any _) (bF.out.le f) hr;have⟨Z,ah,a4,J⟩:=hyd4 r1 hr N f;clear f N hr r1;go_wp2_with (fail);go_at_call 23;refine Z.out.mono ?_;rintro e w' ⟨v',rfl,M,y2⟩;have y3:=y2;obtain⟨A1,c1,A2,c2,rfl,-,-⟩:=y2.form;have dP:=hyd1 y2;clear y2;go_wp2;exact hK _ _ M ⟨r,ah.out,y3⟩ (a4.out.quiet M (by decide) (by decide))
    | none=>
     have r1:=qE2 (λ_=>True) x _ W (Up.any _) (bF.out.le f) hr;have⟨Z,ah,a4,J⟩:=hyd4 r1 hr N f;clear f N hr r1;go_wp2_with (fail);go_at_call 23;refine Z.out.mono ?_;rintro e w' ⟨rfl,M⟩;go_wp2_with (fail);exact hP _ _ _ ⟨rfl,.inl ah.out,J.out.trans M⟩
   ·intro D x' W hD aA f q N Q hK hP;have di:=(Below.cell f (p:=⟨By,0,none⟩) (by show By<W1.heap.size;omega)).trans b0;have dj:=(Below.cell f (p:=⟨By,1,none⟩) (by show By<W1.heap.size;omega)).trans b1;have dk:=(Below.cell f (p:=⟨By,2,none⟩) (by show By<W1.heap.size;omega)).trans b2;have dl:=(Below.cell f (p:=⟨By,3,none⟩) (by show By<W1.heap.size;omega)).trans b3;simp only[fA]at hK ⊢;go_wp2;exact hK _ _ lrR rfl (N.quiet (Le.refl _) (by decide) (by decide))
   ·intro D x' W hD aA f q N Q hK hP;obtain⟨F,-⟩:=q;change _=_ at F;simp only[fA,F]at hK ⊢
    cases hr:y.rat? with
    | some r=>
     have r1:=qE1 (λ_=>True) y r _ W (Up.any _) (bG.out.le f) hr;have⟨Z,ah,a4,J⟩:=hyd4 r1 hr N f;clear f N hr r1;go_wp2_with (fail);go_at_call 23;refine Z.out.mono ?_;rintro e w' ⟨v',rfl,M,y2⟩;have y3:=y2;obtain⟨A1,c1,A2,c2,rfl,-,-⟩:=y2.form;have dP:=hyd1 y2;clear y2;go_wp2;exact hK _ _ M ⟨r,ah.out,y3⟩ (a4.out.quiet M (by decide) (by decide))
    | none=>
     have r1:=qE2 (λ_=>True) y _ W (Up.any _) (bG.out.le f) hr;have⟨Z,ah,a4,J⟩:=hyd4 r1 hr N f;clear f N hr r1;go_wp2_with (fail);go_at_call 23;refine Z.out.mono ?_;rintro e w' ⟨rfl,M⟩;go_wp2_with (fail);exact hP _ _ _ ⟨rfl,.inr ah.out,J.out.trans M⟩
   ·intro D x' W hD aA f q N Q hK hP;simp only[fA]at hK ⊢;have ca:=f.size;go_wp2;exact hK _ _ (qAA _ _) ⟨_,rfl,ca,by unfold World.alloc;exact Array.getElem?_push_size⟩ (N.left (by decide))
   ·intro D x' W hD aA f q N Q hK hP;simp only[fA]at hK ⊢;have ca:=f.size;go_wp2;exact hK _ _ (qAA _ _) ⟨_,rfl,ca,by unfold World.alloc;exact Array.getElem?_push_size⟩ (N.right (by decide))
  ·rintro a9 ch W a8 ⟨rfl,ct,c8⟩;exact⟨a8,(show Le w W1 from am.out).trans c8,.inr ⟨10,by rw[<-ai.out];exact qIf aS.out ct,rfl⟩⟩
  ·intro D x' W hD f q N Q' a5 _;have F:=q 0 (by decide);have e2:=q 2 (by decide);change _=_ at F e2;obtain⟨a,ha,ac⟩:=q 1 (by decide);obtain⟨b,hb,ad⟩:=q 3 (by decide);obtain⟨T,q4,c6,aw⟩:=q 4 (by decide);obtain⟨U,q5,c7,cg⟩:=q 5 (by decide);replace q4:x' 4=_:=q4;replace q5:x' 5=_:=q5;replace ac:RatL (λ_=>True) .u32 W (x' 1) a:=ac;replace ad:RatL (λ_=>True) .u32 W (x' 3) b:=ad;have bV:=N.ne (hD 4 (by decide)) (hD 5 (by decide));rw[q4,q5]at bV;have E:U≠T:=λh=>bV (by rw[h]);obtain⟨An,cn,Ad,cd,q1,-,-⟩:=ac.form;obtain⟨Bn,dn,Bd,dd,q3,-,-⟩:=ad.form;rw[q1]at ac;rw[q3]at ad;simp only[List.drop_succ_cons,List.drop_zero];rw[show List.range 6=[0,1,2,3,4,5]from rfl];simp only[fA,F,e2,q1,q3,q4,q5];clear F e2 q1 q3 q4 q5 q N hD bV;obtain⟨sa,cb⟩:∃sa,rneg a=sa:=⟨_,rfl⟩;obtain⟨sb,ce⟩:∃sb,rneg b=sb:=⟨_,rfl⟩;rw[cb]at ac ⊢;rw[ce]at ad ⊢
   obtain⟨V1,ds,aE,j4,j5,aH,aL⟩:∃V1,((W.setCell ⟨T,0,none⟩ (.bool sa)).setCell ⟨T,1,none⟩ (.slice An (dg (rnum a)).length cn)).setCell ⟨T,2,none⟩ (.slice Ad (dg a.den).length cd)=V1/\Le W1 V1/\V1.heap[T]? =some (.cells #[.bool sa,.slice An (dg (rnum a)).length cn,.slice Ad (dg a.den).length cd] 57)/\V1.heap[U]? =some (.cells #[.bool false,.slice none 0 0,.slice none 0 0] 57)/\RatL (λ_=>True) .u32 V1 (.agg #[.bool sa,.slice An (dg (rnum a)).length cn,.slice Ad (dg a.den).length cd]) a/\RatL (λ_=>True) .u32 V1 (.agg #[.bool sb,.slice Bn (dg (rnum b)).length dn,.slice Bd (dg b.den).length dd]) b:=
    ⟨_,rfl,qAb f c6,qAR aw,((Below.heap_setCell _ _ _ _ E).trans ((Below.heap_setCell _ _ _ _ E).trans (Below.heap_setCell _ _ _ _ E))).trans cg,ac.box3 aw,ad.box3 aw⟩
   obtain⟨V2,dt,bx,l4,l5,b5,b9⟩:∃V2,((V1.setCell ⟨U,0,none⟩ (.bool sb)).setCell ⟨U,1,none⟩ (.slice Bn (dg (rnum b)).length dn)).setCell ⟨U,2,none⟩ (.slice Bd (dg b.den).length dd)=V2/\Le W1 V2/\V2.heap[T]? =some (.cells #[.bool sa,.slice An (dg (rnum a)).length cn,.slice Ad (dg a.den).length cd] 57)/\V2.heap[U]? =some (.cells #[.bool sb,.slice Bn (dg (rnum b)).length dn,.slice Bd (dg b.den).length dd] 57)/\RatL (λ_=>True) .u32 V2 (.agg #[.bool sa,.slice An (dg (rnum a)).length cn,.slice Ad (dg a.den).length cd]) a/\RatL (λ_=>True) .u32 V2 (.agg #[.bool sb,.slice Bn (dg (rnum b)).length dn,.slice Bd (dg b.den).length dd]) b:=
    ⟨_,rfl,qAb aE c7,((Below.heap_setCell _ _ _ _ (Ne.symm E)).trans ((Below.heap_setCell _ _ _ _ (Ne.symm E)).trans (Below.heap_setCell _ _ _ _ (Ne.symm E)))).trans j4,qAR j5,aH.box3 j5,aL.box3 j5⟩
   have ei:¬U=T:=E;have ej:¬T=U:=λh=>E h.symm;obtain⟨z0,z1,z2,f0,f1,f2⟩:=qAB aw;obtain⟨u0,u1,u2,g0,g1,g2⟩:=qAB j5;obtain⟨d0,d1,d2,-⟩:=qAB l4;obtain⟨d3,d4,d5,-⟩:=qAB l5;have fb:=(gsl l4);have fc:=(gsl l5);have⟨J,dv,aF,et,eu,fi,fj,cP⟩:=hyd8 f aE bx aw cg j4 j5 l4;have⟨cQ,em,eo,dz,d6,aI,aM,ep⟩:=hyd8 l5 ac ad aH aL b5 b9 cb;have⟨er,bN,bO⟩:=hyd3 ce ha hb;clear hb ha ce cb b9 b5 aL aH ad ac l5 l4 j5 j4 cg aw bx aE f;go_wp2;clear z0 z1 z2 f0 f1 f2 u0 u1 u2 g0 g1 g2;refine a5 _ _ ?_;clear ds dt a5 a0 a1 a2 a3 b0 b1 b2 b3;have O:Le w V2:=(show Le w W1 from am.out).trans aF.out;have S:=aQ.out.le aF.out;have i:=qJb aS.out bN.out bO.out;rw[ai.out,bi.out]at i;obtain⟨cv,a7⟩:∃cv,rsgn (a - b)=cv:=⟨_,rfl⟩;rw[a7]at i
   by_cases h0:n=0
   ·rw[if_pos h0]at i;subst h0;have⟨P,ap,o,bv⟩:=hyd4 O S i a7;clear a7 i S O;go_wp2_with (fail);go_at_call 15
    with_reducible refine(qBL _ _).mono ?_
    rintro e W3 ⟨rfl,rfl⟩;go_wp2_with (fail);exact⟨rfl,P.out,.inr ⟨6,o.out,rfl⟩⟩
   ·rw[if_neg h0]at i;have j1:(0:Int)<(n:Int):=by omega
    have j2:0<n:=by omega
    have b4:=qHI (λ_=>True) a b _ _ V2 (Up.any _) aI.out aM.out ((FracA.sz bN.out).up (by decide)) ((FracA.sz bO.out).up (by decide));have⟨P,ap,o,bv,bU⟩:=hyd5 O S i a7 b4;clear b4 a7 i S O;go_wp2_with (fail);go_at_call 15
    with_reducible refine(qAz _ _).mono ?_
    rintro e W3 ⟨rfl,rfl⟩;go_wp2_with (fail);go_at_call 24;refine bU.out.mono ?_;rintro e V3 ⟨v3,rfl,bz,bj⟩;obtain⟨Cn,en,Cd,ed,e3,-,-⟩:=bj.form;have cf:=qFk (λ_=>True) (a - b) _ V3 bj;rw[bv.out]at cf;subst e3;have⟨bT,ek,cG⟩:=hyd3 bz bj cf;clear cf bj bz;go_wp2_with (fail);go_at_call 25;refine cG.out.mono ?_;rintro e V4 ⟨rfl,G⟩;have g:Le V2 V4:=bT.out.trans G;have s:Le w V4:=P.out.trans g;clear d0 d1 d2 d3 d4 d5
    by_cases cx:0<cv
    ·have j:=o.out;rw[if_pos cx]at j;have j3:decide (cv<=0)=false:=decide_eq_false (by omega);have j5:¬cv<=0:=by omega
     have⟨aG,an,t,v⟩:=hyd4 G g s j;clear j s g G;go_wp2_with (fail);go_at_call 15
     with_reducible refine(qBL _ _).mono ?_
     rintro e W3 ⟨rfl,rfl⟩;go_wp2_with (fail);exact⟨rfl,t.out,.inr ⟨2,v.out,rfl⟩⟩
    ·have j:=o.out;rw[if_neg cx]at j;have j3:decide (cv<=0)=true:=decide_eq_true (by omega);have j5:cv<=0:=by omega
     have I:=ap.out.le g
     by_cases h1:n=1
     ·rw[if_pos h1]at j;subst h1;have⟨aG,an,t,v,bm⟩:=hyd5 G g s j I;clear I j s g G;go_wp2_with (fail);go_at_call 15
      with_reducible refine(qAz _ _).mono ?_
      rintro e W3 ⟨rfl,rfl⟩;go_wp2;go_ret;exact⟨t.out,.inl ⟨0,v.out,rfl⟩⟩
     ·rw[if_neg h1]at j;have j4:((n:Int)==1)=false:=by simp;omega
      have bd:=bl.out X aS.out (by have:=bi.out;omega);obtain⟨bP,bh⟩:=qHX bd;have aR:RowE (ratK .u32) 57 w.heap.size V4 (.slice LA X.length lc) X:=by rw[bi.out];exact I
      have kh:=qIP w.heap.size _ X V4 aR s.size bd;rw[bi.out]at kh;obtain⟨L,hL⟩:∃L,qBR X=L:=⟨_,rfl⟩;rw[hL]at kh bP bh j;have cL:=(g.block _ (gsl cP.out)).trans cP.out;have cN:=(g.block _ (gsl cQ.out)).trans cQ.out;have b6:=aI.out.le g;have bC:=aM.out.le g;have bQ:∀k,W1.heap.size<=k->(Value.slice LA n lc).ownBlock ≠some k:=λk hk h9=>by have:=(aQ.out.nib h9).2.1;omega
      have cz:=bQ T c6;have c4:=bQ U c7;clear bQ aR;have⟨aG,an,t,v,bm,eh,dD,eZ⟩:=hyd8 G g s j I bd kh hL;have⟨bw,aT,aV,aJ,aN,c3,c5⟩:=hyd7 bP cL cN b6 bC cz c4;clear c4 cz bC b6 cN cL bP hL kh bd I j s g G;go_wp2_with (fail);go_at_call 15
      with_reducible refine(qAz _ _).mono ?_
      rintro e W3 ⟨rfl,rfl⟩;go_wp2_with (fail);go_at_call 17;refine dD.out.mono ?_;rintro e V5 ⟨v5,rfl,aj,bW⟩;have aB:Le w V5:=(show Below w.heap.size w V4 from t.out).trans aj.below;have cM:=(aj.oth T (gsl aT.out) c3.out).trans aT.out;have cO:=(aj.oth U (gsl aV.out) c5.out).trans aV.out;have b7:=aJ.out.kp aj.kp;have bD:=aN.out.kp aj.kp;obtain⟨CA,cc,rfl⟩:=bW.slice;have kk:=qG7 CA L.length cc V5;have⟨es,be,c9,dE,aU,aW,aK,aO⟩:=hyd8 aj aB bW kk cM cO b7 bD;clear bD b7 cO cM kk bW aB aj;go_wp2_with (fail);go_at_call 16;refine dE.out.mono ?_;rintro e V6 ⟨rfl,C,kB⟩;have bX:=(c9.out.le C).base0;have aC:=be.out.trans C;have ax:=(C.block _ (gsl aU.out)).trans aU.out;have ay:=(C.block _ (gsl aW.out)).trans aW.out;have b8:=aK.out.le C;have bE:=aO.out.le C;have bR:=gsl ax;have bS:=gsl ay;have q0:V6.cell? ⟨T,0,none⟩=some (.bool sa):=cell_of_row V6 T 0 _ _ _ ax;have q1:V6.cell? ⟨T,1,none⟩=some (.slice An (dg (rnum a)).length cn):=cell_of_row V6 T 1 _ _ _ ax;have q2:V6.cell? ⟨T,2,none⟩=some (.slice Ad (dg a.den).length cd):=cell_of_row V6 T 2 _ _ _ ax;have r0:V6.cell? ⟨U,0,none⟩=some (.bool sb):=cell_of_row V6 U 0 _ _ _ ay;have r1:V6.cell? ⟨U,1,none⟩=some (.slice Bn (dg (rnum b)).length dn):=cell_of_row V6 U 1 _ _ _ ay;have r2:V6.cell? ⟨U,2,none⟩=some (.slice Bd (dg b.den).length dd):=cell_of_row V6 U 2 _ _ _ ay
      obtain⟨cA,bb⟩:∃c,chgN (L.map (qDq a))=c:=⟨_,rfl⟩;obtain⟨cB,bc⟩:∃c,chgN (L.map (qDq b))=c:=⟨_,rfl⟩;have bA:cA<=1000:=by rw[<-bb];exact Nat.le_trans (qFY _) (by rw[List.length_map];exact bh)
      have bB:cB<=1000:=by rw[<-bc];exact Nat.le_trans (qFY _) (by rw[List.length_map];exact bh)
      have H:=v.out;unfold cntA at H;rw[bb,bc]at H;obtain⟨df,a8⟩:∃d,(cA:Int) - (cB:Int)=d:=⟨_,rfl⟩;rw[a8]at H
      have bu:∀(r:Rat) (W:World) (B1 B2 cR:Nat),Le V6 W->Rsz r 40->IBox W B1 r.num->IBox W B2 (r.den:Int)->chgN (L.map (qDq r))=cR->Calls Try.prog 34 #[.func (.func 52) #[] #[.pointer (some ⟨B1,0,none⟩),.pointer (some ⟨B2,0,none⟩)],.pointer (some ⟨V5.heap.size,0,none⟩)] W λe w'=>e= .returned (.int .i64 (cR:Int))/\Le W w':=λr W B1 B2 cR hW hr i1 i2 hc=>by
       have h9:=qDz 52 #[.pointer (some ⟨B1,0,none⟩),.pointer (some ⟨B2,0,none⟩)] (qDq r) L _ V5.heap.size _ W ((hW.block _ (gsl kB)).trans kB) (bX.le hW) bh qHa (λl hl=>qEK _) λV hV l hl A n c d7=>by
        have h8:=qJ9 0 (.slice A n c) l r.num (r.den:Int) B1 B2 V d7 (bw.out l hl).2.1 (bw.out l hl).2.2 (i1.le hV) (i2.le hV) (Isz.up (n:=10000) hr.1 (by decide)) (Isz.up (m:=40) (by unfold Isz;rw[Int.natAbs_natCast];exact hr.2) (by decide));have e8:(qBV l r.num (r.den:Int) l.length).sign =qDq r l:=rfl;rw[e8]at h8;simpa using h8
       rw[hc]at h9;exact h9
      have cC:=FracA.sz bN.out;have cE:=FracA.sz bO.out;have⟨dw,fk,el,bf,ev,ew,bY,bZ⟩:=hyd8 C kB bX aC ax ay b8 bE;have⟨dH,dI,dJ,dM,Z,dN,cu,cw⟩:=hyd8 q0 q1 q2 r0 r1 r2 bb bc;have⟨bk,a6,cD,cF,cy⟩:=hyd5 H bu cC cE a8;clear a8 cE cC bu H bc bb r2 r1 r0 q2 q1 q0 bE b8 ay ax aC bX kB C;clear aU aW aK aO aT aV aJ aN;go_wp2_with (fail);refine qAV (R:=leRel) 9 [some 30,some 31,some 32,some 33,some 34,some 35,some 36,some 37,some 38,some 3] [[],[],[1],[0,2],[],[],[5],[4,6],[3,7],[8]]
       [.eq (.func (.func 34) #[] #[.pointer (some ⟨V5.heap.size,0,none⟩)]),.eq (.agg #[.bool sa,.slice An (dg (rnum a)).length cn,.slice Ad (dg a.den).length cd]),MPred.sgn a,.eq (.int .i64 (cA:Int)),.eq (.func (.func 34) #[] #[.pointer (some ⟨V5.heap.size,0,none⟩)]),.eq (.agg #[.bool sb,.slice Bn (dg (rnum b)).length dn,.slice Bd (dg b.den).length dd]),MPred.sgn b,.eq (.int .i64 (cB:Int)),.eq (.int .i64 df)] (λ_ _=>False) (by kernel_rfl) (by kernel_rfl) (by kernel_rfl) (by kernel_rfl) (by kernel_rfl) ?_ (λ_ _ _ _ h=>h.elim) ?_
      ·simp only[List.take_succ_cons,List.take_zero];refine sMc rfl ?_ (sMc rfl ?_ (sMc rfl ?_ (sMc rfl ?_ (sMc rfl ?_ (sMc rfl ?_ (sMc rfl ?_ (sMc rfl ?_ (sMc rfl ?_ (qA2)))))))))
       ·intro xv W f q Q hK hP;simp only[fA]at hK ⊢;go_wp2;exact hK _ _ lrR rfl
       ·intro xv W f q Q hK hP;have t0:=(Below.cell f (p:=⟨T,0,none⟩) bR).trans dH.out;have t1:=(Below.cell f (p:=⟨T,1,none⟩) bR).trans dI.out;have t2:=(Below.cell f (p:=⟨T,2,none⟩) bR).trans dJ.out;simp only[fA]at hK ⊢;go_wp2;exact hK _ _ lrR rfl
       ·intro xv W f q Q hK hP;obtain⟨F,-⟩:=q;change _=_ at F;simp only[fA,F]at hK ⊢;have kc:=qHW a _ W (bY.out.le f);have Y:=hyd1 kc;clear kc;go_wp2_with (fail);go_at_call 26;refine Y.out.mono ?_;rintro e w' ⟨⟨v',rfl,y2⟩,M⟩;have y3:=y2;obtain⟨B1,B2,rfl,-,-⟩:=y2;have⟨ak,cj⟩:=hyd2 M y3;clear y3 M;go_wp2;exact hK _ _ ak.out cj.out
       ·intro xv W f q Q hK hP;obtain⟨F,e1,-⟩:=q;change _=_ at F;replace e1:∃B1 B2,(xv 2)= .func (.func 52) #[] #[.pointer (some ⟨B1,0,none⟩),.pointer (some ⟨B2,0,none⟩)]/\IBox W B1 a.num/\IBox W B2 (a.den:Int):=e1;obtain⟨B1,B2,q9,i1,i2⟩:=e1;simp only[fA,F,q9]at hK ⊢;have kc:=a6.out a W B1 B2 cA f cD.out i1 i2 cu.out;have⟨Y,dB,dC⟩:=hyd3 kc i1 i2;clear i2 i1 kc;go_wp2_with (fail);go_at_call 34;refine Y.out.mono ?_;rintro e w' ⟨rfl,M⟩;have ak:=hyd1 M;clear M;go_wp2;exact hK _ _ ak.out rfl
       ·intro xv W f q Q hK hP;simp only[fA]at hK ⊢;go_wp2;exact hK _ _ lrR rfl
       ·intro xv W f q Q hK hP;have t0:=(Below.cell f (p:=⟨U,0,none⟩) bS).trans dM.out;have t1:=(Below.cell f (p:=⟨U,1,none⟩) bS).trans Z.out;have t2:=(Below.cell f (p:=⟨U,2,none⟩) bS).trans dN.out;simp only[fA]at hK ⊢;go_wp2;exact hK _ _ lrR rfl
       ·intro xv W f q Q hK hP;obtain⟨F,-⟩:=q;change _=_ at F;simp only[fA,F]at hK ⊢;have kc:=qHW b _ W (bZ.out.le f);have Y:=hyd1 kc;clear kc;go_wp2_with (fail);go_at_call 26;refine Y.out.mono ?_;rintro e w' ⟨⟨v',rfl,y2⟩,M⟩;have y3:=y2;obtain⟨B1,B2,rfl,-,-⟩:=y2;have⟨ak,cj⟩:=hyd2 M y3;clear y3 M;go_wp2;exact hK _ _ ak.out cj.out
       ·intro xv W f q Q hK hP;obtain⟨F,e1,-⟩:=q;change _=_ at F;replace e1:∃B1 B2,(xv 6)= .func (.func 52) #[] #[.pointer (some ⟨B1,0,none⟩),.pointer (some ⟨B2,0,none⟩)]/\IBox W B1 b.num/\IBox W B2 (b.den:Int):=e1;obtain⟨B1,B2,q9,i1,i2⟩:=e1;simp only[fA,F,q9]at hK ⊢;have kc:=a6.out b W B1 B2 cB f cF.out i1 i2 cw.out;have⟨Y,dB,dC⟩:=hyd3 kc i1 i2;clear i2 i1 kc;go_wp2_with (fail);go_at_call 34;refine Y.out.mono ?_;rintro e w' ⟨rfl,M⟩;have ak:=hyd1 M;clear M;go_wp2;exact hK _ _ ak.out rfl
       ·intro xv W f q Q hK hP;obtain⟨F,e1,-⟩:=q;change _=_ at F e1;have jj:=cy.out;simp only[fA,F,e1]at hK ⊢;go_wp2;exact hK _ _ lrR (by show Value.int _ _=Value.int _ _;congr 1)
      intro xv W f q Q' a5 _;have e8:=q 8 (by decide);change _=_ at e8;simp only[List.drop_succ_cons,List.drop_zero];rw[show List.range 9=[0,1,2,3,4,5,6,7,8]from rfl];simp only[fA,e8];clear q;clear e8;have J:=hyd1 f;clear f;go_wp2;refine a5 _ _ ?_;clear a5;have f:=J.out;clear J;have aD:Le w W:=bf.out.trans f;have⟨bg,J⟩:=hyd2 aD f;clear f aD;go_wp2;go_ret;exact⟨bg.out,.inl ⟨df,bk.out,rfl⟩⟩
 ·have i:=qK6 (x:=x) (y:=y) hz;rw[ai.out]at i;have⟨am,fg,o⟩:=hyd3 av hz i;clear i hz av;go_wp2_with (fail);exact⟨rfl,am.out,.inr ⟨z,o.out,rfl⟩⟩
theorem qJc (p:List FracA) (x y:FracA) (vp vx vy:Value) (w:World) (hp:SeqE inK w vp p) (hx:IsFracA (λ_=>True) w vx x) (hy:IsFracA (λ_=>True) w vy y) (hroom:qDR p):Calls Try.prog 8 #[vp,vx,vy] w λe w'=>e= .returned (.tuple #[.int .i64 (valI (qAm p x y)),.int .i64 (qAo (qAm p x y))])/\Le w w':=by
 have ag:=mkf;have q:=hp;have s:=hx;have t:=hy;obtain⟨Y,c1,rfl,-⟩:=hp.slice;obtain⟨XA,xc,XB,xd,rfl,-,-⟩:=hx;obtain⟨YA,yc,YB,yd,rfl,-,-⟩:=hy;obtain⟨F,H,j,A⟩:=enew w (.cells #[.slice Y p.length c1] 22);obtain⟨B,I,g,D⟩:=enew F (.cells #[.bool x.sn,.slice XA x.gn.length xc,.bool x.sd,.slice XB x.gd.length xd] 27);obtain⟨G,J,h,E⟩:=enew B (.cells #[.bool y.sn,.slice YA y.gn.length yc,.bool y.sd,.slice YB y.gd.length yd] 27);have d:Below w.heap.size w B:=j.trans (g.mono j.size);have b:Below w.heap.size w G:=d.trans (h.mono d.size);have k:=(h.block _ (gsl ((g.block _ (gsl A)).trans A))).trans ((g.block _ (gsl A)).trans A);have l:=(h.block _ (gsl D)).trans D
 have i:=qIS (qAm p x y) 22 #[.pointer (some ⟨w.heap.size,0,none⟩),.pointer (some ⟨F.heap.size,0,none⟩),.pointer (some ⟨B.heap.size,0,none⟩)] G qGx λW z=>
  qIg p x y _ _ _ w.heap.size F.heap.size B.heap.size _ W ((z.block _ (gsl k)).trans k) (q.le (b.trans (z.mono b.size))) (FBox.mk s (b.trans (z.mono b.size)) ((z.block _ (gsl l)).trans l)) (FBox.mk t (b.trans (z.mono b.size)) ((z.block _ (gsl E)).trans E)) hroom
 obtain⟨v,N⟩:∃v,valI (qAm p x y)=v:=⟨_,rfl⟩;obtain⟨c,M⟩:∃c,qAo (qAm p x y)=c:=⟨_,rfl⟩;rw[N,M]at i ⊢;have⟨S,T,U,ah,O,P,Q,L⟩:=hyd8 q s t hp j g h d;have⟨f,aj,ak,al,V,X,r,C⟩:=hyd8 b A D E k l i hroom;have⟨ai,af⟩:=hyd2 N M;clear M N hroom i l k E D A b d h g j hp t s q;go_enter Try.func8,Try.ntmps8;go_wp2_with (fail);clear H I J;go_at_call 12;refine r.out.mono ?_;rintro e Z ⟨rfl,n⟩;have m:Le w Z:=(show Below w.heap.size w G from f.out).trans (n.mono f.out.size);have⟨R,o⟩:=hyd2 n m;clear m n;go_wp2;go_ret2;exact⟨rfl,o.out⟩
end Go.Proofs.Ytcoajjdhkhgfdaa

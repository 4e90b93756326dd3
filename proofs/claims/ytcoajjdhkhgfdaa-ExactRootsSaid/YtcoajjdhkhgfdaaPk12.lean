/- exact: fractions: opposite, minus, number. exact: fractions: number. exact: whole numbers that are arguments: isWhole. slices.IndexFunc, slices.ContainsFunc .. -/
import Derived.Test.YtcoajjdhkhgfdaaPk11
import Derived.Defers
import Derived.Recover
namespace Go.Proofs.Ytcoajjdhkhgfdaa
set_option maxRecDepth 100000
set_option maxHeartbeats 2000000
open Go.RowKit Go.Shelf
set_option linter.unusedVariables false
set_option linter.unusedSimpArgs false
theorem qHs (L:Nat->Prop) (r:Rat) (v:Value) (w:World) (h:RatL L .u32 w v r):
  Calls Try.prog 51 #[v] w λe w'=>∃v',e= .returned v'/\Le w w'/\RatL L .u32 w' v' (-r):=by
 obtain⟨k,m,l,n,rfl,o,p⟩:=h.form;obtain⟨q,B,C⟩:=qEF r;obtain⟨y,i⟩:∃y,rneg r=y:=⟨_,rfl⟩;rw[i]at q ⊢;obtain⟨c,b⟩:∃c,(dg (rnum r)).length =c:=⟨_,rfl⟩;obtain⟨j,f⟩:∃j,(dg r.den).length =j:=⟨_,rfl⟩;have A:decide (0<rnum r)=decide (0<c):=by rw[<-b];exact decide_eq_decide.2 (show 0<rnum r↔0<(dg (rnum r)).length by rw[dg_length_pos];omega)
 rw[A]at q;rw[b]at o;rw[f]at p;rw[b,f]
 have D:∀s t x,rneg (-r)=s->(∃v',Ending.returned (.agg #[.bool s,.slice k c m,.slice l j n])= .returned v'/\Le w ((w.alloc t).alloc x)/\RatL L .u32 ((w.alloc t).alloc x) v' (-r)):=λs t x M=>by
  have z:=(qAA w t).trans (qAA _ x);exact⟨_,rfl,z,_,_,by rw[M],by rw[B];exact o.le z,by rw[C];exact p.le z⟩
 have⟨Q,H,I,d,G,g,O,P⟩:=hyd8 h o p D i q B C;have⟨E,F,N⟩:=hyd3 b f A;clear A f b C B q i D p o h
 by_cases R:0<c
 ·have J:0<(c:Int):=by omega
  cases y
  ·go_enter Try.func51,Try.ntmps51;go_wp2;exact bodyPost_ret (v:= .agg #[.bool true,.slice k c m,.slice l j n]) (by simp[results,Try.results51,go_sem]) rfl (d.out _ _ _ (by rw[g.out];simp;omega))
  ·go_enter Try.func51,Try.ntmps51;go_wp2;exact bodyPost_ret (v:= .agg #[.bool false,.slice k c m,.slice l j n]) (by simp[results,Try.results51,go_sem]) rfl (d.out _ _ _ (by rw[g.out];simp))
 ·have J:¬0<(c:Int):=by omega
  cases y
  ·go_enter Try.func51,Try.ntmps51;go_wp2;exact bodyPost_ret (v:= .agg #[.bool false,.slice k c m,.slice l j n]) (by simp[results,Try.results51,go_sem]) rfl (d.out _ _ _ (by rw[g.out];simp;omega))
  ·go_enter Try.func51,Try.ntmps51;go_wp2;exact bodyPost_ret (v:= .agg #[.bool false,.slice k c m,.slice l j n]) (by simp[results,Try.results51,go_sem]) rfl (d.out _ _ _ (by rw[g.out];simp))
theorem qHI (L:Nat->Prop) (a b:Rat) (va vb:Value) (w:World) (hL:Up w L) (ha:RatL L .u32 w va a) (hb:RatL L .u32 w vb b) (hma:Rsz a 2000000) (hmb:Rsz b 2000000):
  Calls Try.prog 24 #[va,vb] w λe w'=>∃v',e= .returned v'/\Le w w'/\RatL L .u32 w' v' (a - b):=by
 have y:=ha;have z:=hb;have Y:Rsz (-b) 2000000:=by obtain⟨q1,q2,q3⟩:=qEF b;unfold Rsz;rw[q2,q3];exact hmb
 have p:a+ -b=a - b:=(Rat.sub_eq_add_neg a b).symm;obtain⟨An,cn,Ad,cd,rfl,J,I⟩:=ha.form;obtain⟨Bn,dn,Bd,dd,rfl,U,T⟩:=hb.form;obtain⟨sa,k⟩:∃sa,rneg a=sa:=⟨_,rfl⟩;obtain⟨sb,l⟩:∃sb,rneg b=sb:=⟨_,rfl⟩;rw[k]at y;rw[l]at z;rw[k,l];have⟨aw,aQ,aR,aE,aD,aG,aF,aI⟩:=hyd8 hL ha hb J I U T k;have⟨aJ,X,aH,Z,C,F,M⟩:=hyd7 l hma hmb Y p y z;clear z y p Y hmb hma l k T U I J hb ha hL;go_enter Try.func24,Try.ntmps24;go_wp2;obtain⟨W0,E,aS,g,h0,h1,h2⟩:=qCa w (.cells #[.bool sa,.slice An (dg (rnum a)).length cn,.slice Ad (dg a.den).length cd] 57) (.cells #[.bool sb,.slice Bn (dg (rnum b)).length dn,.slice Bd (dg b.den).length dd] 57) (.cells #[.bool false,.slice none 0 0,.slice none 0 0] 57);rw[E];clear E;obtain⟨ai,aj,ak,-⟩:=qAB h0;obtain⟨al,am,an,-⟩:=qAB h1;have m:=aw.out.le g;have G:=F.out.le g;have N:=M.out.le g;have⟨aN,aO,av,V,t,H,O⟩:=hyd7 h0 h1 h2 g m G N;clear N G m g h2 h1 h0;refine qAU (R:=leRel) 4 [some 5,some 6,some 7,some 8,none] [[],[],[1],[0,2],[3]]
  [.eq (.agg #[.bool sa,.slice An (dg (rnum a)).length cn,.slice Ad (dg a.den).length cd]),.eq (.agg #[.bool sb,.slice Bn (dg (rnum b)).length dn,.slice Bd (dg b.den).length dd]),MPred.rat L .u32 (-b),MPred.rat L .u32 (a - b)] (λ_ _=>False) (by kernel_rfl) (by kernel_rfl) (by kernel_rfl) (by kernel_rfl) ?_ (λ_ _ _ _ _ h=>h.elim) ?_
 ·simp only[List.take_succ_cons,List.take_zero];refine mSc ?_ (mSc ?_ (mSc ?_ (mSc ?_ (qAZ))))
  ·refine mSl rfl λx W c i Q hK _=>?_;have ao:=bcl c (by omega) ai;have ap:=bcl c (by omega) aj;have aq:=bcl c (by omega) ak;simp only[fA]at hK ⊢;go_wp2;exact hK _ _ lrR rfl
  ·refine mSl rfl λx W c i Q hK _=>?_;have ao:=bcl c (by omega) al;have ap:=bcl c (by omega) am;have aq:=bcl c (by omega) an;simp only[fA]at hK ⊢;go_wp2;exact hK _ _ lrR rfl
  ·refine mSl rfl λx W c i Q hK _=>?_;obtain⟨j,-⟩:=i;change _=_ at j;simp only[fA,j]at hK ⊢;go_wp2_with (fail);go_at_call 51;refine(qHs L b _ W (O.out.le c)).mono ?_;rintro e w' ⟨v',rfl,y1,D⟩;obtain⟨A1,c1,A2,c2,rfl,-,-⟩:=D.form;go_wp2;exact hK _ _ y1 D
  ·refine mSl rfl λx W c i Q hK _=>?_;obtain⟨j,q,-⟩:=i;change _=_ at j;replace q:RatL L .u32 W (x 2) (-b):=q;simp only[fA,j]at hK ⊢;go_wp2_with (fail);go_at_call 50;refine(qLB L a (-b) _ _ W (t.out.le c) (H.out.le c) q X.out Z.out).mono ?_;rintro e w' ⟨v',rfl,y1,D⟩;rw[C.out]at D;obtain⟨A1,c1,A2,c2,rfl,-,-⟩:=D.form;go_wp2;exact hK _ _ y1 D
 ·intro x W c i Q' ax _;have j:=i 0 (by decide);have q:=i 1 (by decide);have r:RatL L .u32 W (x 3) (a - b):=i 3 (by decide);change _=_ at j q;obtain⟨A1,c1,A2,c2,s,y3,y4⟩:=r.form;have d:=(Below.block c (w.heap.size+1+1) (by omega)).trans av.out;obtain⟨z0,z1,z2,g0,g1,g2⟩:=qAB d;simp only[List.drop_succ_cons,List.drop_zero];rw[show List.range 4=[0,1,2,3]from rfl];simp only[fA,j,q,s];generalize x 2=x2;clear j q i;have o:=λu0 u1 u2=>qAb (u0:=u0) (u1:=u1) (u2:=u2) (Le.trans V.out c) (show w.heap.size<=w.heap.size+1+1 by omega);have P:=λu0 u1 u2=>qAB (qAR (u0:=u0) (u1:=u1) (u2:=u2) d);have n:=λu0 u1 u2=>And.intro (NumL.box3 (u0:=u0) (u1:=u1) (u2:=u2) y3 d) (NumL.box3 (u0:=u0) (u1:=u1) (u2:=u2) y4 d);obtain⟨sr,B⟩:∃sr,rneg (a - b)=sr:=⟨_,rfl⟩;rw[B];have⟨A,S,f,aC,aU,aV,aA,a9⟩:=hyd8 o P n d y3 y4 s r;have⟨aP,aa⟩:=hyd2 c B;clear B c r s y4 y3 d n P o;go_wp2;refine ax _ _ ?_;go_wp2;obtain⟨d0,d1,d2,-⟩:=S.out (.bool sr) (.slice A1 (dg (rnum (a - b))).length c1) (.slice A2 (dg (a - b).den).length c2);refine bodyPost_ret (v:= .agg #[.bool sr,.slice A1 (dg (rnum (a - b))).length c1,.slice A2 (dg (a - b).den).length c2]) (by simp[results,Try.results24,go_sem,d0,d1,d2]) rfl ⟨_,rfl,A.out _ _ _,?_⟩;exact⟨_,_,by rw[aa.out],(f.out _ _ _).1,(f.out _ _ _).2⟩
theorem qLd (z:Int) (h:¬z<0) (hl:z<=9223372036854775807):IntKind.u64.wrap z=(z.natAbs:Int):=by
 have b:(2:Int)^IntKind.u64.bits=18446744073709551616:=by decide
 have c:IntKind.u64.signed=false:=rfl;unfold IntKind.wrap;simp only[b,c]
 simp;omega
theorem qGk (L:Nat->Prop) (p:Nat->Bool) (g:FuncId) (cap:Array Value) (v:Value) (zs:List Nat) (w:World) (hv:ArrL L (gv .u32) w v zs)
  (hg:qA8 Try.prog g)
  (hf:∀x,x∈zs->Calls Try.prog g (#[gv .u32 x]++cap) w (λe w2=>e= .returned (.bool (p x))/\w=w2)):
  Calls Try.prog 97 #[v,.func (.func g) #[] cap] w λe w'=>e= .returned (.int .i64 (idx p zs))/\w=w':=by
 obtain⟨A,c,rfl,C,s,_,B⟩:=hv;unfold qA8 at hg;unfold maxLen at s;go_enter Try.func97,Try.ntmps97;go_wp2
 go_loop [8,4] (λi r=>∃k:Nat,k<=zs.length/\i= .int .i64 k/\r= .int .i64 0/\∀j (h:j<zs.length),j<k->p zs[j]=false) (λi _=>zs.length - (intOf i).toNat)
 case atStart=>exact⟨0,Nat.zero_le _,rfl,rfl,λj _ h=>absurd h (by omega)⟩
 case round=>
  obtain⟨k,G,rfl,rfl,z⟩:=hrel;have l:=hyd1 z;clear z
  by_cases f:k<zs.length
  ·obtain⟨b,D,rfl,_,E,y⟩:=B (by omega);have q:=y k f;have d:=List.getElem_mem f;generalize hx:zs[k]=x at q d;have o:=hyd1 hx;clear y B hx
   by_cases m:p x=true
   ·go_wp2_with (first | (refine(hf x d).mono ?_;rintro e w' ⟨rfl,rfl⟩));go_ret;exact⟨qCw (qLb p zs k f (by rw[o.out];exact m) l.out),rfl⟩
   ·have n:p x=false:=by simpa using m
    go_wp2_with (first | (refine(hf x d).mono ?_;rintro e w' ⟨rfl,rfl⟩))
    go_round
    case rel=>exact⟨k+1,by omega,by go_num,rfl,λj h F=>by
     by_cases t:j=k
     ·subst t;rw[o.out];exact n
     ·exact l.out j h (by omega)⟩
    case measure=>simp[intOf];omega
  ·go_wp2;go_ret;exact⟨qCw (qKw p zs λj h=>l.out j h (by omega)),rfl⟩
theorem qFZ (L:Nat->Prop) (p:Nat->Bool) (g:FuncId) (cap:Array Value) (v:Value) (zs:List Nat) (w:World) (hv:ArrL L (gv .u32) w v zs)
  (hg:qA8 Try.prog g)
  (hf:∀x,x∈zs->Calls Try.prog g (#[gv .u32 x]++cap) w (λe w2=>e= .returned (.bool (p x))/\w=w2)):
  Calls Try.prog 78 #[v,.func (.func g) #[] cap] w λe w'=>e= .returned (.bool (zs.any p))/\w=w':=by
 go_enter Try.func78,Try.ntmps78;go_wp2_with (first | (go_at_call 97;refine(qGk L p g cap _ zs _ hv hg hf).mono ?_;rintro e w' ⟨rfl,rfl⟩));go_ret;exact⟨qC4 (qLc p zs),rfl⟩
theorem qI9 (g:Nat) (w:World):Calls Try.prog 79 #[gv .u32 g] w λe w'=>e= .returned (.bool (decide (1000000000<=g)))/\w=w':=by
 unfold gv;go_enter Try.func79,Try.ntmps79;go_wp2;go_ret;exact⟨qC4 (decide_eq_decide.2 (by omega)),rfl⟩
def isW (neg:Bool) (gs:List Nat):Bool:=decide (gs.length<=40)&& !(gs.any λg=>decide (1000000000<=g))&&(if gs.length=0 then !neg else decide (0<gs.getD (gs.length - 1) 0))
theorem qGl:qA8 Try.prog 79:=λ_ _=>by kernel_rfl
theorem qLe {neg:Bool} {gs:List Nat} (h:(gs.any λg=>decide (1000000000<=g))=true):isW neg gs=false:=by
 unfold isW;rw[h,Bool.not_true,Bool.and_false,Bool.false_and]
theorem qIq {neg:Bool} {gs:List Nat} (hl:¬40<gs.length) (h:(gs.any λg=>decide (1000000000<=g))=false) (h0:gs.length=0):isW neg gs= !neg:=by
 unfold isW;rw[h,decide_eq_true (by omega),if_pos h0,Bool.not_false,Bool.and_self,Bool.true_and]
theorem qHt {neg:Bool} {gs:List Nat} {x:Nat} (hl:¬40<gs.length) (h:(gs.any λg=>decide (1000000000<=g))=false) (h0:¬gs.length=0) (hx:gs.getD (gs.length - 1) 0=x):isW neg gs=decide (0<x):=by
 unfold isW;rw[h,decide_eq_true (by omega),if_neg h0,Bool.not_false,Bool.and_self,Bool.true_and,hx]
theorem qLf {neg:Bool} {gs:List Nat} (h:40<gs.length):isW neg gs=false:=by
 unfold isW;rw[decide_eq_false (by omega),Bool.false_and,Bool.false_and]
theorem qAy (L:Nat->Prop) (neg:Bool) (gs:List Nat) (v:Value) (w:World) (hL:Up w L) (hv:ArrL L (gv .u32) w v gs):
  Calls Try.prog 47 #[.agg #[.bool neg,v]] w λe w'=>e= .returned (.bool (isW neg gs))/\Le w w':=by
 have k:=hv;obtain⟨A,c,rfl,P,J,B,C⟩:=hv;unfold maxLen at J;have m:=λo=>k.le (qAA w o);have l:=qAA w (.cells #[.bool neg,.slice A gs.length c] 25)
 by_cases t:40<gs.length
 ·have s:decide (40<gs.length)=true:=decide_eq_true t;have f:=qLf (neg:=neg) t;have⟨D,z,p,y,E,i,h⟩:=hyd7 hL k m C B l f;clear f l B C m k hL;go_enter Try.func47,Try.ntmps47;go_wp2;go_ret;exact⟨qC4 h.out.symm,i.out⟩
 ·have s:decide (40<gs.length)=false:=decide_eq_false t;have⟨D,z,p,y,E,i⟩:=hyd6 hL k m C B l;clear l B C m k hL;go_enter Try.func47,Try.ntmps47;have S:¬40<(gs.length:Int):=by omega
  go_wp2_with (fail);go_at_call 78;refine(qFZ L (λg=>decide (1000000000<=g)) 79 #[] _ gs _ (p.out _) qGl (λx _=>qI9 x _)).mono ?_;rintro e W ⟨rfl,rfl⟩
  by_cases d:(gs.any λg=>decide (1000000000<=g))=true
  ·have f:=qLe (neg:=neg) d;rw[d];have⟨h,j⟩:=hyd2 f d;clear d f;go_wp2;go_ret;exact⟨qC4 h.out.symm,i.out⟩
  ·have d:(gs.any λg=>decide (1000000000<=g))=false:=by simpa using d
   rw[d]
   by_cases M:gs.length=0
   ·have f:=qIq (neg:=neg) t d M;have q:(gs.length:Int)=0:=by omega
    have F:((gs.length:Int)==0)=true:=beq_iff_eq.2 q;have G:¬0<(gs.length:Int):=by omega
    have H:¬0<gs.length:=by omega
    have⟨h,j⟩:=hyd2 f d;clear d f
    cases neg
    ·go_wp2;go_ret;exact⟨qC4 h.out.symm,qAA _ _⟩
    ·go_wp2;go_ret;exact⟨qC4 h.out.symm,qAA _ _⟩
   ·obtain⟨b,Q,rfl,-,R,I⟩:=y.out (by omega);have r:=I (gs.length - 1) (by omega);have n:gs.getD (gs.length - 1) 0=gs[gs.length - 1]'(by omega):=by rw[List.getD_eq_getElem?_getD,List.getElem?_eq_getElem (by omega)];rfl
    generalize gs[gs.length - 1]'(by omega)=x at r n;have f:=qHt (neg:=neg) t d M n;have q:¬(gs.length:Int)=0:=by omega
    have F:((gs.length:Int)==0)=false:=beq_eq_false_iff_ne.2 q;have G:0<(gs.length:Int):=by omega
    have H:0<gs.length:=by omega
    unfold gv at r;have⟨h,j,O,N⟩:=hyd4 f d I n;clear n I d f;go_wp2;go_ret;exact⟨qC4 (by rw[h.out]),i.out⟩
theorem qAz (e:Int) (w:World):Calls Try.prog 15 #[.bool true,.int .i64 e] w λE w'=>E= .returned (.tuple #[])/\w=w':=by
 go_enter Try.func15,Try.ntmps15;go_wp2;go_end0;exact⟨rfl,rfl⟩
theorem qBL (e:Int) (w:World):Calls Try.prog 15 #[.bool false,.int .i64 e] w λE w'=>E= .panicked [{v:= .iface 72 (.agg #[.int .i64 e]),recovered:=false}]/\w=w':=by
 go_enter Try.func15,Try.ntmps15;go_wp2;exact⟨rfl,rfl,rfl⟩
theorem qBw {w w':World} {o0 o1:Obj} (h:Le ((w.alloc o0).alloc o1) w'):Le w w'/\w'.heap[w.heap.size]? =some o0/\w'.heap[w.heap.size+1]? =some o1:=by
 obtain⟨c,b⟩:=qCJ h;obtain⟨d,f⟩:=qCJ c;have g:(w.alloc o0).heap.size =w.heap.size+1:=by unfold World.alloc;show(w.heap.push _).size =_;rw[Array.size_push]
 rw[g]at b;exact⟨d,f,b⟩
theorem qAh {W:World} {X:Nat} {v0 v1 v2 v3:Value} {t:TypeId} (h:W.heap[X]? =some (Obj.cells #[v0,v1,v2,v3] t)):W.cell? ⟨X,0,none⟩=some v0/\W.cell? ⟨X,1,none⟩=some v1/\W.cell? ⟨X,2,none⟩=some v2/\W.cell? ⟨X,3,none⟩=some v3:=
 ⟨cell_of_row W X 0 _ _ _ h,cell_of_row W X 1 _ _ _ h,cell_of_row W X 2 _ _ _ h,cell_of_row W X 3 _ _ _ h⟩
theorem qLC (L:Nat->Prop) (r:Rat) (vn vd:Value) (w:World) (hL:Up w L) (hn:NumL L .u32 w vn (rnum r)) (hd:NumL L .u32 w vd r.den) (hsn:isW (rneg r) (dg (rnum r))=true) (hsd:isW false (dg r.den)=true) (hs:Rsz r 40):
  Calls Try.prog 23 #[.agg #[.bool (rneg r),vn,.bool false,vd]] w λe w'=>∃v',e= .returned v'/\Le w w'/\RatL L .u32 w' v' r:=by
 have T:=hn;have P:=hd;obtain⟨A1,c1,rfl⟩:=hn.slice;obtain⟨A2,c2,rfl⟩:=hd.slice;obtain⟨a4,a5⟩:=hs;have ak:0<(dg r.den).length :=dg_length_pos.2 (Nat.ne_of_gt (qA3 r));have aa:0<((dg r.den).length :Int):=by omega
 obtain⟨Y,J⟩:∃Y,rneg r=Y:=⟨_,rfl⟩;rw[J]at hsn ⊢;have⟨B,az,ay,o,l,V,U,X⟩:=hyd8 hL hn hd T P hsn hsd J;clear J hsd hsn P T hd hn hL;go_enter Try.func23,Try.ntmps23;go_wp2_with (fail);go_at_call 47;refine(qAy L Y (dg (rnum r)) _ _ (B.out.le ((qAA _ _).trans (qAA _ _))) (o.out.le ((qAA _ _).trans (qAA _ _)))).mono ?_;rintro e W ⟨rfl,F⟩;rw[V.out];obtain⟨g,D,O⟩:=qBw F;obtain⟨a0,a1,a2,a3⟩:=qAh D;have p:=B.out.le g;have Q:=l.out.le g;have⟨ar,H,q,s,C,R⟩:=hyd6 F g D O p Q;clear Q p O D g F;go_wp2_with (fail);go_at_call 47;refine(qAy L false (dg r.den) _ _ C.out R.out).mono ?_;rintro e W2 ⟨rfl,b⟩;rw[U.out];clear a0 a1 a2 a3;have al:=(gsl q.out);have S:=(gsl s.out);have i:=(Below.block b _ al).trans q.out;have t:=(Below.block b _ S).trans s.out;obtain⟨a0,a1,a2,a3⟩:=qAh i;have y:=Le.trans H.out b;have a6:=Below.size b;have⟨ah,af,j,c⟩:=hyd4 b i t y;clear y t i b;go_wp2_with (fail);go_at_call 15;refine(qAz _ _).mono ?_;rintro e W3 ⟨rfl,rfl⟩;go_wp2_with (fail);go_at_call 48;refine(qDL L (rnum r) r.den _ _ _ (B.out.le (c.out.trans (qAA _ _))) (o.out.le (c.out.trans (qAA _ _))) (l.out.le (c.out.trans (qAA _ _))) (by omega) (by omega)).mono ?_;rintro e W4 ⟨vg,rfl,n,Z⟩;rw[qLx r]at Z
 obtain⟨G,c3,rfl⟩:=Z.slice;obtain⟨h,E⟩:=qCJ n;have z:=Le.trans c.out h;have k:=(Below.block h _ (gsl j.out)).trans j.out;obtain⟨z0,z1,z2,g0,g1,g2⟩:=qAB E;obtain⟨y0,y1,y2,k0,k1,k2⟩:=qAB k;have⟨ai,ag,aj,aq,f,d⟩:=hyd6 n Z h E z k;clear k z E h Z n;clear a0 a1 a2 a3;go_wp2_with (fail);go_at_call 49;refine(qHm L 1 _ W4 ag.out).mono ?_;rintro e W5 ⟨rfl,rfl⟩;go_wp2_with (fail);go_at_call 15;refine(qAz _ _).mono ?_;rintro e W6 ⟨rfl,rfl⟩;have A:=λu0 u1 u2=>qAb (u0:=u0) (u1:=u1) (u2:=u2) f.out (show w.heap.size<=w.heap.size+1 by omega);have M:=λu0 u1 u2=>qAB (qAR (u0:=u0) (u1:=u1) (u2:=u2) d.out);have x:=λu0 u1 u2=>And.intro (NumL.box3 (u0:=u0) (u1:=u1) (u2:=u2) (o.out.le f.out) d.out) (NumL.box3 (u0:=u0) (u1:=u1) (u2:=u2) (l.out.le f.out) d.out);have⟨I,N,m⟩:=hyd3 A M x;clear x M A;go_wp2;obtain⟨d0,d1,d2,-⟩:=N.out (.bool Y) (.slice A1 (dg (rnum r)).length c1) (.slice A2 (dg r.den).length c2);refine bodyPost_ret (v:= .agg #[.bool Y,.slice A1 (dg (rnum r)).length c1,.slice A2 (dg r.den).length c2]) (by simp[results,Try.results23,go_sem,d0,d1,d2]) rfl ⟨_,rfl,I.out _ _ _,?_⟩;exact⟨_,_,by rw[X.out],(m.out _ _ _).1,(m.out _ _ _).2⟩
set_option maxRecDepth 10000
theorem qHu (p q:Addr) (w:World):
  CallsD Try.prog 32 #[.pointer (some p),.pointer (some q)] .returning w λe u' w'=>e= .returned (.tuple #[])/\u'= .returning /\w'=w:=by
 refine callsD_of_wpS Try.func32 rfl λc d b=>?_;apply wpS_seq;apply wpS_region;simp[wpOpsS,go_sem,recoverD,b,Try.ntmps32,Exit.thenS];apply wpS_seq;apply wpS_region;simp[wpOpsS,go_sem,recoverD,b,Try.ntmps32,Exit.thenS];refine wpS_cond (t:=false) (by simp[Act.eval,Array.replicate]) ?_;simp only[Bool.false_eq_true,if_false];refine wpS_of_wp (wp_skip ?_)
 cases c
 simp_all [bodyPostS,results,Try.results32]
theorem qGm (B:Nat) (e:Int) (a b:Value) (tp tq:TypeId) (w:World) (hb:w.heap[B]? =some (.cells #[a] tp)) (hq:w.heap[B+1]? =some (.cells #[b] tq)):
  CallsD Try.prog 32 #[.pointer (some ⟨B,0,none⟩),.pointer (some ⟨B+1,0,none⟩)] (.panicking [{v:= .iface 72 (.agg #[.int .i64 e]),recovered:=false}]) w λE u' w'=>E= .returned (.tuple #[])/\u'= .panicking [{v:= .iface 72 (.agg #[.int .i64 e]),recovered:=true}]∧
   w'.cell? ⟨B,0,none⟩=some (.int .i64 0)/\w'.cell? ⟨B+1,0,none⟩=some (.int .i64 e)/\∀w0,Le w0 w->w0.heap.size<=B->Le w0 w':=by
 refine callsD_of_wpS Try.func32 rfl λX U r=>?_;apply wpS_seq;apply wpS_region;simp[wpOpsS,go_sem,recoverD,r,Try.ntmps32,Exit.thenS];apply wpS_seq;apply wpS_region;simp[wpOpsS,go_sem,recoverD,r,Try.ntmps32,Exit.thenS];refine wpS_cond (t:=true) (by simp[Act.eval,Array.replicate]) ?_;simp only[if_true];refine wpS_of_wp ?_;have P:∀W:World,(Instr.typeAssert (Value.iface 72 (Value.agg #[Value.int IntKind.i64 e])) 20 72 true).run Try.prog W= .ok (.tuple #[.agg #[.int .i64 e],.bool true]) W:=λ_=>by kernel_rfl
 have l:∀a b c d e f g h:Value,#[a,b]++((((((Array.replicate 18 undef).setIfInBounds 4 c).setIfInBounds 0 d).setIfInBounds 5 e).setIfInBounds 6 f))=#[a,b,d,undef,undef,undef,c,e,f,undef,undef,undef,undef,undef,undef,undef,undef,undef,undef,undef]:=λ_ _ _ _ _ _ _ _=>by first |kernel_rfl|simp[Array.replicate_succ]
 rw[l _ _ _ _ _ _ undef undef];go_wp2;obtain⟨W,s,j,x⟩:=al1 w (.cells #[.int .i64 e] 72);rw[s];have i:=(Below.block j B (gsl hb)).trans hb;have k:=(Below.block j (B+1) (gsl hq)).trans hq;have I:=(gsl hb);have O:=(gsl hq);have R:=qAN i;have Y:=fz0 i 0;have S:=qAN k;have Z:=fz0 k 0;have T:=qAN x;have n1:¬w.heap.size=B:=by omega
 have n2:¬w.heap.size=B+1:=by omega
 have n3:¬B=w.heap.size:=by omega
 have n4:¬B+1=w.heap.size:=by omega
 have n5:¬B+1=B:=by omega
 have⟨J,n,M,L,N,m,q,Q⟩:=hyd8 s j x hb hq i k r;clear r k i hq hb x j s;go_region;have C:=qAt m.out (u:= .int .i64 0);have D:(W.setCell ⟨B,0,none⟩ (.int .i64 0)).heap[B+1]? =some (.cells #[b] tq):=(Below.heap_setCell _ _ _ _ (by show B+1≠B;omega)).trans q.out;have F:=qAt D (u:= .int .i64 e);have G:((W.setCell ⟨B,0,none⟩ (.int .i64 0)).setCell ⟨B+1,0,none⟩ (.int .i64 e)).heap[B]? =some (.cells #[.int .i64 0] tp):=(Below.heap_setCell _ _ _ _ (by show B≠B+1;omega)).trans C
 have o:∀w0,Le w0 w->w0.heap.size<=B->Le w0 ((W.setCell ⟨B,0,none⟩ (.int .i64 0)).setCell ⟨B+1,0,none⟩ (.int .i64 e)).drew :=λw0 A H=>
  Le.trans ((Below.setCell (Le.trans A n.out) (p:=⟨B,0,none⟩) H _).setCell (p:=⟨B+1,0,none⟩) (by show w0.heap.size<=B+1;omega) _) Le.drew
 have y:((W.setCell ⟨B,0,none⟩ (.int .i64 0)).setCell ⟨B+1,0,none⟩ (.int .i64 e)).drew.cell? ⟨B,0,none⟩=_:=qAN G;have z:((W.setCell ⟨B,0,none⟩ (.int .i64 0)).setCell ⟨B+1,0,none⟩ (.int .i64 e)).drew.cell? ⟨B+1,0,none⟩=_:=qAN F;generalize ((W.setCell ⟨B,0,none⟩ (.int .i64 0)).setCell ⟨B+1,0,none⟩ (.int .i64 e)).drew =V at*;show bodyPostS _ _ _ _ _ _ _ _ _;simp[bodyPostS,results,Try.results32,go_sem,y,z];exact o
theorem qH7 (g:FuncId) (cap:Array Value) (z:Int) (w:World) (hg:qA8 Try.prog g) (hf:∀W,Le w W->Calls Try.prog g cap W λe W'=>e= .returned (.int .i64 z)/\Le W W'):
  Calls Try.prog 12 #[.func (.func g) #[] cap] w λe w'=>e= .returned (.tuple #[.int .i64 z,.int .i64 0])/\Le w w':=by
 have v:∀(fn:Fn) (first cap:Array Value) (w:World),(Instr.makeFunc fn first cap).run Try.prog w= .ok (.func fn first cap) w:=λ_ _ _ _=>rfl;unfold qA8 at hg
 go_enter_defers Try.func12,Try.ntmps12
 go_wp2_with (fail);refine(hf _ ((qAA _ _).trans (qAA _ _))).mono ?_;rintro e W ⟨rfl,c⟩;obtain⟨b,h,hq⟩:=qBw c;have A:=qAN h;have C:=fz0 h 0;have B:=qAN hq;have D:=fz0 hq 0;have t:=(gsl h);have x:=(gsl hq);have⟨l,d,j,k⟩:=hyd4 c b h hq;clear hq h b c;go_wp2;have o:=qAt j.out (u:= .int .i64 z);have q:(W.setCell ⟨w.heap.size,0,none⟩ (.int .i64 z)).heap[w.heap.size+1]? =_:=(Below.heap_setCell _ _ _ _ (by show w.heap.size+1≠w.heap.size;omega)).trans k.out;have r:=qAt q (u:= .int .i64 0);have s:((W.setCell ⟨w.heap.size,0,none⟩ (.int .i64 z)).setCell ⟨w.heap.size+1,0,none⟩ (.int .i64 0)).heap[w.heap.size]? =_:=(Below.heap_setCell _ _ _ _ (by show w.heap.size≠w.heap.size+1;omega)).trans o;have i:Le w ((W.setCell ⟨w.heap.size,0,none⟩ (.int .i64 z)).setCell ⟨w.heap.size+1,0,none⟩ (.int .i64 0)):=(Below.setCell d.out (p:=⟨w.heap.size,0,none⟩) (Nat.le_refl _) _).setCell (p:=⟨w.heap.size+1,0,none⟩) (by show w.heap.size<=w.heap.size+1;omega) _;have m:=qAN s;have n:=qAN r;refine leaves_cons (f:=32) (args:=#[.pointer (some ⟨w.heap.size,0,none⟩),.pointer (some ⟨w.heap.size+1,0,none⟩)]) (by simp) (by simp[go_sem]) ?_;refine(qHu _ _ _).mono ?_;rintro e E y ⟨rfl,rfl,rfl⟩;simp[Leaves,settle,results,Try.results12,go_sem,m,n];exact i
theorem qGn (g:FuncId) (cap:Array Value) (x:Int) (w:World) (hg:qA8 Try.prog g) (hf:∀W,Le w W->Calls Try.prog g cap W λe W'=>e= .panicked [{v:= .iface 72 (.agg #[.int .i64 x]),recovered:=false}]/\Le W W'):
  Calls Try.prog 12 #[.func (.func g) #[] cap] w λe w'=>e= .returned (.tuple #[.int .i64 0,.int .i64 x])/\Le w w':=by
 have m:∀(fn:Fn) (first cap:Array Value) (w:World),(Instr.makeFunc fn first cap).run Try.prog w= .ok (.func fn first cap) w:=λ_ _ _ _=>rfl;unfold qA8 at hg
 go_enter_defers Try.func12,Try.ntmps12
 go_wp2_with (fail);refine(hf _ ((qAA _ _).trans (qAA _ _))).mono ?_;rintro e W ⟨rfl,b⟩;obtain⟨c,h,hq⟩:=qBw b;have o:=qAN h;have q:=fz0 h 0;have p:=qAN hq;have r:=fz0 hq 0;have i:=hyd1 b;clear b;go_wp2;refine leaves_cons (f:=32) (args:=#[.pointer (some ⟨w.heap.size,0,none⟩),.pointer (some ⟨w.heap.size+1,0,none⟩)]) (by simp) (by simp[go_sem]) ?_;refine(qGm w.heap.size x _ _ _ _ _ h hq).mono ?_;rintro e s n ⟨rfl,rfl,j,k,l⟩;have d:=l w c (Nat.le_refl _);simp[Leaves,settle,results,Try.results12,go_sem,j,k];exact d
theorem qLD (L:Nat->Prop) (sn sd:Bool) (gn gd:List Nat) (vn vd:Value) (w:World) (hL:Up w L) (hn:ArrL L (gv .u32) w vn gn) (hd:ArrL L (gv .u32) w vd gd)
  (h:(isW sn gn&&isW sd gd&& !sd&&decide (0<gd.length))=false):
  Calls Try.prog 23 #[.agg #[.bool sn,vn,.bool sd,vd]] w λe w'=>e= .panicked [{v:= .iface 72 (.agg #[.int .i64 10]),recovered:=false}]/\Le w w':=by
 have I:=hn;have H:=hd;obtain⟨S,U,rfl,-,-,-,-⟩:=hn;obtain⟨T,V,rfl,-,-,-,-⟩:=hd;have⟨s,t,z⟩:=hyd3 hL I H;clear H I hL
 cases hwn:isW sn gn with
 | false=>
  have⟨r,M⟩:=hyd2 hwn h;clear h hwn;go_enter Try.func23,Try.ntmps23;go_wp2_with (fail);go_at_call 47;refine(qAy L sn gn _ _ (s.out.le ((qAA _ _).trans (qAA _ _))) (t.out.le ((qAA _ _).trans (qAA _ _)))).mono ?_;rintro e W ⟨rfl,d⟩;rw[r.out];obtain⟨b,g,n⟩:=qBw d
  have⟨A,f,l,y⟩:=hyd4 d b g n
  clear n g b d;go_wp2_with (fail);go_at_call 15;refine(qBL _ _).mono ?_;rintro e J ⟨rfl,rfl⟩;go_wp2_with (fail);exact⟨rfl,rfl,f.out⟩
 | true=>
  rw[hwn,Bool.true_and]at h;have r:=hyd1 hwn;clear hwn
  cases hwd:isW sd gd with
  | false=>
   have⟨x,M⟩:=hyd2 hwd h;clear h hwd;go_enter Try.func23,Try.ntmps23;go_wp2_with (fail);go_at_call 47;refine(qAy L sn gn _ _ (s.out.le ((qAA _ _).trans (qAA _ _))) (t.out.le ((qAA _ _).trans (qAA _ _)))).mono ?_;rintro e W ⟨rfl,d⟩;rw[r.out];obtain⟨b,g,n⟩:=qBw d;obtain⟨C,D,E,F⟩:=qAh g;have i:=s.out.le b;have p:=z.out.le b;have⟨A,f,l,y,k,q⟩:=hyd6 d b g n i p;clear p i n g b d;go_wp2_with (fail);go_at_call 47;refine(qAy L sd gd _ _ k.out q.out).mono ?_;rintro e N ⟨rfl,c⟩;rw[x.out];clear C D E F;have j:=Le.trans f.out c;have⟨B,o⟩:=hyd2 c j;clear j c;go_wp2_with (fail);go_at_call 15;refine(qBL _ _).mono ?_;rintro e J ⟨rfl,rfl⟩;go_wp2_with (fail);exact⟨rfl,rfl,o.out⟩
  | true=>
   rw[hwd,Bool.true_and]at h;have x:=hyd1 hwd;clear hwd
   cases sd with
   | true=>
    have M:=hyd1 h;clear h;go_enter Try.func23,Try.ntmps23;go_wp2_with (fail);go_at_call 47;refine(qAy L sn gn _ _ (s.out.le ((qAA _ _).trans (qAA _ _))) (t.out.le ((qAA _ _).trans (qAA _ _)))).mono ?_;rintro e W ⟨rfl,d⟩;rw[r.out];obtain⟨b,g,n⟩:=qBw d;obtain⟨C,D,E,F⟩:=qAh g;have i:=s.out.le b;have p:=z.out.le b;have⟨A,f,l,y,k,q⟩:=hyd6 d b g n i p;clear p i n g b d;go_wp2_with (fail);go_at_call 47;refine(qAy L true gd _ _ k.out q.out).mono ?_;rintro e N ⟨rfl,c⟩;rw[x.out];clear C D E F;have m:=(Below.block c _ (gsl l.out)).trans l.out;obtain⟨C,D,E,F⟩:=qAh m;have j:=Le.trans f.out c;have⟨B,o,G⟩:=hyd3 c j m;clear m j c;go_wp2_with (fail);go_at_call 15;refine(qBL _ _).mono ?_;rintro e J ⟨rfl,rfl⟩;go_wp2_with (fail);exact⟨rfl,rfl,o.out⟩
   | false=>
    have O:gd.length=0:=by simpa using h
    have Q:¬0<(gd.length:Int):=by omega
    have R:¬0<gd.length:=by omega
    have⟨M,P⟩:=hyd2 h O;clear O h;go_enter Try.func23,Try.ntmps23;go_wp2_with (fail);go_at_call 47;refine(qAy L sn gn _ _ (s.out.le ((qAA _ _).trans (qAA _ _))) (t.out.le ((qAA _ _).trans (qAA _ _)))).mono ?_;rintro e W ⟨rfl,d⟩;rw[r.out];obtain⟨b,g,n⟩:=qBw d;obtain⟨C,D,E,F⟩:=qAh g;have i:=s.out.le b;have p:=z.out.le b;have⟨A,f,l,y,k,q⟩:=hyd6 d b g n i p;clear p i n g b d;go_wp2_with (fail);go_at_call 47;refine(qAy L false gd _ _ k.out q.out).mono ?_;rintro e N ⟨rfl,c⟩;rw[x.out];clear C D E F;have m:=(Below.block c _ (gsl l.out)).trans l.out;obtain⟨C,D,E,F⟩:=qAh m;have j:=Le.trans f.out c;have⟨B,o,G⟩:=hyd3 c j m;clear m j c;go_wp2_with (fail);go_at_call 15;refine(qBL _ _).mono ?_;rintro e J ⟨rfl,rfl⟩;go_wp2_with (fail);exact⟨rfl,rfl,o.out⟩
theorem qKF (L:Nat->Prop) (sr:Bool) (n d:Nat) (vn vd:Value) (w:World) (hL:Up w L) (hn:NumL L .u32 w vn n) (hd:NumL L .u32 w vd d) (hd0:d≠0) (hsn:isW sr (dg n)=true) (hsd:isW false (dg d)=true) (hs1:(dg n).length <=40) (hs2:(dg d).length <=40) (hgcd:Nat.gcd n d≠1):
  Calls Try.prog 23 #[.agg #[.bool sr,vn,.bool false,vd]] w λe w'=>e= .panicked [{v:= .iface 72 (.agg #[.int .i64 10]),recovered:=false}]/\Le w w':=by
 have P:=hn;have N:=hd;obtain⟨A1,c1,rfl⟩:=hn.slice;obtain⟨A2,c2,rfl⟩:=hd.slice;have af:0<(dg d).length :=dg_length_pos.2 hd0;have T:0<((dg d).length :Int):=by omega
 have⟨z,an,am,y,s,R,Q,D⟩:=hyd8 hL hn hd P N hsn hsd hgcd;clear hgcd hsd hsn N P hd hn hL;go_enter Try.func23,Try.ntmps23;go_wp2_with (fail);go_at_call 47;refine(qAy L sr (dg n) _ _ (z.out.le ((qAA _ _).trans (qAA _ _))) (y.out.le ((qAA _ _).trans (qAA _ _)))).mono ?_;rintro e W ⟨rfl,E⟩;rw[R.out];obtain⟨f,B,I⟩:=qBw E;obtain⟨U,V,X,Y⟩:=qAh B;have o:=z.out.le f;have J:=s.out.le f;have⟨ak,F,p,q,A,M⟩:=hyd6 E f B I o J;clear J o I B f E;go_wp2_with (fail);go_at_call 47;refine(qAy L false (dg d) _ _ A.out M.out).mono ?_;rintro e W2 ⟨rfl,b⟩;rw[Q.out];clear U V X Y;have ag:=(gsl p.out);have O:=(gsl q.out);have i:=(Below.block b _ ag).trans p.out;have r:=(Below.block b _ O).trans q.out;obtain⟨U,V,X,Y⟩:=qAh i;have t:=Le.trans F.out b;have ao:=Below.size b;have⟨ac,Z,j,c⟩:=hyd4 b i r t;clear t r i b;go_wp2_with (fail);go_at_call 15;refine(qAz _ _).mono ?_;rintro e W3 ⟨rfl,rfl⟩;go_wp2_with (fail);go_at_call 48;refine(qDL L n d _ _ _ (z.out.le (c.out.trans (qAA _ _))) (y.out.le (c.out.trans (qAA _ _))) (s.out.le (c.out.trans (qAA _ _))) (by omega) (by omega)).mono ?_;rintro e W4 ⟨vg,rfl,l,S⟩;obtain⟨g,m⟩:∃g,Nat.gcd n d=g:=⟨_,rfl⟩;rw[m]at S;have ai:decide (g=1)=false:=decide_eq_false (by rw[<-m];exact D.out)
 obtain⟨G,c3,rfl⟩:=S.slice;obtain⟨h,C⟩:=qCJ l;have x:=Le.trans c.out h;have k:=(Below.block h _ (gsl j.out)).trans j.out;obtain⟨z0,z1,z2,g0,g1,g2⟩:=qAB C;obtain⟨y0,y1,y2,k0,k1,k2⟩:=qAB k;have⟨ad,ab,aj,ae,ah,H,aa⟩:=hyd7 l S m h C x k;clear k x C h m S l;clear U V X Y;go_wp2_with (fail);go_at_call 49;refine(qHm L g _ W4 ab.out).mono ?_;rintro e W5 ⟨rfl,rfl⟩;go_wp2_with (fail);go_at_call 15;refine(qBL _ _).mono ?_;rintro e W6 ⟨rfl,rfl⟩;go_wp2_with (fail);exact⟨rfl,rfl,H.out⟩
end Go.Proofs.Ytcoajjdhkhgfdaa

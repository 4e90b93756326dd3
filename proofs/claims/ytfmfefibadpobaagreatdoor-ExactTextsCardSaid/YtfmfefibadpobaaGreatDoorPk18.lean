/- exact: out; slices.Clone over groups. -/
import Derived.Test.YtfmfefibadpobaaGreatDoorPk16
namespace Go.Proofs.YtfmfefibadpobaaGreatDoor
set_option maxRecDepth 100000
set_option maxHeartbeats 2000000
open Go.RowKit Go.Shelf
set_option linter.unusedVariables false
set_option linter.unusedSimpArgs false
def Unf (w:World) (v:Value):Prop:=∀b off m c,v= .slice (some ⟨b,off,none⟩) m c->∃cs t,w.heap[b]? =some (Obj.cells cs t)
theorem Unf.le {w W:World} {v:Value} (h:Unf w v) (hb:Le w W):Unf W v:=λb off m c e=>by
 obtain⟨cs,t,h1⟩:=h b off m c e;exact⟨cs,t,(hb.block b (gsl h1)).trans h1⟩
theorem Unf.setCell {w:World} {v:Value} (h:Unf w v) (a:Addr) (u:Value):Unf (w.setCell a u) v:=λb off m c e=>by
 obtain⟨cs,t,h1⟩:=h b off m c e
 by_cases hb:a.block=b
 ·obtain⟨ab,ao,sp⟩:=a;change ab=b at hb;subst hb
  cases sp with
  | none=>
   refine⟨cs.setIfInBounds ao u,t,?_⟩;simp only[World.setCell,Array.getElem?_modify,h1];simp
  | some s=>
   refine⟨cs,t,?_⟩;simp only[World.setCell,Array.getElem?_modify,h1];simp
 ·exact⟨cs,t,(Below.heap_setCell _ _ _ _ (λh=>hb h.symm)).trans h1⟩
theorem Unf.nil (w:World):Unf w (.slice none 0 0):=nofun
theorem Unf.own {w:World} {base:Nat} {e:TypeId} {v:Value} {n:Nat} {xs:List Value} (h:w.ownsRow base e 1 v n xs):Unf w v:=λb off m c hv=>by
 rcases h.2 with⟨rfl,_⟩| ⟨g,cap,cur,rfl,hbg,hg,_⟩
 ·cases hv
 ·injection hv with h1;injection h1 with h1;injection h1 with h1;subst h1;exact⟨cur,e,hg⟩
def NumU (L:Nat->Prop) (w:World) (v:Value) (n:Nat):Prop:=NumL L .u32 w v n/\Unf w v
theorem NumU.le {L:Nat->Prop} {w W:World} {v:Value} {n:Nat} (h:NumU L w v n) (hb:Le w W):NumU L W v n:=⟨h.1.le hb,h.2.le hb⟩
theorem NumU.slice {L:Nat->Prop} {w:World} {v:Value} {n:Nat} (h:NumU L w v n):∃A c,v= .slice A (dg n).length c:=h.1.slice
def MPred.numU (L:Nat->Prop) (n:Nat):MPred:=⟨λv w=>NumU L w v n,λ_ _ _ hb h=>h.le hb⟩
theorem qCY (L L2:Nat->Prop) (n:Nat) (v:Value) (w:World) (hL:Up w L) (hv:NumL L2 .u32 w v n) (hlen:(dg n).length <=1000000):
  Calls Tryz.prog 47 #[v] w λe w'=>∃v',e= .returned v'/\Le w w'/\NumU L w' v' n:=by
 have b:Arr (gv .u32) w v (dg n):=ArrL.arr hv
 by_cases s:∃a n c,v= .slice (some a) n c
 ·obtain⟨a,m,c,rfl⟩:=s;have j:=λW=>Lib.run_eql_slice_nil (P:=Tryz.prog) W 42 82 (some a) m c 0 0 Tryz.underlying42;have d:=qGO w 82 w.heap.size (Nat.le_refl _);have f:=b.below ((Below.refl w.heap.size w).alloc (Nat.le_refl _) (.cells #[] 82));have⟨g,h,p,k,i⟩:=hyd5 d f hv b hL;clear hL b hv f d;go_enter Tryz.func47,Tryz.ntmps47;go_wp2_with (at_builtin;go_must (refine qAV rfl (.tmp 5) (.tmp 6) 42 rfl w.heap.size 82 .u32 4 qAp (by decide) _ [] rfl g.out _ (dg n) rfl h.out (by simp;omega) (by simp) ?_);intro v' w' t x y z);have⟨l,q,C,D⟩:=hyd4 t x y z;clear z y x t;go_wp2;go_ret;have B:Le w w':=Below.trans (qAA _ _) q.out;exact⟨_,rfl,B,ArrL.of_own (by simpa using l.out) i.out,Unf.own l.out⟩
 ·obtain⟨rfl,r⟩:=b.nil_of λa n c A=>s ⟨a,n,c,A⟩;have j:=λW=>Lib.run_eql_slice_nil (P:=Tryz.prog) W 42 82 none 0 0 0 0 Tryz.underlying42;have⟨p,k,i,o⟩:=hyd4 hv b hL r;clear r hL b hv;go_enter Tryz.func47,Tryz.ntmps47;go_wp2;go_ret;exact⟨_,rfl,Le.refl _,by unfold NumL;rw[o.out];exact ArrL.nil _ _ _,Unf.nil _⟩
def MPred.whole (L:Nat->Prop) (s:Bool) (n:Nat):MPred:=⟨λv w=>∃A c,v= .agg #[.bool s,.slice A (dg n).length c]/\NumU L w (.slice A (dg n).length c) n,λ_ _ _ hb ⟨A,c,e,h⟩=>⟨A,c,e,h.le hb⟩⟩
def FracL (L:Nat->Prop) (w:World) (v:Value) (r:Rat):Prop:=∃A c B d,v= .agg #[.bool (rneg r),.slice A (dg (rnum r)).length c,.bool false,.slice B (dg r.den).length d]/\NumU L w (.slice A (dg (rnum r)).length c) (rnum r)/\NumU L w (.slice B (dg r.den).length d) r.den
def MPred.frac (L:Nat->Prop) (r:Rat):MPred:=⟨λv w=>FracL L w v r,λ_ _ _ hb ⟨A,c,B,d,e,h1,h2⟩=>⟨A,c,B,d,e,h1.le hb,h2.le hb⟩⟩
theorem NumL.box4 {L:Nat->Prop} {k:IntKind} {W:World} {v u0 u1 u2 u3:Value} {b0 b1:Bool} {A1 A2:Option Addr} {n1 c1 n2 c2 n B:Nat} {t:TypeId} (h:NumL L k W v n) (hk:W.heap[B]? =some (Obj.cells #[.bool b0,.slice A1 n1 c1,.bool b1,.slice A2 n2 c2] t)):
  NumL L k ((((W.setCell ⟨B,0,none⟩ u0).setCell ⟨B,1,none⟩ u1).setCell ⟨B,2,none⟩ u2).setCell ⟨B,3,none⟩ u3) v n:=by
 obtain⟨A,c,z,o,p,r,q⟩:=h;refine⟨A,c,z,o,p,r,λl=>?_⟩;obtain⟨b,g,s,x,i,m⟩:=q l
 have f:b≠B:=by
  rintro rfl;have d:=m 0 l;rw[cell_of_row W b (g+0) _ t (0,0) hk]at d;unfold gv at d;rw[Nat.add_zero]at d
  match g,d with
  | 0,d=>simp at d
  | 1,d=>simp at d
  | 2,d=>simp at d
  | 3,d=>simp at d
  | g+4,d=>simp at d
 refine⟨b,g,s,x,by simpa[World.setCell]using i,λj y=>(World.cell?_of_block ?_).trans (m j y)⟩;exact(Below.heap_setCell _ _ _ _ f).trans ((Below.heap_setCell _ _ _ _ f).trans ((Below.heap_setCell _ _ _ _ f).trans (Below.heap_setCell _ _ _ _ f)))
theorem qAJ {W:World} {X:Nat} {v0 v1 v2 v3 u0 u1 u2 u3:Value} {t:TypeId} (h:W.heap[X]? =some (Obj.cells #[v0,v1,v2,v3] t)):((((W.setCell ⟨X,0,none⟩ u0).setCell ⟨X,1,none⟩ u1).setCell ⟨X,2,none⟩ u2).setCell ⟨X,3,none⟩ u3).heap[X]? =some (.cells #[u0,u1,u2,u3] t):=by
 simp only[World.setCell,Array.getElem?_modify,h];simp
theorem NumU.box4 {L:Nat->Prop} {W:World} {v u0 u1 u2 u3:Value} {b0 b1:Bool} {A1 A2:Option Addr} {n1 c1 n2 c2 n B:Nat} {t:TypeId} (h:NumU L W v n) (hk:W.heap[B]? =some (Obj.cells #[.bool b0,.slice A1 n1 c1,.bool b1,.slice A2 n2 c2] t)):
  NumU L ((((W.setCell ⟨B,0,none⟩ u0).setCell ⟨B,1,none⟩ u1).setCell ⟨B,2,none⟩ u2).setCell ⟨B,3,none⟩ u3) v n:=⟨h.1.box4 hk,(((h.2.setCell _ _).setCell _ _).setCell _ _).setCell _ _⟩
theorem NumU.box_set {L:Nat->Prop} {W:World} {v u x:Value} {n k:Nat} {t:TypeId} (h:NumU L W v n) (hk:W.heap[k]? =some (.cells #[x] t)) (hx:∀g:Nat,x≠gv .u32 g:=by intro g;unfold gv;simp):NumU L (W.setCell ⟨k,0,none⟩ u) v n:=⟨h.1.box_set hk hx,h.2.setCell _ _⟩
theorem World.frozen4 {W:World} {B:Nat} {cs:Array Value} {t:TypeId} (h:W.heap[B]? =some (.cells cs t)) (i:Nat):W.frozen? ⟨B,i,none⟩=false:=fz0 h i
theorem qAQ {w W:World} {X:Nat} {u0 u1 u2 u3:Value} (h:Le w W) (hX:w.heap.size<=X):Le w ((((W.setCell ⟨X,0,none⟩ u0).setCell ⟨X,1,none⟩ u1).setCell ⟨X,2,none⟩ u2).setCell ⟨X,3,none⟩ u3):=
 (((Below.setCell h (p:=⟨X,0,none⟩) hX _).setCell (p:=⟨X,1,none⟩) hX _).setCell (p:=⟨X,2,none⟩) hX _).setCell (p:=⟨X,3,none⟩) hX _
theorem qEj (L L2:Nat->Prop) (r:Rat) (v:Value) (w:World) (hL:Up w L) (h:RatL L2 .u32 w v r) (hs:Rsz r 40):
  Calls Tryz.prog 25 #[v] w λe w'=>∃v',e= .returned v'/\Le w w'/\FracL L w' v' r:=by
 obtain⟨An,cn,Ad,cd,rfl,hn,hd⟩:=h.form;obtain⟨aK,aL⟩:=hs;have aH:((dg (rnum r)).length :Int)<=40:=by omega
 have aI:((dg r.den).length :Int)<=40:=by omega
 obtain⟨A,Y⟩:∃A,rneg r=A:=⟨_,rfl⟩;rw[Y];have⟨h',an,ar,ap,n⟩:=hyd5 h hL hn hd Y;clear Y hd hn hL h;go_enter Tryz.func25,Tryz.ntmps25
 by_cases aJ:(dg (rnum r)).length <(dg r.den).length
 ·have a0:((dg (rnum r)).length :Int)<((dg r.den).length :Int):=by omega
  go_wp2_with (fail);go_at_call 23;refine(qAe _ _).mono ?_;rintro e W3 ⟨rfl,rfl⟩;obtain⟨y,G,U⟩:=qA9 (Le.refl ((w.alloc (.cells #[.bool A,.slice An (dg (rnum r)).length cn,.slice Ad (dg r.den).length cd] 44)).alloc (.cells #[.bool false,.slice none 0 0,.bool false,.slice none 0 0] 26)));generalize hW0:(w.alloc (.cells #[.bool A,.slice An (dg (rnum r)).length cn,.slice Ad (dg r.den).length cd] 44)).alloc (.cells #[.bool false,.slice none 0 0,.bool false,.slice none 0 0] 26)=W0 at*;obtain⟨H,I,J,-⟩:=qAF G;have a1:=(gsl G);have a2:=(gsl U);have q:=an.out.le y;have⟨ao,m,ay,V,k⟩:=hyd5 hW0 y G U q;clear q U G y hW0;go_wp2_with (fail);refine qBd (R:=leRel) 11 [some 12,some 13,some 14,some 15,some 16,some 17,some 18,some 19,some 20,some 21,some 22,none] [[],[0],[],[2],[3],[1,4],[],[6],[7],[8],[5,9],[10]]
   [.eq (.pointer (some ⟨w.heap.size,0,none⟩)),.eq (.bool A),.eq (.pointer (some ⟨w.heap.size,1,none⟩)),.eq (.slice An (dg (rnum r)).length cn),MPred.numU L (rnum r),MPred.whole L A (rnum r),.eq (.pointer (some ⟨w.heap.size,2,none⟩)),.eq (.slice Ad (dg r.den).length cd),MPred.numU L r.den,MPred.whole L false r.den,MPred.frac L r] (λ_ _=>False) (by kernel_rfl) (by kernel_rfl) (by kernel_rfl) (by kernel_rfl) ?_ (λ_ _ _ _ _ h=>h.elim) ?_
  ·simp only[List.take_succ_cons,List.take_zero];refine mSc ?_ (mSc ?_ (mSc ?_ (mSc ?_ (mSc ?_ (mSc ?_ (mSc ?_ (mSc ?_ (mSc ?_ (mSc ?_ (mSc ?_ (qB1)))))))))))
   ·refine mSl rfl λx W d b Q hK _=>?_;simp only[fA]at hK ⊢;go_wp2;exact hK _ _ lrR rfl
   ·refine mSl rfl λx W d b Q hK _=>?_;obtain⟨c,-⟩:=b;change _=_ at c;have cc:=bcl d (by omega) H;simp only[fA,c]at hK ⊢;go_wp2;exact hK _ _ lrR rfl
   ·refine mSl rfl λx W d b Q hK _=>?_;simp only[fA]at hK ⊢;go_wp2;exact hK _ _ lrR rfl
   ·refine mSl rfl λx W d b Q hK _=>?_;obtain⟨c,-⟩:=b;change _=_ at c;have cc:=bcl d (by omega) I;simp only[fA,c]at hK ⊢;go_wp2;exact hK _ _ lrR rfl
   ·refine mSl rfl λx W d b Q hK _=>?_;obtain⟨c,-⟩:=b;change _=_ at c;simp only[fA,c]at hK ⊢;go_wp2_with (fail);go_at_call 47;refine(qCY L L2 (rnum r) _ W (k.out.le d) ((ar.out.le m.out).le d) (by omega)).mono ?_;rintro e w' ⟨v',rfl,Z,D⟩;obtain⟨E,F,rfl⟩:=D.slice;go_wp2;exact hK _ _ Z D
   ·refine mSl rfl λx W d b Q hK _=>?_;obtain⟨c,f,-⟩:=b;change _=_ at c;replace f:NumU L W (x 4) (rnum r):=f;obtain⟨E,F,p⟩:=f.slice;rw[p]at f;simp only[fA,c,p]at hK ⊢;go_wp2;exact hK _ _ lrR ⟨_,_,rfl,f⟩
   ·refine mSl rfl λx W d b Q hK _=>?_;simp only[fA]at hK ⊢;go_wp2;exact hK _ _ lrR rfl
   ·refine mSl rfl λx W d b Q hK _=>?_;obtain⟨c,-⟩:=b;change _=_ at c;have cc:=bcl d (by omega) J;simp only[fA,c]at hK ⊢;go_wp2;exact hK _ _ lrR rfl
   ·refine mSl rfl λx W d b Q hK _=>?_;obtain⟨c,-⟩:=b;change _=_ at c;simp only[fA,c]at hK ⊢;go_wp2_with (fail);go_at_call 47;refine(qCY L L2 (r.den) _ W (k.out.le d) ((ap.out.le m.out).le d) (by omega)).mono ?_;rintro e w' ⟨v',rfl,Z,D⟩;obtain⟨E,F,rfl⟩:=D.slice;go_wp2;exact hK _ _ Z D
   ·refine mSl rfl λx W d b Q hK _=>?_;obtain⟨f,-⟩:=b;replace f:NumU L W (x 8) r.den:=f;obtain⟨E,F,p⟩:=f.slice;rw[p]at f;simp only[fA,p]at hK ⊢;go_wp2;exact hK _ _ lrR ⟨_,_,rfl,f⟩
   ·refine mSl rfl λx W d b Q hK _=>?_;obtain⟨c,f,-⟩:=b;obtain⟨A8,c8,T,y8⟩:=c;obtain⟨E,F,p,y9⟩:=f;replace T:x 5=_:=T;replace p:x 9=_:=p;simp only[fA,T,p]at hK ⊢;go_wp2;exact hK _ _ lrR ⟨_,_,_,_,by rw[n.out],y8,y9⟩
  ·intro x W d b Q' X _;have c:=b 0 (by decide);have f:=b 1 (by decide);have N:=b 2 (by decide);have O:=b 3 (by decide);have P:=b 6 (by decide);have S:=b 7 (by decide);have M:FracL L W (x 10) r:=b 10 (by decide);change _=_ at c f N O P S;obtain⟨A1,c1,A2,c2,o,y3,y4⟩:=M;rw[n.out]at o;have g:=(Below.block d (w.heap.size+1) (by omega)).trans V.out;obtain⟨z0,z1,z2,z3⟩:=qAC g;simp only[List.drop_succ_cons,List.drop_zero];rw[show List.range 11=[0,1,2,3,4,5,6,7,8,9,10]from rfl];simp only[fA,c,f,N,O,P,S,o];generalize x 4=x4;generalize x 5=x5;generalize x 8=x8;generalize x 9=x9;clear c f N O P S b;have t:=λu0 u1 u2 u3=>qAQ (u0:=u0) (u1:=u1) (u2:=u2) (u3:=u3) (Le.trans m.out d) (show w.heap.size<=w.heap.size+1 by omega);have B:=λu0 u1 u2 u3=>qAC (qAJ (u0:=u0) (u1:=u1) (u2:=u2) (u3:=u3) g);have j:=λi=>World.frozen4 g i;have s:=λu0 u1 u2 u3=>And.intro (NumU.box4 (u0:=u0) (u1:=u1) (u2:=u2) (u3:=u3) y3 g) (NumU.box4 (u0:=u0) (u1:=u1) (u2:=u2) (u3:=u3) y4 g);have g0:=j 0;have g1:=j 1;have g2:=j 2;have g3:=j 3;have⟨z,C,l,am,a3,a4,al,az⟩:=hyd8 t B s g y3 y4 o d;have aq:=hyd1 j;clear j d o y4 y3 g s B t;go_wp2;refine X _ _ ?_;go_wp2;obtain⟨d0,d1,d2,d3⟩:=C.out (.bool A) (.slice A1 (dg (rnum r)).length c1) (.bool false) (.slice A2 (dg r.den).length c2)
   refine bodyPost_ret (v:= .agg #[.bool A,.slice A1 (dg (rnum r)).length c1,.bool false,.slice A2 (dg r.den).length c2]) (by simp[results,Tryz.results25,go_sem,d0,d1,d2,d3]) rfl ⟨_,rfl,z.out _ _ _ _,?_⟩;exact⟨_,_,_,_,by rw[n.out],(l.out _ _ _ _).1,(l.out _ _ _ _).2⟩
 ·have a0:¬((dg (rnum r)).length :Int)<((dg r.den).length :Int):=by omega
  go_wp2_with (fail);go_at_call 23;refine(qAe _ _).mono ?_;rintro e W3 ⟨rfl,rfl⟩;obtain⟨y,G,U⟩:=qA9 (Le.refl ((w.alloc (.cells #[.bool A,.slice An (dg (rnum r)).length cn,.slice Ad (dg r.den).length cd] 44)).alloc (.cells #[.bool false,.slice none 0 0,.bool false,.slice none 0 0] 26)));generalize hW0:(w.alloc (.cells #[.bool A,.slice An (dg (rnum r)).length cn,.slice Ad (dg r.den).length cd] 44)).alloc (.cells #[.bool false,.slice none 0 0,.bool false,.slice none 0 0] 26)=W0 at*;obtain⟨H,I,J,-⟩:=qAF G;have a1:=(gsl G);have a2:=(gsl U);have q:=an.out.le y;have⟨ao,m,ay,V,k⟩:=hyd5 hW0 y G U q;clear q U G y hW0;go_wp2_with (fail);refine qBd (R:=leRel) 11 [some 12,some 13,some 14,some 15,some 16,some 17,some 18,some 19,some 20,some 21,some 22,none] [[],[0],[],[2],[3],[1,4],[],[6],[7],[8],[5,9],[10]]
   [.eq (.pointer (some ⟨w.heap.size,0,none⟩)),.eq (.bool A),.eq (.pointer (some ⟨w.heap.size,1,none⟩)),.eq (.slice An (dg (rnum r)).length cn),MPred.numU L (rnum r),MPred.whole L A (rnum r),.eq (.pointer (some ⟨w.heap.size,2,none⟩)),.eq (.slice Ad (dg r.den).length cd),MPred.numU L r.den,MPred.whole L false r.den,MPred.frac L r] (λ_ _=>False) (by kernel_rfl) (by kernel_rfl) (by kernel_rfl) (by kernel_rfl) ?_ (λ_ _ _ _ _ h=>h.elim) ?_
  ·simp only[List.take_succ_cons,List.take_zero];refine mSc ?_ (mSc ?_ (mSc ?_ (mSc ?_ (mSc ?_ (mSc ?_ (mSc ?_ (mSc ?_ (mSc ?_ (mSc ?_ (mSc ?_ (qB1)))))))))))
   ·refine mSl rfl λx W d b Q hK _=>?_;simp only[fA]at hK ⊢;go_wp2;exact hK _ _ lrR rfl
   ·refine mSl rfl λx W d b Q hK _=>?_;obtain⟨c,-⟩:=b;change _=_ at c;have cc:=bcl d (by omega) H;simp only[fA,c]at hK ⊢;go_wp2;exact hK _ _ lrR rfl
   ·refine mSl rfl λx W d b Q hK _=>?_;simp only[fA]at hK ⊢;go_wp2;exact hK _ _ lrR rfl
   ·refine mSl rfl λx W d b Q hK _=>?_;obtain⟨c,-⟩:=b;change _=_ at c;have cc:=bcl d (by omega) I;simp only[fA,c]at hK ⊢;go_wp2;exact hK _ _ lrR rfl
   ·refine mSl rfl λx W d b Q hK _=>?_;obtain⟨c,-⟩:=b;change _=_ at c;simp only[fA,c]at hK ⊢;go_wp2_with (fail);go_at_call 47;refine(qCY L L2 (rnum r) _ W (k.out.le d) ((ar.out.le m.out).le d) (by omega)).mono ?_;rintro e w' ⟨v',rfl,Z,D⟩;obtain⟨E,F,rfl⟩:=D.slice;go_wp2;exact hK _ _ Z D
   ·refine mSl rfl λx W d b Q hK _=>?_;obtain⟨c,f,-⟩:=b;change _=_ at c;replace f:NumU L W (x 4) (rnum r):=f;obtain⟨E,F,p⟩:=f.slice;rw[p]at f;simp only[fA,c,p]at hK ⊢;go_wp2;exact hK _ _ lrR ⟨_,_,rfl,f⟩
   ·refine mSl rfl λx W d b Q hK _=>?_;simp only[fA]at hK ⊢;go_wp2;exact hK _ _ lrR rfl
   ·refine mSl rfl λx W d b Q hK _=>?_;obtain⟨c,-⟩:=b;change _=_ at c;have cc:=bcl d (by omega) J;simp only[fA,c]at hK ⊢;go_wp2;exact hK _ _ lrR rfl
   ·refine mSl rfl λx W d b Q hK _=>?_;obtain⟨c,-⟩:=b;change _=_ at c;simp only[fA,c]at hK ⊢;go_wp2_with (fail);go_at_call 47;refine(qCY L L2 (r.den) _ W (k.out.le d) ((ap.out.le m.out).le d) (by omega)).mono ?_;rintro e w' ⟨v',rfl,Z,D⟩;obtain⟨E,F,rfl⟩:=D.slice;go_wp2;exact hK _ _ Z D
   ·refine mSl rfl λx W d b Q hK _=>?_;obtain⟨f,-⟩:=b;replace f:NumU L W (x 8) r.den:=f;obtain⟨E,F,p⟩:=f.slice;rw[p]at f;simp only[fA,p]at hK ⊢;go_wp2;exact hK _ _ lrR ⟨_,_,rfl,f⟩
   ·refine mSl rfl λx W d b Q hK _=>?_;obtain⟨c,f,-⟩:=b;obtain⟨A8,c8,T,y8⟩:=c;obtain⟨E,F,p,y9⟩:=f;replace T:x 5=_:=T;replace p:x 9=_:=p;simp only[fA,T,p]at hK ⊢;go_wp2;exact hK _ _ lrR ⟨_,_,_,_,by rw[n.out],y8,y9⟩
  ·intro x W d b Q' X _;have c:=b 0 (by decide);have f:=b 1 (by decide);have N:=b 2 (by decide);have O:=b 3 (by decide);have P:=b 6 (by decide);have S:=b 7 (by decide);have M:FracL L W (x 10) r:=b 10 (by decide);change _=_ at c f N O P S;obtain⟨A1,c1,A2,c2,o,y3,y4⟩:=M;rw[n.out]at o;have g:=(Below.block d (w.heap.size+1) (by omega)).trans V.out;obtain⟨z0,z1,z2,z3⟩:=qAC g;simp only[List.drop_succ_cons,List.drop_zero];rw[show List.range 11=[0,1,2,3,4,5,6,7,8,9,10]from rfl];simp only[fA,c,f,N,O,P,S,o];generalize x 4=x4;generalize x 5=x5;generalize x 8=x8;generalize x 9=x9;clear c f N O P S b;have t:=λu0 u1 u2 u3=>qAQ (u0:=u0) (u1:=u1) (u2:=u2) (u3:=u3) (Le.trans m.out d) (show w.heap.size<=w.heap.size+1 by omega);have B:=λu0 u1 u2 u3=>qAC (qAJ (u0:=u0) (u1:=u1) (u2:=u2) (u3:=u3) g);have j:=λi=>World.frozen4 g i;have s:=λu0 u1 u2 u3=>And.intro (NumU.box4 (u0:=u0) (u1:=u1) (u2:=u2) (u3:=u3) y3 g) (NumU.box4 (u0:=u0) (u1:=u1) (u2:=u2) (u3:=u3) y4 g);have g0:=j 0;have g1:=j 1;have g2:=j 2;have g3:=j 3;have⟨z,C,l,am,a3,a4,al,az⟩:=hyd8 t B s g y3 y4 o d;have aq:=hyd1 j;clear j d o y4 y3 g s B t;go_wp2;refine X _ _ ?_;go_wp2;obtain⟨d0,d1,d2,d3⟩:=C.out (.bool A) (.slice A1 (dg (rnum r)).length c1) (.bool false) (.slice A2 (dg r.den).length c2)
   refine bodyPost_ret (v:= .agg #[.bool A,.slice A1 (dg (rnum r)).length c1,.bool false,.slice A2 (dg r.den).length c2]) (by simp[results,Tryz.results25,go_sem,d0,d1,d2,d3]) rfl ⟨_,rfl,z.out _ _ _ _,?_⟩;exact⟨_,_,_,_,by rw[n.out],(l.out _ _ _ _).1,(l.out _ _ _ _).2⟩
theorem qEk (L:Nat->Prop) (r:Rat) (v:Value) (w:World) (h:RatL L .u32 w v r) (hbig:¬Rsz r 40):
  Calls Tryz.prog 25 #[v] w λe w'=>e= .panicked [{v:= .iface 69 (.agg #[.int .i64 12]),recovered:=false}]/\Le w w':=by
 obtain⟨y,A,x,z,rfl,m,l⟩:=h.form
 have c:40<(dg (rnum r)).length ∨40<(dg r.den).length :=by
  unfold Rsz at hbig;omega
 obtain⟨o,b⟩:∃o,rneg r=o:=⟨_,rfl⟩;rw[b];have⟨B,t,q,n,f⟩:=hyd5 h m l b hbig;clear hbig b l m h;go_enter Tryz.func25,Tryz.ntmps25
 by_cases s:(dg (rnum r)).length <(dg r.den).length
 ·have k:((dg (rnum r)).length :Int)<((dg r.den).length :Int):=by omega
  have g:¬((dg r.den).length :Int)<=40:=by omega
  have i:40<((dg r.den).length :Int):=by omega
  have j:¬(dg r.den).length <=40:=by omega
  have d:=hyd1 c;clear c;go_wp2_with (fail);go_at_call 23;refine(qAY _ _).mono ?_;rintro e p ⟨rfl,rfl⟩;go_wp2_with (fail);exact⟨rfl,rfl,(qAA _ _).trans (qAA _ _)⟩
 ·have k:¬((dg (rnum r)).length :Int)<((dg r.den).length :Int):=by omega
  have g:¬((dg (rnum r)).length :Int)<=40:=by omega
  have i:40<((dg (rnum r)).length :Int):=by omega
  have j:¬(dg (rnum r)).length <=40:=by omega
  have d:=hyd1 c;clear c;go_wp2_with (fail);go_at_call 23;refine(qAY _ _).mono ?_;rintro e p ⟨rfl,rfl⟩;go_wp2_with (fail);exact⟨rfl,rfl,(qAA _ _).trans (qAA _ _)⟩
end Go.Proofs.YtfmfefibadpobaaGreatDoor

/- exact: fractions: opposite, minus, number. exact: fractions: number. exact: whole numbers that are arguments: isWhole. slices.IndexFunc, slices.ContainsFunc .. -/
import Derived.Test.YtcoajjdhkhgfdaaGreatPk11
import Derived.Defers
import Derived.Recover
namespace Go.Proofs.YtcoajjdhkhgfdaaGreat
set_option maxRecDepth 100000
set_option maxHeartbeats 2000000
open Go.RowKit Go.Shelf
set_option linter.unusedVariables false
set_option linter.unusedSimpArgs false
theorem qHn (L:Nat->Prop) (r:Rat) (v:Value) (w:World) (h:RatL L .u32 w v r):
  Calls Tryz.prog 104 #[v] w λe w'=>∃v',e= .returned v'/\Le w w'/\RatL L .u32 w' v' (-r):=by
 obtain⟨k,m,l,n,rfl,o,p⟩:=h.form;obtain⟨q,B,C⟩:=qFN r;obtain⟨y,i⟩:∃y,rneg r=y:=⟨_,rfl⟩;rw[i]at q ⊢;obtain⟨c,b⟩:∃c,(dg (rnum r)).length =c:=⟨_,rfl⟩;obtain⟨j,f⟩:∃j,(dg r.den).length =j:=⟨_,rfl⟩;have A:decide (0<rnum r)=decide (0<c):=by rw[<-b];exact decide_eq_decide.2 (show 0<rnum r↔0<(dg (rnum r)).length by rw[dg_length_pos];omega)
 rw[A]at q;rw[b]at o;rw[f]at p;rw[b,f]
 have D:∀s t x,rneg (-r)=s->(∃v',Ending.returned (.agg #[.bool s,.slice k c m,.slice l j n])= .returned v'/\Le w ((w.alloc t).alloc x)/\RatL L .u32 ((w.alloc t).alloc x) v' (-r)):=λs t x M=>by
  have z:=(qAA w t).trans (qAA _ x);exact⟨_,rfl,z,_,_,by rw[M],by rw[B];exact o.le z,by rw[C];exact p.le z⟩
 have⟨Q,H,I,d,G,g,O,P⟩:=hyd8 h o p D i q B C;have⟨E,F,N⟩:=hyd3 b f A;clear A f b C B q i D p o h
 by_cases R:0<c
 ·have J:0<(c:Int):=by omega
  cases y
  ·go_enter Tryz.func104,Tryz.ntmps104;go_wp2;exact bodyPost_ret (v:= .agg #[.bool true,.slice k c m,.slice l j n]) (by simp[results,Tryz.results104,go_sem]) rfl (d.out _ _ _ (by rw[g.out];simp;omega))
  ·go_enter Tryz.func104,Tryz.ntmps104;go_wp2;exact bodyPost_ret (v:= .agg #[.bool false,.slice k c m,.slice l j n]) (by simp[results,Tryz.results104,go_sem]) rfl (d.out _ _ _ (by rw[g.out];simp))
 ·have J:¬0<(c:Int):=by omega
  cases y
  ·go_enter Tryz.func104,Tryz.ntmps104;go_wp2;exact bodyPost_ret (v:= .agg #[.bool false,.slice k c m,.slice l j n]) (by simp[results,Tryz.results104,go_sem]) rfl (d.out _ _ _ (by rw[g.out];simp;omega))
  ·go_enter Tryz.func104,Tryz.ntmps104;go_wp2;exact bodyPost_ret (v:= .agg #[.bool false,.slice k c m,.slice l j n]) (by simp[results,Tryz.results104,go_sem]) rfl (d.out _ _ _ (by rw[g.out];simp))
theorem qJt (L:Nat->Prop) (a b:Rat) (va vb:Value) (w:World) (hL:Up w L) (ha:RatL L .u32 w va a) (hb:RatL L .u32 w vb b) (hma:Rsz a 2000000) (hmb:Rsz b 2000000):
  Calls Tryz.prog 75 #[va,vb] w λe w'=>∃v',e= .returned v'/\Le w w'/\RatL L .u32 w' v' (a - b):=by
 have y:=ha;have z:=hb;have Y:Rsz (-b) 2000000:=by obtain⟨q1,q2,q3⟩:=qFN b;unfold Rsz;rw[q2,q3];exact hmb
 have p:a+ -b=a - b:=(Rat.sub_eq_add_neg a b).symm;obtain⟨An,cn,Ad,cd,rfl,J,I⟩:=ha.form;obtain⟨Bn,dn,Bd,dd,rfl,U,T⟩:=hb.form;obtain⟨sa,k⟩:∃sa,rneg a=sa:=⟨_,rfl⟩;obtain⟨sb,l⟩:∃sb,rneg b=sb:=⟨_,rfl⟩;rw[k]at y;rw[l]at z;rw[k,l];have⟨aw,aQ,aR,aE,aD,aG,aF,aI⟩:=hyd8 hL ha hb J I U T k;have⟨aJ,X,aH,Z,C,F,M⟩:=hyd7 l hma hmb Y p y z;clear z y p Y hmb hma l k T U I J hb ha hL;go_enter Tryz.func75,Tryz.ntmps75;go_wp2;obtain⟨W0,E,aS,g,h0,h1,h2⟩:=qCm w (.cells #[.bool sa,.slice An (dg (rnum a)).length cn,.slice Ad (dg a.den).length cd] 58) (.cells #[.bool sb,.slice Bn (dg (rnum b)).length dn,.slice Bd (dg b.den).length dd] 58) (.cells #[.bool false,.slice none 0 0,.slice none 0 0] 58);rw[E];clear E;obtain⟨ai,aj,ak,-⟩:=qAD h0;obtain⟨al,am,an,-⟩:=qAD h1;have m:=aw.out.le g;have G:=F.out.le g;have N:=M.out.le g;have⟨aN,aO,av,V,t,H,O⟩:=hyd7 h0 h1 h2 g m G N;clear N G m g h2 h1 h0;refine qAQ (R:=leRel) 4 [some 5,some 6,some 7,some 8,none] [[],[],[1],[0,2],[3]]
  [.eq (.agg #[.bool sa,.slice An (dg (rnum a)).length cn,.slice Ad (dg a.den).length cd]),.eq (.agg #[.bool sb,.slice Bn (dg (rnum b)).length dn,.slice Bd (dg b.den).length dd]),MPred.rat L .u32 (-b),MPred.rat L .u32 (a - b)] (λ_ _=>False) (by kernel_rfl) (by kernel_rfl) (by kernel_rfl) (by kernel_rfl) ?_ (λ_ _ _ _ _ h=>h.elim) ?_
 ·simp only[List.take_succ_cons,List.take_zero];refine mSc ?_ (mSc ?_ (mSc ?_ (mSc ?_ (qAX))))
  ·refine mSl rfl λx W c i Q hK _=>?_;have ao:=bcl c (by omega) ai;have ap:=bcl c (by omega) aj;have aq:=bcl c (by omega) ak;simp only[fA]at hK ⊢;go_wp2;exact hK _ _ lrR rfl
  ·refine mSl rfl λx W c i Q hK _=>?_;have ao:=bcl c (by omega) al;have ap:=bcl c (by omega) am;have aq:=bcl c (by omega) an;simp only[fA]at hK ⊢;go_wp2;exact hK _ _ lrR rfl
  ·refine mSl rfl λx W c i Q hK _=>?_;obtain⟨j,-⟩:=i;change _=_ at j;simp only[fA,j]at hK ⊢;go_wp2_with (fail);go_at_call 104;refine(qHn L b _ W (O.out.le c)).mono ?_;rintro e w' ⟨v',rfl,y1,D⟩;obtain⟨A1,c1,A2,c2,rfl,-,-⟩:=D.form;go_wp2;exact hK _ _ y1 D
  ·refine mSl rfl λx W c i Q hK _=>?_;obtain⟨j,q,-⟩:=i;change _=_ at j;replace q:RatL L .u32 W (x 2) (-b):=q;simp only[fA,j]at hK ⊢;go_wp2_with (fail);go_at_call 27;refine(qET L a (-b) _ _ W (t.out.le c) (H.out.le c) q X.out Z.out).mono ?_;rintro e w' ⟨v',rfl,y1,D⟩;rw[C.out]at D;obtain⟨A1,c1,A2,c2,rfl,-,-⟩:=D.form;go_wp2;exact hK _ _ y1 D
 ·intro x W c i Q' ax _;have j:=i 0 (by decide);have q:=i 1 (by decide);have r:RatL L .u32 W (x 3) (a - b):=i 3 (by decide);change _=_ at j q;obtain⟨A1,c1,A2,c2,s,y3,y4⟩:=r.form;have d:=(Below.block c (w.heap.size+1+1) (by omega)).trans av.out;obtain⟨z0,z1,z2,g0,g1,g2⟩:=qAD d;simp only[List.drop_succ_cons,List.drop_zero];rw[show List.range 4=[0,1,2,3]from rfl];simp only[fA,j,q,s];generalize x 2=x2;clear j q i;have o:=λu0 u1 u2=>qAg (u0:=u0) (u1:=u1) (u2:=u2) (Le.trans V.out c) (show w.heap.size<=w.heap.size+1+1 by omega);have P:=λu0 u1 u2=>qAD (qA1 (u0:=u0) (u1:=u1) (u2:=u2) d);have n:=λu0 u1 u2=>And.intro (NumL.box3 (u0:=u0) (u1:=u1) (u2:=u2) y3 d) (NumL.box3 (u0:=u0) (u1:=u1) (u2:=u2) y4 d);obtain⟨sr,B⟩:∃sr,rneg (a - b)=sr:=⟨_,rfl⟩;rw[B];have⟨A,S,f,aC,aU,aV,aA,a9⟩:=hyd8 o P n d y3 y4 s r;have⟨aP,aa⟩:=hyd2 c B;clear B c r s y4 y3 d n P o;go_wp2;refine ax _ _ ?_;go_wp2;obtain⟨d0,d1,d2,-⟩:=S.out (.bool sr) (.slice A1 (dg (rnum (a - b))).length c1) (.slice A2 (dg (a - b).den).length c2);refine bodyPost_ret (v:= .agg #[.bool sr,.slice A1 (dg (rnum (a - b))).length c1,.slice A2 (dg (a - b).den).length c2]) (by simp[results,Tryz.results75,go_sem,d0,d1,d2]) rfl ⟨_,rfl,A.out _ _ _,?_⟩;exact⟨_,_,by rw[aa.out],(f.out _ _ _).1,(f.out _ _ _).2⟩
theorem qL2 (z:Int) (h:z<0) (hl: -9223372036854775808<=z):IntKind.u64.wrap z=z+18446744073709551616/\IntKind.u64.wrap (-(z+18446744073709551616))=(z.natAbs:Int):=by
 have b:(2:Int)^IntKind.u64.bits=18446744073709551616:=by decide
 have c:IntKind.u64.signed=false:=rfl;unfold IntKind.wrap;simp only[b,c];constructor
 ·simp;omega
 ·simp;omega
theorem qIm (z:Int) (h:¬z<0) (hl:z<=9223372036854775807):IntKind.u64.wrap z=(z.natAbs:Int):=by
 have b:(2:Int)^IntKind.u64.bits=18446744073709551616:=by decide
 have c:IntKind.u64.signed=false:=rfl;unfold IntKind.wrap;simp only[b,c]
 simp;omega
theorem qI2 {L:Nat->Prop} {V:World} (hL:∀b,V.heap.size<=b->L b) (t:TypeId):NumL L .u32 (V.alloc (.cells #[.int .u32 1] t)) (.slice (some ⟨V.heap.size,0,none⟩) 1 1) 1:=by
 unfold NumL;rw[qEl];refine⟨some ⟨V.heap.size,0,none⟩,1,rfl,Nat.le_refl _,by unfold maxLen;omega,nofun,λ_=>⟨V.heap.size,0,rfl,hL _ (Nat.le_refl _),by unfold World.alloc;show V.heap.size<(V.heap.push _).size;rw[Array.size_push];omega,λj d=>?_⟩⟩;have c:j=0:=by simpa using d
 subst c;exact cell_of_row _ _ _ #[.int .u32 1] t (0,0) (by unfold World.alloc;exact Array.getElem?_push_size)
theorem qGH {L:Nat->Prop} {w W:World} {z:Int} {N:Nat} {s:Bool} {t t2:TypeId} {A1:Option Addr} {c1:Nat} (hUp:Up w L) (hle:Le w W) (hlt:w.heap.size<W.heap.size)
  (hbx:W.heap[w.heap.size]? =some (.cells #[.bool false,.slice none 0 0,.slice none 0 0] t)) (hn:NumL L .u32 W (.slice A1 (dg N).length c1) N) (hN:z.natAbs=N) (hs:decide (z<0)=s):
  ∃X,(((W.setCell ⟨w.heap.size,0,none⟩ (.bool s)).setCell ⟨w.heap.size,1,none⟩ (.slice A1 (dg N).length c1)).setCell ⟨w.heap.size,2,none⟩ (.slice (some ⟨W.heap.size,0,none⟩) 1 1)).alloc (.cells #[.int .u32 1] t2)=X/\(X.cell? ⟨w.heap.size,0,none⟩=some (.bool s)/\X.cell? ⟨w.heap.size,1,none⟩=some (.slice A1 (dg N).length c1)/\X.cell? ⟨w.heap.size,2,none⟩=some (.slice (some ⟨W.heap.size,0,none⟩) 1 1))∧
   Le w X/\RatL L .u32 X (.agg #[.bool s,.slice A1 (dg N).length c1,.slice (some ⟨W.heap.size,0,none⟩) 1 1]) (z:Rat):=by
 have g:=qAg (u0:= .bool s) (u1:= .slice A1 (dg N).length c1) (u2:= .slice (some ⟨W.heap.size,0,none⟩) 1 1) hle (Nat.le_refl _);have h:=qA1 (u0:= .bool s) (u1:= .slice A1 (dg N).length c1) (u2:= .slice (some ⟨W.heap.size,0,none⟩) 1 1) hbx;have i:=NumL.box3 (u0:= .bool s) (u1:= .slice A1 (dg N).length c1) (u2:= .slice (some ⟨W.heap.size,0,none⟩) 1 1) hn hbx;have j:(((W.setCell ⟨w.heap.size,0,none⟩ (.bool s)).setCell ⟨w.heap.size,1,none⟩ (.slice A1 (dg N).length c1)).setCell ⟨w.heap.size,2,none⟩ (.slice (some ⟨W.heap.size,0,none⟩) 1 1)).heap.size =W.heap.size:=by simp[World.setCell]
 generalize (((W.setCell ⟨w.heap.size,0,none⟩ (.bool s)).setCell ⟨w.heap.size,1,none⟩ (.slice A1 (dg N).length c1)).setCell ⟨w.heap.size,2,none⟩ (.slice (some ⟨W.heap.size,0,none⟩) 1 1))=V at*;refine⟨_,rfl,?_,g.trans (qAA _ _),?_⟩
 ·have k:=qAA V (.cells #[.int .u32 1] t2);obtain⟨c,d,f,-⟩:=qAD ((Below.block k w.heap.size (by omega)).trans h);exact⟨c,d,f⟩
 ·refine⟨_,_,by rw[show rneg (z:Rat)=s by rw[<-hs];rfl],?_,?_⟩
  ·rw[show rnum (z:Rat)=N by rw[<-hN];rfl];exact i.le (qAA _ _)
  ·rw[show(z:Rat).den =1 from rfl,<-j];exact qI2 (λb l=>hUp b (by omega)) _
theorem qGw (L:Nat->Prop) (z:Int) (w:World) (hL:Up w L) (hz0: -9223372036854775808<=z) (hz1:z<=9223372036854775807):
  Calls Tryz.prog 34 #[.int .i64 z] w λe w'=>∃v',e= .returned v'/\Le w w'/\RatL L .u32 w' v' (z:Rat):=by
 obtain⟨N,r⟩:∃N,z.natAbs=N:=⟨_,rfl⟩;have t:(N:Int)<=18446744073709551615:=by omega
 by_cases y:z<0
 ·obtain⟨H,O⟩:=qL2 z y hz0;rw[r]at O;have x:=decide_eq_true y;have⟨h,n,q⟩:=hyd3 hL r x;clear x r hL;go_enter Tryz.func34,Tryz.ntmps34;go_wp2_with (fail);go_at_call 70;refine(qFh N _ t).mono ?_;rintro e W ⟨v',rfl,m,b⟩;have g:NumL L .u32 W v' N:=ArrL.of_own b (h.out.le (qAA _ _));obtain⟨A,B,rfl⟩:=g.slice;obtain⟨d,c⟩:=qBf m;obtain⟨P,Q,R,I,J,M⟩:=qAD c;have o:=(gsl c);have⟨F,p,l,f,i⟩:=hyd5 m b g d c;clear c d g b m;go_wp2;obtain⟨X,G,⟨C,D,E⟩,k,j⟩:=qGH (s:=true) (t2:=99) h.out f.out o i.out l.out n.out q.out;rw[G];exact bodyPost_ret (v:= .agg #[.bool true,.slice A (dg N).length B,.slice (some ⟨W.heap.size,0,none⟩) 1 1]) (by simp[results,Tryz.results34,go_sem,C,D,E]) rfl ⟨_,rfl,k,j⟩
 ·have H:=qIm z y hz1;rw[r]at H;have x:=decide_eq_false y;have⟨h,n,q⟩:=hyd3 hL r x;clear x r hL;go_enter Tryz.func34,Tryz.ntmps34;go_wp2_with (fail);go_at_call 70;refine(qFh N _ t).mono ?_;rintro e W ⟨v',rfl,m,b⟩;have g:NumL L .u32 W v' N:=ArrL.of_own b (h.out.le (qAA _ _));obtain⟨A,B,rfl⟩:=g.slice;obtain⟨d,c⟩:=qBf m;obtain⟨P,Q,R,I,J,M⟩:=qAD c;have o:=(gsl c);have⟨F,p,l,f,i⟩:=hyd5 m b g d c;clear c d g b m;go_wp2;obtain⟨X,G,⟨C,D,E⟩,k,j⟩:=qGH (s:=false) (t2:=99) h.out f.out o i.out l.out n.out q.out;rw[G];exact bodyPost_ret (v:= .agg #[.bool false,.slice A (dg N).length B,.slice (some ⟨W.heap.size,0,none⟩) 1 1]) (by simp[results,Tryz.results34,go_sem,C,D,E]) rfl ⟨_,rfl,k,j⟩
theorem qG9 (L:Nat->Prop) (p:Nat->Bool) (g:FuncId) (cap:Array Value) (v:Value) (zs:List Nat) (w:World) (hv:ArrL L (gv .u32) w v zs)
  (hg:qAS Tryz.prog g)
  (hf:∀x,x∈zs->Calls Tryz.prog g (#[gv .u32 x]++cap) w (λe w2=>e= .returned (.bool (p x))/\w=w2)):
  Calls Tryz.prog 117 #[v,.func (.func g) #[] cap] w λe w'=>e= .returned (.int .i64 (idx p zs))/\w=w':=by
 obtain⟨A,c,rfl,C,s,_,B⟩:=hv;unfold qAS at hg;unfold maxLen at s;go_enter Tryz.func117,Tryz.ntmps117;go_wp2
 go_loop [8,4] (λi r=>∃k:Nat,k<=zs.length/\i= .int .i64 k/\r= .int .i64 0/\∀j (h:j<zs.length),j<k->p zs[j]=false) (λi _=>zs.length - (intOf i).toNat)
 case atStart=>exact⟨0,Nat.zero_le _,rfl,rfl,λj _ h=>absurd h (by omega)⟩
 case round=>
  obtain⟨k,G,rfl,rfl,z⟩:=hrel;have l:=hyd1 z;clear z
  by_cases f:k<zs.length
  ·obtain⟨b,D,rfl,_,E,y⟩:=B (by omega);have q:=y k f;have d:=List.getElem_mem f;generalize hx:zs[k]=x at q d;have o:=hyd1 hx;clear y B hx
   by_cases m:p x=true
   ·go_wp2_with (first | (refine(hf x d).mono ?_;rintro e w' ⟨rfl,rfl⟩));go_ret;exact⟨qCi (qL0 p zs k f (by rw[o.out];exact m) l.out),rfl⟩
   ·have n:p x=false:=by simpa using m
    go_wp2_with (first | (refine(hf x d).mono ?_;rintro e w' ⟨rfl,rfl⟩))
    go_round
    case rel=>exact⟨k+1,by omega,by go_num,rfl,λj h F=>by
     by_cases t:j=k
     ·subst t;rw[o.out];exact n
     ·exact l.out j h (by omega)⟩
    case measure=>simp[intOf];omega
  ·go_wp2;go_ret;exact⟨qCi (qKj p zs λj h=>l.out j h (by omega)),rfl⟩
theorem qF0 (L:Nat->Prop) (p:Nat->Bool) (g:FuncId) (cap:Array Value) (v:Value) (zs:List Nat) (w:World) (hv:ArrL L (gv .u32) w v zs)
  (hg:qAS Tryz.prog g)
  (hf:∀x,x∈zs->Calls Tryz.prog g (#[gv .u32 x]++cap) w (λe w2=>e= .returned (.bool (p x))/\w=w2)):
  Calls Tryz.prog 111 #[v,.func (.func g) #[] cap] w λe w'=>e= .returned (.bool (zs.any p))/\w=w':=by
 go_enter Tryz.func111,Tryz.ntmps111;go_wp2_with (first | (go_at_call 117;refine(qG9 L p g cap _ zs _ hv hg hf).mono ?_;rintro e w' ⟨rfl,rfl⟩));go_ret;exact⟨qBm (qL1 p zs),rfl⟩
theorem qI3 (g:Nat) (w:World):Calls Tryz.prog 112 #[gv .u32 g] w λe w'=>e= .returned (.bool (decide (1000000000<=g)))/\w=w':=by
 unfold gv;go_enter Tryz.func112,Tryz.ntmps112;go_wp2;go_ret;exact⟨qBm (decide_eq_decide.2 (by omega)),rfl⟩
def isW (neg:Bool) (gs:List Nat):Bool:=decide (gs.length<=40)&& !(gs.any λg=>decide (1000000000<=g))&&(if gs.length=0 then !neg else decide (0<gs.getD (gs.length - 1) 0))
theorem qGa:qAS Tryz.prog 112:=λ_ _=>by kernel_rfl
theorem qL3 {neg:Bool} {gs:List Nat} (h:(gs.any λg=>decide (1000000000<=g))=true):isW neg gs=false:=by
 unfold isW;rw[h,Bool.not_true,Bool.and_false,Bool.false_and]
theorem qIn {neg:Bool} {gs:List Nat} (hl:¬40<gs.length) (h:(gs.any λg=>decide (1000000000<=g))=false) (h0:gs.length=0):isW neg gs= !neg:=by
 unfold isW;rw[h,decide_eq_true (by omega),if_pos h0,Bool.not_false,Bool.and_self,Bool.true_and]
theorem qHo {neg:Bool} {gs:List Nat} {x:Nat} (hl:¬40<gs.length) (h:(gs.any λg=>decide (1000000000<=g))=false) (h0:¬gs.length=0) (hx:gs.getD (gs.length - 1) 0=x):isW neg gs=decide (0<x):=by
 unfold isW;rw[h,decide_eq_true (by omega),if_neg h0,Bool.not_false,Bool.and_self,Bool.true_and,hx]
theorem qL4 {neg:Bool} {gs:List Nat} (h:40<gs.length):isW neg gs=false:=by
 unfold isW;rw[decide_eq_false (by omega),Bool.false_and,Bool.false_and]
theorem qAx (L:Nat->Prop) (neg:Bool) (gs:List Nat) (v:Value) (w:World) (hL:Up w L) (hv:ArrL L (gv .u32) w v gs):
  Calls Tryz.prog 90 #[.agg #[.bool neg,v]] w λe w'=>e= .returned (.bool (isW neg gs))/\Le w w':=by
 have k:=hv;obtain⟨A,c,rfl,P,J,B,C⟩:=hv;unfold maxLen at J;have m:=λo=>k.le (qAA w o);have l:=qAA w (.cells #[.bool neg,.slice A gs.length c] 25)
 by_cases t:40<gs.length
 ·have s:decide (40<gs.length)=true:=decide_eq_true t;have f:=qL4 (neg:=neg) t;have⟨D,z,p,y,E,i,h⟩:=hyd7 hL k m C B l f;clear f l B C m k hL;go_enter Tryz.func90,Tryz.ntmps90;go_wp2;go_ret;exact⟨qBm h.out.symm,i.out⟩
 ·have s:decide (40<gs.length)=false:=decide_eq_false t;have⟨D,z,p,y,E,i⟩:=hyd6 hL k m C B l;clear l B C m k hL;go_enter Tryz.func90,Tryz.ntmps90;have S:¬40<(gs.length:Int):=by omega
  go_wp2_with (fail);go_at_call 111;refine(qF0 L (λg=>decide (1000000000<=g)) 112 #[] _ gs _ (p.out _) qGa (λx _=>qI3 x _)).mono ?_;rintro e W ⟨rfl,rfl⟩
  by_cases d:(gs.any λg=>decide (1000000000<=g))=true
  ·have f:=qL3 (neg:=neg) d;rw[d];have⟨h,j⟩:=hyd2 f d;clear d f;go_wp2;go_ret;exact⟨qBm h.out.symm,i.out⟩
  ·have d:(gs.any λg=>decide (1000000000<=g))=false:=by simpa using d
   rw[d]
   by_cases M:gs.length=0
   ·have f:=qIn (neg:=neg) t d M;have q:(gs.length:Int)=0:=by omega
    have F:((gs.length:Int)==0)=true:=beq_iff_eq.2 q;have G:¬0<(gs.length:Int):=by omega
    have H:¬0<gs.length:=by omega
    have⟨h,j⟩:=hyd2 f d;clear d f
    cases neg
    ·go_wp2;go_ret;exact⟨qBm h.out.symm,qAA _ _⟩
    ·go_wp2;go_ret;exact⟨qBm h.out.symm,qAA _ _⟩
   ·obtain⟨b,Q,rfl,-,R,I⟩:=y.out (by omega);have r:=I (gs.length - 1) (by omega);have n:gs.getD (gs.length - 1) 0=gs[gs.length - 1]'(by omega):=by rw[List.getD_eq_getElem?_getD,List.getElem?_eq_getElem (by omega)];rfl
    generalize gs[gs.length - 1]'(by omega)=x at r n;have f:=qHo (neg:=neg) t d M n;have q:¬(gs.length:Int)=0:=by omega
    have F:((gs.length:Int)==0)=false:=beq_eq_false_iff_ne.2 q;have G:0<(gs.length:Int):=by omega
    have H:0<gs.length:=by omega
    unfold gv at r;have⟨h,j,O,N⟩:=hyd4 f d I n;clear n I d f;go_wp2;go_ret;exact⟨qBm (by rw[h.out]),i.out⟩
theorem qBE (e:Int) (w:World):Calls Tryz.prog 39 #[.bool true,.int .i64 e] w λE w'=>E= .returned (.tuple #[])/\w=w':=by
 go_enter Tryz.func39,Tryz.ntmps39;go_wp2;go_end0;exact⟨rfl,rfl⟩
theorem qAy (e:Int) (w:World):Calls Tryz.prog 39 #[.bool false,.int .i64 e] w λE w'=>E= .panicked [{v:= .iface 101 (.agg #[.int .i64 e]),recovered:=false}]/\w=w':=by
 go_enter Tryz.func39,Tryz.ntmps39;go_wp2;exact⟨rfl,rfl,rfl⟩
theorem qAj {w w':World} {o0 o1:Obj} (h:Le ((w.alloc o0).alloc o1) w'):Le w w'/\w'.heap[w.heap.size]? =some o0/\w'.heap[w.heap.size+1]? =some o1:=by
 obtain⟨c,b⟩:=qBf h;obtain⟨d,f⟩:=qBf c;have g:(w.alloc o0).heap.size =w.heap.size+1:=by unfold World.alloc;show(w.heap.push _).size =_;rw[Array.size_push]
 rw[g]at b;exact⟨d,f,b⟩
theorem qAI {W:World} {X:Nat} {v0 v1 v2 v3:Value} {t:TypeId} (h:W.heap[X]? =some (Obj.cells #[v0,v1,v2,v3] t)):W.cell? ⟨X,0,none⟩=some v0/\W.cell? ⟨X,1,none⟩=some v1/\W.cell? ⟨X,2,none⟩=some v2/\W.cell? ⟨X,3,none⟩=some v3:=
 ⟨cell_of_row W X 0 _ _ _ h,cell_of_row W X 1 _ _ _ h,cell_of_row W X 2 _ _ _ h,cell_of_row W X 3 _ _ _ h⟩
theorem qKo (L:Nat->Prop) (r:Rat) (vn vd:Value) (w:World) (hL:Up w L) (hn:NumL L .u32 w vn (rnum r)) (hd:NumL L .u32 w vd r.den) (hsn:isW (rneg r) (dg (rnum r))=true) (hsd:isW false (dg r.den)=true) (hs:Rsz r 40):
  Calls Tryz.prog 52 #[.agg #[.bool (rneg r),vn,.bool false,vd]] w λe w'=>∃v',e= .returned v'/\Le w w'/\RatL L .u32 w' v' r:=by
 have T:=hn;have P:=hd;obtain⟨A1,c1,rfl⟩:=hn.slice;obtain⟨A2,c2,rfl⟩:=hd.slice;obtain⟨a4,a5⟩:=hs;have ak:0<(dg r.den).length :=dg_length_pos.2 (Nat.ne_of_gt (qA9 r));have aa:0<((dg r.den).length :Int):=by omega
 obtain⟨Y,J⟩:∃Y,rneg r=Y:=⟨_,rfl⟩;rw[J]at hsn ⊢;have⟨B,az,ay,o,l,V,U,X⟩:=hyd8 hL hn hd T P hsn hsd J;clear J hsd hsn P T hd hn hL;go_enter Tryz.func52,Tryz.ntmps52;go_wp2_with (fail);go_at_call 90;refine(qAx L Y (dg (rnum r)) _ _ (B.out.le ((qAA _ _).trans (qAA _ _))) (o.out.le ((qAA _ _).trans (qAA _ _)))).mono ?_;rintro e W ⟨rfl,F⟩;rw[V.out];obtain⟨g,D,O⟩:=qAj F;obtain⟨a0,a1,a2,a3⟩:=qAI D;have p:=B.out.le g;have Q:=l.out.le g;have⟨ar,H,q,s,C,R⟩:=hyd6 F g D O p Q;clear Q p O D g F;go_wp2_with (fail);go_at_call 90;refine(qAx L false (dg r.den) _ _ C.out R.out).mono ?_;rintro e W2 ⟨rfl,b⟩;rw[U.out];clear a0 a1 a2 a3;have al:=(gsl q.out);have S:=(gsl s.out);have i:=(Below.block b _ al).trans q.out;have t:=(Below.block b _ S).trans s.out;obtain⟨a0,a1,a2,a3⟩:=qAI i;have y:=Le.trans H.out b;have a6:=Below.size b;have⟨ah,af,j,c⟩:=hyd4 b i t y;clear y t i b;go_wp2_with (fail);go_at_call 39;refine(qBE _ _).mono ?_;rintro e W3 ⟨rfl,rfl⟩;go_wp2_with (fail);go_at_call 84;refine(qCz L (rnum r) r.den _ _ _ (B.out.le (c.out.trans (qAA _ _))) (o.out.le (c.out.trans (qAA _ _))) (l.out.le (c.out.trans (qAA _ _))) (by omega) (by omega)).mono ?_;rintro e W4 ⟨vg,rfl,n,Z⟩;rw[qLw r]at Z
 obtain⟨G,c3,rfl⟩:=Z.slice;obtain⟨h,E⟩:=qBf n;have z:=Le.trans c.out h;have k:=(Below.block h _ (gsl j.out)).trans j.out;obtain⟨z0,z1,z2,g0,g1,g2⟩:=qAD E;obtain⟨y0,y1,y2,k0,k1,k2⟩:=qAD k;have⟨ai,ag,aj,aq,f,d⟩:=hyd6 n Z h E z k;clear k z E h Z n;clear a0 a1 a2 a3;go_wp2_with (fail);go_at_call 91;refine(qHh L 1 _ W4 ag.out).mono ?_;rintro e W5 ⟨rfl,rfl⟩;go_wp2_with (fail);go_at_call 39;refine(qBE _ _).mono ?_;rintro e W6 ⟨rfl,rfl⟩;have A:=λu0 u1 u2=>qAg (u0:=u0) (u1:=u1) (u2:=u2) f.out (show w.heap.size<=w.heap.size+1 by omega);have M:=λu0 u1 u2=>qAD (qA1 (u0:=u0) (u1:=u1) (u2:=u2) d.out);have x:=λu0 u1 u2=>And.intro (NumL.box3 (u0:=u0) (u1:=u1) (u2:=u2) (o.out.le f.out) d.out) (NumL.box3 (u0:=u0) (u1:=u1) (u2:=u2) (l.out.le f.out) d.out);have⟨I,N,m⟩:=hyd3 A M x;clear x M A;go_wp2;obtain⟨d0,d1,d2,-⟩:=N.out (.bool Y) (.slice A1 (dg (rnum r)).length c1) (.slice A2 (dg r.den).length c2);refine bodyPost_ret (v:= .agg #[.bool Y,.slice A1 (dg (rnum r)).length c1,.slice A2 (dg r.den).length c2]) (by simp[results,Tryz.results52,go_sem,d0,d1,d2]) rfl ⟨_,rfl,I.out _ _ _,?_⟩;exact⟨_,_,by rw[X.out],(m.out _ _ _).1,(m.out _ _ _).2⟩
set_option maxRecDepth 10000
theorem qKp (L:Nat->Prop) (sn sd:Bool) (gn gd:List Nat) (vn vd:Value) (w:World) (hL:Up w L) (hn:ArrL L (gv .u32) w vn gn) (hd:ArrL L (gv .u32) w vd gd)
  (h:(isW sn gn&&isW sd gd&& !sd&&decide (0<gd.length))=false):
  Calls Tryz.prog 52 #[.agg #[.bool sn,vn,.bool sd,vd]] w λe w'=>e= .panicked [{v:= .iface 101 (.agg #[.int .i64 10]),recovered:=false}]/\Le w w':=by
 have I:=hn;have H:=hd;obtain⟨S,U,rfl,-,-,-,-⟩:=hn;obtain⟨T,V,rfl,-,-,-,-⟩:=hd;have⟨s,t,z⟩:=hyd3 hL I H;clear H I hL
 cases hwn:isW sn gn with
 | false=>
  have⟨r,M⟩:=hyd2 hwn h;clear h hwn;go_enter Tryz.func52,Tryz.ntmps52;go_wp2_with (fail);go_at_call 90;refine(qAx L sn gn _ _ (s.out.le ((qAA _ _).trans (qAA _ _))) (t.out.le ((qAA _ _).trans (qAA _ _)))).mono ?_;rintro e W ⟨rfl,d⟩;rw[r.out];obtain⟨b,g,n⟩:=qAj d
  have⟨A,f,l,y⟩:=hyd4 d b g n
  clear n g b d;go_wp2_with (fail);go_at_call 39;refine(qAy _ _).mono ?_;rintro e J ⟨rfl,rfl⟩;go_wp2_with (fail);exact⟨rfl,rfl,f.out⟩
 | true=>
  rw[hwn,Bool.true_and]at h;have r:=hyd1 hwn;clear hwn
  cases hwd:isW sd gd with
  | false=>
   have⟨x,M⟩:=hyd2 hwd h;clear h hwd;go_enter Tryz.func52,Tryz.ntmps52;go_wp2_with (fail);go_at_call 90;refine(qAx L sn gn _ _ (s.out.le ((qAA _ _).trans (qAA _ _))) (t.out.le ((qAA _ _).trans (qAA _ _)))).mono ?_;rintro e W ⟨rfl,d⟩;rw[r.out];obtain⟨b,g,n⟩:=qAj d;obtain⟨C,D,E,F⟩:=qAI g;have i:=s.out.le b;have p:=z.out.le b;have⟨A,f,l,y,k,q⟩:=hyd6 d b g n i p;clear p i n g b d;go_wp2_with (fail);go_at_call 90;refine(qAx L sd gd _ _ k.out q.out).mono ?_;rintro e N ⟨rfl,c⟩;rw[x.out];clear C D E F;have j:=Le.trans f.out c;have⟨B,o⟩:=hyd2 c j;clear j c;go_wp2_with (fail);go_at_call 39;refine(qAy _ _).mono ?_;rintro e J ⟨rfl,rfl⟩;go_wp2_with (fail);exact⟨rfl,rfl,o.out⟩
  | true=>
   rw[hwd,Bool.true_and]at h;have x:=hyd1 hwd;clear hwd
   cases sd with
   | true=>
    have M:=hyd1 h;clear h;go_enter Tryz.func52,Tryz.ntmps52;go_wp2_with (fail);go_at_call 90;refine(qAx L sn gn _ _ (s.out.le ((qAA _ _).trans (qAA _ _))) (t.out.le ((qAA _ _).trans (qAA _ _)))).mono ?_;rintro e W ⟨rfl,d⟩;rw[r.out];obtain⟨b,g,n⟩:=qAj d;obtain⟨C,D,E,F⟩:=qAI g;have i:=s.out.le b;have p:=z.out.le b;have⟨A,f,l,y,k,q⟩:=hyd6 d b g n i p;clear p i n g b d;go_wp2_with (fail);go_at_call 90;refine(qAx L true gd _ _ k.out q.out).mono ?_;rintro e N ⟨rfl,c⟩;rw[x.out];clear C D E F;have m:=(Below.block c _ (gsl l.out)).trans l.out;obtain⟨C,D,E,F⟩:=qAI m;have j:=Le.trans f.out c;have⟨B,o,G⟩:=hyd3 c j m;clear m j c;go_wp2_with (fail);go_at_call 39;refine(qAy _ _).mono ?_;rintro e J ⟨rfl,rfl⟩;go_wp2_with (fail);exact⟨rfl,rfl,o.out⟩
   | false=>
    have O:gd.length=0:=by simpa using h
    have Q:¬0<(gd.length:Int):=by omega
    have R:¬0<gd.length:=by omega
    have⟨M,P⟩:=hyd2 h O;clear O h;go_enter Tryz.func52,Tryz.ntmps52;go_wp2_with (fail);go_at_call 90;refine(qAx L sn gn _ _ (s.out.le ((qAA _ _).trans (qAA _ _))) (t.out.le ((qAA _ _).trans (qAA _ _)))).mono ?_;rintro e W ⟨rfl,d⟩;rw[r.out];obtain⟨b,g,n⟩:=qAj d;obtain⟨C,D,E,F⟩:=qAI g;have i:=s.out.le b;have p:=z.out.le b;have⟨A,f,l,y,k,q⟩:=hyd6 d b g n i p;clear p i n g b d;go_wp2_with (fail);go_at_call 90;refine(qAx L false gd _ _ k.out q.out).mono ?_;rintro e N ⟨rfl,c⟩;rw[x.out];clear C D E F;have m:=(Below.block c _ (gsl l.out)).trans l.out;obtain⟨C,D,E,F⟩:=qAI m;have j:=Le.trans f.out c;have⟨B,o,G⟩:=hyd3 c j m;clear m j c;go_wp2_with (fail);go_at_call 39;refine(qAy _ _).mono ?_;rintro e J ⟨rfl,rfl⟩;go_wp2_with (fail);exact⟨rfl,rfl,o.out⟩
theorem qJu (L:Nat->Prop) (sr:Bool) (n d:Nat) (vn vd:Value) (w:World) (hL:Up w L) (hn:NumL L .u32 w vn n) (hd:NumL L .u32 w vd d) (hd0:d≠0) (hsn:isW sr (dg n)=true) (hsd:isW false (dg d)=true) (hs1:(dg n).length <=40) (hs2:(dg d).length <=40) (hgcd:Nat.gcd n d≠1):
  Calls Tryz.prog 52 #[.agg #[.bool sr,vn,.bool false,vd]] w λe w'=>e= .panicked [{v:= .iface 101 (.agg #[.int .i64 10]),recovered:=false}]/\Le w w':=by
 have P:=hn;have N:=hd;obtain⟨A1,c1,rfl⟩:=hn.slice;obtain⟨A2,c2,rfl⟩:=hd.slice;have af:0<(dg d).length :=dg_length_pos.2 hd0;have T:0<((dg d).length :Int):=by omega
 have⟨z,an,am,y,s,R,Q,D⟩:=hyd8 hL hn hd P N hsn hsd hgcd;clear hgcd hsd hsn N P hd hn hL;go_enter Tryz.func52,Tryz.ntmps52;go_wp2_with (fail);go_at_call 90;refine(qAx L sr (dg n) _ _ (z.out.le ((qAA _ _).trans (qAA _ _))) (y.out.le ((qAA _ _).trans (qAA _ _)))).mono ?_;rintro e W ⟨rfl,E⟩;rw[R.out];obtain⟨f,B,I⟩:=qAj E;obtain⟨U,V,X,Y⟩:=qAI B;have o:=z.out.le f;have J:=s.out.le f;have⟨ak,F,p,q,A,M⟩:=hyd6 E f B I o J;clear J o I B f E;go_wp2_with (fail);go_at_call 90;refine(qAx L false (dg d) _ _ A.out M.out).mono ?_;rintro e W2 ⟨rfl,b⟩;rw[Q.out];clear U V X Y;have ag:=(gsl p.out);have O:=(gsl q.out);have i:=(Below.block b _ ag).trans p.out;have r:=(Below.block b _ O).trans q.out;obtain⟨U,V,X,Y⟩:=qAI i;have t:=Le.trans F.out b;have ao:=Below.size b;have⟨ac,Z,j,c⟩:=hyd4 b i r t;clear t r i b;go_wp2_with (fail);go_at_call 39;refine(qBE _ _).mono ?_;rintro e W3 ⟨rfl,rfl⟩;go_wp2_with (fail);go_at_call 84;refine(qCz L n d _ _ _ (z.out.le (c.out.trans (qAA _ _))) (y.out.le (c.out.trans (qAA _ _))) (s.out.le (c.out.trans (qAA _ _))) (by omega) (by omega)).mono ?_;rintro e W4 ⟨vg,rfl,l,S⟩;obtain⟨g,m⟩:∃g,Nat.gcd n d=g:=⟨_,rfl⟩;rw[m]at S;have ai:decide (g=1)=false:=decide_eq_false (by rw[<-m];exact D.out)
 obtain⟨G,c3,rfl⟩:=S.slice;obtain⟨h,C⟩:=qBf l;have x:=Le.trans c.out h;have k:=(Below.block h _ (gsl j.out)).trans j.out;obtain⟨z0,z1,z2,g0,g1,g2⟩:=qAD C;obtain⟨y0,y1,y2,k0,k1,k2⟩:=qAD k;have⟨ad,ab,aj,ae,ah,H,aa⟩:=hyd7 l S m h C x k;clear k x C h m S l;clear U V X Y;go_wp2_with (fail);go_at_call 91;refine(qHh L g _ W4 ab.out).mono ?_;rintro e W5 ⟨rfl,rfl⟩;go_wp2_with (fail);go_at_call 39;refine(qAy _ _).mono ?_;rintro e W6 ⟨rfl,rfl⟩;go_wp2_with (fail);exact⟨rfl,rfl,H.out⟩
end Go.Proofs.YtcoajjdhkhgfdaaGreat

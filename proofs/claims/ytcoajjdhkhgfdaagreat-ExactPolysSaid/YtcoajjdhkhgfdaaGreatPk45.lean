/- Polynomials, the reference: Value. Polynomials, plain laws: the reference's sums and products are the program's. Polynomials, the reference: monic. (The region .. -/
import Derived.Test.YtcoajjdhkhgfdaaGreatPk44
namespace Go.Proofs.YtcoajjdhkhgfdaaGreat
set_option maxRecDepth 100000
set_option maxHeartbeats 2000000
open Go.RowKit Go.Shelf
set_option linter.unusedVariables false
set_option linter.unusedSimpArgs false
theorem qJ4 (L:Nat->Prop) (vp vx:Value) (p:List FracA) (x:FracA) (w:World) (hL:Up w L) (hp:SeqE inK w vp p) (hx:IsFracA (λ_=>True) w vx x):
  Calls Tryz.prog 19 #[vp,vx] w (qFR L (valP p x) w):=by
 obtain⟨res,S⟩:∃r,valP p x=r:=⟨_,rfl⟩;rw[S];have ay:=hx;obtain⟨A,c,B,d,rfl,p1,p2⟩:=hx;obtain⟨W1,aE,X,k1⟩:=enew w (.cells #[.bool x.sn,.slice A x.gn.length c,.bool x.sd,.slice B x.gd.length d] 27);obtain⟨W2,aF,Y,k2⟩:=enew W1 (.cells #[.bool false,.slice none 0 0,.bool false,.slice none 0 0] 27);obtain⟨x0,aO⟩:∃b,w.heap.size=b:=⟨_,rfl⟩;obtain⟨b0,aH⟩:∃b,W1.heap.size=b:=⟨_,rfl⟩;rw[aO]at k1;rw[aH]at k2;have Q:Le w W2:=Le.trans X Y;have a1:=(Y.block _ (gsl k1)).trans k1;have ap:w.heap.size<=b0:=by have:=X.size;omega
 have kc:=qCu vp p W2 (hp.le Q);have⟨aD,b9,az,bE,bF,bm,bC,bo⟩:=hyd8 hL hp ay p1 p2 X k1 Y;have⟨a3,aj,ag,aQ,an⟩:=hyd5 k2 Q a1 kc S;clear S kc a1 Q k2 Y k1 X p2 p1 ay hp hL;go_enter Tryz.func19,Tryz.ntmps19;go_wp2_with (fail);clear aE aF;go_at_call 44;refine aQ.out.mono ?_;rintro e W3 ⟨o,v3,c3,rfl,hc⟩;have j:Le w W3:=(show Le w W2 from aj.out).trans o;have T:=(o.block _ (gsl ag.out)).trans ag.out;have J:=(o.block _ (gsl a3.out)).trans a3.out;have i:=an.out;unfold valP at i
 cases hl:qAC p with
 | error z=>
  rw[hl]at hc i;obtain⟨rfl,rfl⟩:=hc;dsimp only at i;have hz:c3≠0:=by rcases qE7 hl with h|h<;>omega
  have bB:(c3==0)=false:=by simpa using hz
  obtain⟨f0,f1,f2,f3⟩:=qAI J;have⟨g0,g1,g2,g3⟩:=frz4 J;have m:=λu0 u1 u2 u3=>qBv (u0:=u0) (u1:=u1) (u2:=u2) (u3:=u3) j ap;have E:=λu0 u1 u2 u3=>qAI (qBP (u0:=u0) (u1:=u1) (u2:=u2) (u3:=u3) J);have⟨ak,y,a2,G,n,aI,q,F⟩:=hyd8 o j T J i hl m E;clear E m hl i J T j o;go_wp2;obtain⟨d0,d1,d2,d3⟩:=F.out (.bool false) (.slice none 0 0) (.bool false) (.slice none 0 0);exact bodyPost_ret (v:= .tuple #[qCD,.int .i64 c3]) (by simp[results,Tryz.results19,go_sem,d0,d1,d2,d3,qCD]) rfl ⟨q.out _ _ _ _,_,_,rfl,by rw[<-n.out];exact⟨rfl,rfl⟩⟩
 | ok l=>
  rw[hl]at hc i;obtain⟨af,rfl⟩:=hc;dsimp only at i;obtain⟨aU,a5,-⟩:=qAL hl;obtain⟨z0,z1,z2,z3⟩:=qAI T;have kn:=qIo (λ_=>True) (λ_=>True) x _ W3 (Up.any _) (az.out.le j);have⟨ak,y,a2,G,n,aI,ao,a6⟩:=hyd8 o j T J i hl af a5;have aR:=hyd1 kn;clear kn a5 af hl i J T j o;go_wp2_with (fail);clear z0 z1 z2 z3;go_at_call 54;refine aR.out.mono ?_;rintro e W4 ⟨t,⟨r,hr,v4,rfl,ab⟩| ⟨hr,rfl⟩⟩
  ·obtain⟨s2,A2,n2,c2,B2,m2,d2,rfl⟩:=ab.frm;obtain⟨V,aG,D,k5⟩:=enew W4 (.cells #[.bool s2,.slice A2 n2 c2,.slice B2 m2 d2] 93);obtain⟨x5,aN⟩:∃x,W4.heap.size=x:=⟨_,rfl⟩;rw[aN]at k5;have f:Le W3 V:=t.trans D;have k:Le w V:=y.out.trans f;have H:=(f.block _ (gsl G.out)).trans G.out;have y0:V.cell? ⟨x5,0,none⟩=some (.bool s2):=cell_of_row V x5 0 _ _ _ k5;have y1:V.cell? ⟨x5,1,none⟩=some (.slice A2 n2 c2):=cell_of_row V x5 1 _ _ _ k5;have y2:V.cell? ⟨x5,2,none⟩=some (.slice B2 m2 d2):=cell_of_row V x5 2 _ _ _ k5;have kv:=qIO v3 _ l r V ((ao.out.le f).base (Nat.zero_le _)) (ab.le D) aU a6.out (FracA.sz hr);have g:=n.out;rw[hr]at g;change outR (valL l r)=res at g;have⟨al,aM,bq,ax,bD,aa,M,U⟩:=hyd8 t hr ab D k5 f k H;have⟨aT,C⟩:=hyd2 kv g;clear g kv H k f k5 D ab hr t;go_wp2_with (fail);clear aG y0 y1 y2;go_at_call 56;refine aT.out.mono ?_;rintro e W6 ⟨v6,rfl,N,am⟩;have I:Le w W6:=M.out.trans N;have a4:=(N.block _ (gsl U.out)).trans U.out;have ko:=qHr L (λ_=>True) _ v6 W6 (aD.out.le I) am;have⟨aJ,bp,Z,ah,aS⟩:=hyd5 N am I a4 ko;clear ko a4 I am N;go_wp2_with (fail);go_at_call 55;refine aS.out.mono ?_;rintro e W7 R;obtain⟨O,v7,c7,rfl,s⟩:=R.res;obtain⟨s5,A5,n5,c5,s6,A6,n6,c6,rfl⟩:=s.form
   have P:=(O.block _ (gsl ah.out)).trans ah.out;rw[C.out]at s;have m:=λu0 u1 u2 u3=>qBv (u0:=u0) (u1:=u1) (u2:=u2) (u3:=u3) (Z.out.trans O) ap;have E:=λu0 u1 u2 u3=>qAI (qBP (u0:=u0) (u1:=u1) (u2:=u2) (u3:=u3) P);have ad:=λu0 u1 u2 u3=>IsRes.box4 (u0:=u0) (u1:=u1) (u2:=u2) (u3:=u3) s P;obtain⟨f0,f1,f2,f3⟩:=qAI P;have⟨g0,g1,g2,g3⟩:=frz4 P;have⟨aL,aK,a9,br,q,F,ai⟩:=hyd7 R O s P m E ad;clear ad E m P s O R;go_wp2;obtain⟨d0,d1,d2,d3⟩:=F.out (.bool s5) (.slice A5 n5 c5) (.bool s6) (.slice A6 n6 c6);exact bodyPost_ret (v:= .tuple #[.agg #[.bool s5,.slice A5 n5 c5,.bool s6,.slice A6 n6 c6],.int .i64 c7]) (by simp[results,Tryz.results19,go_sem,d0,d1,d2,d3]) rfl ⟨q.out _ _ _ _,_,_,rfl,ai.out _ _ _ _⟩
  ·have g:=n.out;rw[hr]at g;dsimp only at g;have D:=alc1 W4 (.cells #[.bool false,.slice none 0 0,.slice none 0 0] 93);have f:=Le.trans t D;have k:Le w (W4.alloc (.cells #[.bool false,.slice none 0 0,.slice none 0 0] 93)):=Le.trans y.out f;have H:=(f.block _ (gsl G.out)).trans G.out;obtain⟨f0,f1,f2,f3⟩:=qAI H;have⟨g0,g1,g2,g3⟩:=frz4 H;have m:=λu0 u1 u2 u3=>qBv (u0:=u0) (u1:=u1) (u2:=u2) (u3:=u3) k ap;have E:=λu0 u1 u2 u3=>qAI (qBP (u0:=u0) (u1:=u1) (u2:=u2) (u3:=u3) H);have⟨al,aM,ax,aa,M,U,C,q⟩:=hyd8 t hr D f k H g m;have F:=hyd1 E;clear E m g H k f D hr t;unfold qCC;go_wp2;obtain⟨d0,d1,d2,d3⟩:=F.out (.bool false) (.slice none 0 0) (.bool false) (.slice none 0 0);exact bodyPost_ret (v:= .tuple #[qCD,.int .i64 10]) (by simp[results,Tryz.results19,go_sem,d0,d1,d2,d3,qCD]) rfl ⟨q.out _ _ _ _,_,_,rfl,by rw[<-C.out];exact⟨rfl,rfl⟩⟩
theorem qLj (p q:List FracA):opQ qCh p q=addP p q:=rfl
theorem qLS (X Y:List Rat) (j:Nat):∀k,k<=j+1->tq X Y j k=cv X Y k j
 | 0,_=>rfl
 | k+1,h=>by
  have ih:=qLS X Y j k (by omega);show tq X Y j k+X.getD k 0*Y.getD (j - k) 0=cv X Y k j+if k<=j/\j - k<Y.length then X.getD k 0*Y.getD (j - k) 0 else 0;rw[ih]
  by_cases hy:j - k<Y.length
  ·rw[if_pos ⟨by omega,hy⟩]
  ·rw[if_neg (λh=>hy h.2),qBH hy,Rat.mul_zero]
theorem qGp (X Y:List Rat) (j:Nat):∀(d k:Nat),(∀i,k<=i->X.length<=i∨j<i)->cv X Y (k+d) j=cv X Y k j
 | 0,_,_=>rfl
 | d+1,k,h=>by
  have ih:=qGp X Y j d k h;show cv X Y (k+d) j+(if k+d<=j/\j - (k+d)<Y.length then X.getD (k+d) 0*Y.getD (j - (k+d)) 0 else 0)=cv X Y k j;rw[ih]
  rcases h (k+d) (by omega)with h1|h1
  ·rw[qBH (l:=X) (k:=k+d) (by omega),Rat.zero_mul,ite_self,Rat.add_zero]
  ·rw[if_neg (by omega),Rat.add_zero]
theorem qMH (X Y:List Rat) (j:Nat):tq X Y j (j+1)=cv X Y X.length j:=by
 rw[qLS X Y j (j+1) (Nat.le_refl _)]
 by_cases h:X.length<=j+1
 ·obtain⟨d,b⟩:∃d,j+1=X.length+d:=⟨j+1 - X.length,by omega⟩;rw[b];exact qGp X Y j d X.length λi c=> .inl c
 ·obtain⟨d,b⟩:∃d,X.length=(j+1)+d:=⟨X.length - (j+1),by omega⟩;rw[b];exact(qGp X Y j d (j+1) λi c=> .inr (by omega)).symm
theorem qIt (X Y:List Rat) (j:Nat):∀k,(∀i,i<k->Y.length<=j - i)->cv X Y k j=0
 | 0,_=>rfl
 | k+1,h=>by
  have ih:=qIt X Y j k λi hi=>h i (by omega);show cv X Y k j+(if k<=j/\j - k<Y.length then X.getD k 0*Y.getD (j - k) 0 else 0)=0;rw[ih,if_neg (λhh=>by have:=h k (by omega);omega),Rat.add_zero]
theorem qLk {X Y:List Rat} (hX:X.length≠0) (hY:Y.length≠0):cv X Y X.length (X.length+Y.length - 2)=X.getD (X.length - 1) 0*Y.getD (Y.length - 1) 0:=by
 obtain⟨n,b⟩:∃n,X.length=n+1:=⟨X.length - 1,by omega⟩;rw[b];show cv X Y n (n+1+Y.length - 2)+(if n<=n+1+Y.length - 2/\n+1+Y.length - 2 - n<Y.length then X.getD n 0*Y.getD (n+1+Y.length - 2 - n) 0 else 0)=_;rw[qIt X Y _ n λi c=>by omega,if_pos (by omega),Rat.zero_add,show n+1+Y.length - 2 - n=Y.length - 1 by omega]
 rfl
theorem qLC {l:List Rat} (h:l.getD (l.length - 1) 0≠0):cutz l=l:=by
 unfold cutz
 have b:topN l l.length=l.length:=by
  obtain⟨n,c⟩:∃n,l.length=n∨l.length=n+1:=⟨l.length - 1,by omega⟩
  cases hl:l.length with
  | zero=>rfl
  | succ m=>
   rw[hl]at h;unfold topN;rw[if_neg (by simpa using h)]
 rw[b,List.take_length]
theorem qK0 {X Y:List Rat} (hX:qAT X=true) (hY:qAT Y=true):qB4 X Y=mulL X Y:=by
 unfold qB4 mulL
 by_cases b:X.length=0∨Y.length=0
 ·rw[if_pos b,if_pos b]
 ·rw[if_neg b,if_neg b];have c:¬X.length=0:=λh=>b (.inl h);have d:¬Y.length=0:=λh=>b (.inr h);have f:tqL X Y (X.length+Y.length - 1)=(List.range (X.length+Y.length - 1)).map (cv X Y X.length):=List.map_congr_left λj _=>qMH X Y j;rw[f];refine qLC ?_;rw[List.length_map,List.length_range,List.getD_eq_getElem?_getD,List.getElem?_map,List.getElem?_range (by omega),Option.map_some,Option.getD_some,show X.length+Y.length - 1 - 1=X.length+Y.length - 2 by omega,qLk c d];exact λh=>(Rat.mul_eq_zero.1 h).elim (qBh hX c) (qBh hY d)
theorem qLl (p q:List FracA):opQ qB4 p q=mulP p q:=by
 unfold opQ mulP
 cases hx:qAC p with
 | error z=>rfl
 | ok x=>
  cases hy:qAC q with
  | error z=>rfl
  | ok y=>
   show qAR (qB4 x y)=qAR (mulL x y)
   rw[qK0 (qAL hx).2.2 (qAL hy).2.2]
set_option maxHeartbeats 1000000
def qAv (l:List Rat):Rat:=l.getD (l.length - 1) 0
def qA2 (l:List Rat):List Rat:=l.map λr=>r / qAv l
def MPred.oneQ (r:Rat):MPred:=⟨λv W=>∃B s A n c D m d,v= .slice (some ⟨B,0,none⟩) 1 1/\W.heap[B]? =some (.cells #[.bool s,.slice A n c,.slice D m d] 93)/\RatL (λ_=>True) .i64 W (.agg #[.bool s,.slice A n c,.slice D m d]) r,
 λ_ _ _ hb ⟨B,s,A,n,c,D,m,d,e,k,h⟩=>⟨B,s,A,n,c,D,m,d,e,(hb.block B (gsl k)).trans k,h.le hb⟩⟩
theorem qE9 (base:Nat) (v:Value) (l:List Rat) (w:World) (hv:RowE (ratK .i64) 93 base w v l) (hl:l.length<=1000) (h0:l.length≠0->qAv l≠0) (hs:∀r∈l,Rsz r 5000000):
  Calls Tryz.prog 88 #[v] w λe w'=>∃v',e= .returned v'/\Le w w'/\RowE (ratK .i64) 93 w.heap.size w' v' (qA2 l):=by
 have I:=qEF;obtain⟨A,c,rfl⟩:=hv.slice;obtain⟨n,hn⟩:∃n,l.length=n:=⟨_,rfl⟩;rw[hn]at hl hv h0 ⊢;have⟨a8,C,a5,aC,N⟩:=hyd5 hv hn hs h0 I;clear I h0 hs hn hv;go_enter Tryz.func88,Tryz.ntmps88;go_wp2_with (fail);go_loopw [3,4] (λs i wr=>∃k:Nat,i= .int .i64 (k:Int)/\k<=n/\Hid (Below w.heap.size w wr)/\Hid (RowE (ratK .i64) 93 w.heap.size wr s ((l.take k).map λr=>r / qAv l))) (λ_ i _=>n - (intOf i).toNat)
 case atStart=>exact⟨0,rfl,Nat.zero_le _,Lib.hid (Below.refl _ _),Lib.hid (RowE.nil _ _ _ _)⟩
 case round=>
  obtain⟨k,rfl,hk,X,y⟩:=hrel
  by_cases aD:k<n
  ·have aa:k<l.length:=by rw[C.out];exact aD
   obtain⟨t,ht⟩:∃t,n=t+1:=⟨n - 1,by omega⟩;have ah:t<l.length:=by rw[C.out];omega
   obtain⟨g,c',x,-,F,-,-,cs,a4,hc⟩:=(a8.out.le X.out).at aa;rw[C.out]at x;injection x with x e2 e3;subst x e3;clear e2;obtain⟨g2,b2,x,-,-,-,-,b4,J,H⟩:=(a8.out.le X.out).at ah;rw[C.out]at x;injection x with x e2 e3;injection x with x;injection x with x;subst x;clear e2 e3;have z:l[t]=qAv l:=by unfold qAv;rw[List.getD_eq_getElem?_getD,C.out,show n - 1=t by omega,List.getElem?_eq_getElem ah];rfl
   have ac:qAv l≠0:=aC.out (by omega);have T:l.take (k+1)=l.take k++[l[k]]:=by rw[List.take_succ_eq_append_getElem aa]
   have ag:Rsz l[k] 5000000:=a5.out _ (List.getElem_mem aa);have S:Rsz l[t] 5000000:=a5.out _ (List.getElem_mem ah);rw[z]at J S;generalize l[k]=a at a4 T ag;obtain⟨b,M⟩:∃b,qAv l=b:=⟨_,rfl⟩;have q:=y.out;rw[M]at J S ac q;obtain⟨s5,A5,n5,c5,B5,m5,d5,rfl,ao⟩:=a4;obtain⟨s6,A6,n6,c6,B6,m6,d6,rfl,aw⟩:=J;have x0:wr.cell? ⟨g,k*3,none⟩=some (.bool s5):=hc 0 _ rfl;have x1:wr.cell? ⟨g,k*3+1,none⟩=some (.slice A5 n5 c5):=hc 1 _ rfl;have x2:wr.cell? ⟨g,k*3+2,none⟩=some (.slice B5 m5 d5):=hc 2 _ rfl;have y0:wr.cell? ⟨g,t*3,none⟩=some (.bool s6):=H 0 _ rfl;have y1:wr.cell? ⟨g,t*3+1,none⟩=some (.slice A6 n6 c6):=H 1 _ rfl;have y2:wr.cell? ⟨g,t*3+2,none⟩=some (.slice B6 m6 d6):=H 2 _ rfl;obtain⟨SA,sc,rfl⟩:=q.slice;have ab:((l.take k).map λr=>r / b).length =k:=by rw[List.length_map,List.length_take,C.out];omega
   rw[ab]at q ⊢;have a1:((l.take (k+1)).map λr=>r / qAv l)=((l.take k).map λr=>r / b)++[a / b]:=by rw[T,List.map_append,M];rfl
   have j1:(k:Int)<(n:Int):=by omega
   have j2:(0:Int)<=(k:Int):=by omega
   have j3:(n:Int) - 1=(t:Int):=by omega
   have j4:(t:Int)<(n:Int):=by omega
   have j5:(0:Int)<=(t:Int):=by omega
   have⟨Y,af,b8,ba,aA,a0,bc,a6⟩:=hyd8 X y hc H z ac T ag;have⟨a7,aZ,O,ap⟩:=hyd4 S M q ao;clear ao q M S ag T ac z H hc y X;have⟨ax,aN,aO,aP,aQ,ai,aj,az⟩:=hyd8 aw x0 x1 x2 y0 y1 y2 ab;have⟨a2,b9,aG⟩:=hyd3 a1 ht j3;clear j3 ht a1 ab y2 y1 y0 x2 x1 x0 aw;go_wp2_with (fail);refine qGE (R:=leRel) 13 [some 11,some 12,some 13,some 14,some 15,some 16,some 17,some 18,some 19,some 20,some 21,some 22,some 23,some 24,some 3] [[],[],[],[1,2],[3],[],[],[6],[7],[5,8],[9],[4,10],[11],[0,12],[13]]
    [.eq (.slice SA k sc),.eq (.slice (some ⟨g,0,none⟩) n c),.eq (.int .i64 (k:Int)),.eq (.pointer (some ⟨g,k*3,none⟩)),.eq (.agg #[.bool s5,.slice A5 n5 c5,.slice B5 m5 d5]),.eq (.slice (some ⟨g,0,none⟩) n c),.eq (.slice (some ⟨g,0,none⟩) n c),.eq (.int .i64 (n:Int)),.eq (.int .i64 (t:Int)),.eq (.pointer (some ⟨g,t*3,none⟩)),.eq (.agg #[.bool s6,.slice A6 n6 c6,.slice B6 m6 d6]),MPred.ratW (a / b),MPred.oneQ (a / b)] (λ_ _=>False) (by kernel_rfl) (by kernel_rfl) (by kernel_rfl) (by kernel_rfl) (by kernel_rfl) ?_ (λ_ _ _ _ h=>h.elim) ?_
   ·simp only[List.take_succ_cons,List.take_zero];refine sMc rfl ?_ (sMc rfl ?_ (sMc rfl ?_ (sMc rfl ?_ (sMc rfl ?_ (sMc rfl ?_ (sMc rfl ?_ (sMc rfl ?_ (sMc rfl ?_ (sMc rfl ?_ (sMc rfl ?_ (sMc rfl ?_ (sMc rfl ?_ (qA0)))))))))))))
    ·intro E W j o Q hK G;simp only[fA]at hK ⊢;go_wp2;exact hK _ _ lrR rfl
    ·intro E W j o Q hK G;simp only[fA]at hK ⊢;go_wp2;exact hK _ _ lrR rfl
    ·intro E W j o Q hK G;simp only[fA]at hK ⊢;go_wp2;exact hK _ _ lrR rfl
    ·intro E W j o Q hK G;obtain⟨f,x,-⟩:=o;change _=_ at f x;simp only[fA,f,x]at hK ⊢;go_wp2;exact hK _ _ lrR rfl
    ·intro E W j o Q hK G;obtain⟨f,-⟩:=o;change _=_ at f;have t0:=(Below.cell j (p:=⟨g,k*3,none⟩) F).trans aN.out;have t1:=(Below.cell j (p:=⟨g,k*3+1,none⟩) F).trans aO.out;have t2:=(Below.cell j (p:=⟨g,k*3+2,none⟩) F).trans aP.out;simp only[fA,f]at hK ⊢;go_wp2;exact hK _ _ lrR rfl
    ·intro E W j o Q hK G;simp only[fA]at hK ⊢;go_wp2;exact hK _ _ lrR rfl
    ·intro E W j o Q hK G;simp only[fA]at hK ⊢;go_wp2;exact hK _ _ lrR rfl
    ·intro E W j o Q hK G;obtain⟨f,-⟩:=o;change _=_ at f;simp only[fA,f]at hK ⊢;go_wp2;exact hK _ _ lrR rfl
    ·intro E W j o Q hK G;obtain⟨f,-⟩:=o;change _=_ at f;have jj:=aG.out;simp only[fA,f]at hK ⊢;go_wp2;exact hK _ _ lrR (by show Value.int _ _=Value.int _ _;congr 1)
    ·intro E W j o Q hK G;obtain⟨f,x,-⟩:=o;change _=_ at f x;simp only[fA,f,x]at hK ⊢;go_wp2;exact hK _ _ lrR rfl
    ·intro E W j o Q hK G;obtain⟨f,-⟩:=o;change _=_ at f;have t0:=(Below.cell j (p:=⟨g,t*3,none⟩) F).trans aQ.out;have t1:=(Below.cell j (p:=⟨g,t*3+1,none⟩) F).trans ai.out;have t2:=(Below.cell j (p:=⟨g,t*3+2,none⟩) F).trans aj.out;simp only[fA,f]at hK ⊢;go_wp2;exact hK _ _ lrR rfl
    ·intro E W j o Q hK G;obtain⟨f,x,-⟩:=o;change _=_ at f x;simp only[fA,f,x]at hK ⊢;have kc:=qHA (λ_=>True) a b _ _ W (Up.any _) (ap.out.le j) (ax.out.le j) a6.out a7.out a0.out;have aI:=hyd1 kc;clear kc;go_wp2_with (fail);go_at_call 76;refine aI.out.mono ?_;rintro e w' ⟨v',rfl,y1,y2⟩;obtain⟨vs,vA,vn,vc,vB,vm,vd,rfl⟩:=y2.frm;have⟨ai,aj⟩:=hyd2 y1 y2;clear y2 y1;go_wp2;exact hK _ _ ai.out aj.out
    ·intro E W j o Q hK G;obtain⟨f,-⟩:=o;replace f:RatL (λ_=>True) .i64 W (E 11) (a / b):=f;obtain⟨ws,wA,wn,wc,wB,wm,wd,qw⟩:=f.frm;rw[qw]at f;simp only[fA,qw]at hK ⊢;obtain⟨V4,b7,aq,k4⟩:=enew W (.cells #[.bool ws,.slice wA wn wc,.slice wB wm wd] 93);have⟨aB,U,aH⟩:=hyd3 f aq k4;clear k4 aq f;go_wp2;exact hK _ _ U.out ⟨_,_,_,_,_,_,_,_,rfl,aH.out,aB.out.le U.out⟩
   intro E W j o Q' an _;obtain⟨B9,s3,A3,n3,c3,B3,m3,d3,qv,kq,al⟩:∃B s A n c D m d,E 12= .slice (some ⟨B,0,none⟩) 1 1/\W.heap[B]? =some (.cells #[.bool s,.slice A n c,.slice D m d] 93)/\RatL (λ_=>True) .i64 W (.agg #[.bool s,.slice A n c,.slice D m d]) (a / b):=o 12 (by decide);have f:=o 0 (by decide);change _=_ at f;simp only[List.drop_succ_cons,List.drop_zero];rw[show List.range 13=[0,1,2,3,4,5,6,7,8,9,10,11,12]from rfl];simp only[fA,qv,f];clear o;clear qv f;have Z:Below w.heap.size w W:=Y.out.out.trans (j.mono Y.out.out.size);have L:=O.out.le j;have aF:=Z.size;have V:=qDS kq;have⟨av,P,ad,bB,am,b6⟩:=hyd6 Z L V kq al j;clear j al kq V L Z;refine RowE.append P.out rfl _ _ 63 rfl 56 (.agg #[.bool false,.slice none 0 0,.slice none 0 0]) (by decide) Tryz.underlying63 N.out rfl qDP rfl B9 rfl (cs:=[.bool s3,.slice A3 n3 c3,.slice B3 m3 d3]) ⟨_,_,_,_,_,_,_,rfl,am.out⟩ ad.out (by rw[az.out];omega) aF ?_;intro v7 W7 q1 q2 q3 q4 q5;have r3:Below w.heap.size w W7:=(show Below w.heap.size w W from av.out).trans q2;rw[<-a2.out]at q1;have⟨aL,bE,bF,bG,bH,aM⟩:=hyd6 q1 q2 q3 q4 q5 r3;clear r3 q5 q4 q3 q2 q1;go_wp2;refine an _ _ ?_;clear an;go_wp2;go_roundw
   case rel=>exact⟨k+1,by go_num,by omega,aM,aL⟩
   case measure=>simp[intOf];omega
  ·obtain rfl:k=n:=by omega
   have j1:¬(k:Int)<(k:Int):=by omega
   have ae:=y.out;rw[<-C.out,List.take_length]at ae;have ar:=X.out;have⟨Y,af,a3,au⟩:=hyd4 X y ae ar;clear ar ae y X;go_wp2;go_ret;exact⟨_,rfl,au.out,a3.out⟩
end Go.Proofs.YtcoajjdhkhgfdaaGreat

/- exact: operated, Add, Sub, Mul, Div, Compare. exact: Nearest's closure. exact: FromInt, Ratio, Nearest. Polynomials, program side: the exported functions. .. -/
import Derived.Test.YtcoajjdhkhgfdaaGreatPk30
namespace Go.Proofs.YtcoajjdhkhgfdaaGreat
set_option maxRecDepth 100000
open Go.RowKit Go.Shelf
set_option linter.unusedVariables false
set_option linter.unusedSimpArgs false
attribute [local go_sem] Oper.semAt_some
end Go.Proofs.YtcoajjdhkhgfdaaGreat
namespace Go.Proofs.YtcoajjdhkhgfdaaGreat
set_option maxRecDepth 100000
open Go.RowKit Go.Shelf
set_option linter.unusedVariables false
set_option linter.unusedSimpArgs false
set_option maxHeartbeats 1000000
def qEE (L:Nat->Prop) (B:Nat) (w:World) (v:Value) (c:Int):Except Int (List Rat)->Prop
 | .ok ys=>RowE (frK L) 27 B w v ys/\c=0
 | .error z=>v= .slice none 0 0/\c=z
def qBU (L:Nat->Prop) (res:Except Int (List Rat)) (w:World) (e:Ending) (w':World):Prop:=Le w w'/\∃v c,e= .returned (.tuple #[v,.int .i64 c])/\qEE L w.heap.size w' v c res
def qHz (L:Nat->Prop) (B:Nat) (w:World) (A1:Option Addr) (n1 c1:Nat) (A2:Option Addr) (n2 c2:Nat) (c:Int):Except Int (List Rat×List Rat)->Prop
 | .ok ab=>RowE (frK L) 27 B w (.slice A1 n1 c1) ab.1/\RowE (frK L) 27 B w (.slice A2 n2 c2) ab.2/\c=0
 | .error z=>n1=0/\n2=0/\A1=none/\A2=none/\c1=0/\c2=0/\c=z
def qCM (L:Nat->Prop) (res:Except Int (List Rat×List Rat)) (w:World) (e:Ending) (w':World):Prop:=Le w w'/\∃A1 n1 c1 A2 n2 c2 c,e= .returned (.tuple #[.slice A1 n1 c1,.slice A2 n2 c2,.int .i64 c])/\qHz L w.heap.size w' A1 n1 c1 A2 n2 c2 c res
theorem mkf:∀(fn:Fn) (first cap:Array Value) (w:World),(Instr.makeFunc fn first cap).run Tryz.prog w= .ok (.func fn first cap) w:=λ_ _ _ _=>rfl
theorem qEz (L:Nat->Prop) (res:Except Int (List Rat)) (g:FuncId) (cap:Array Value) (w:World) (hg:qAS Tryz.prog g) (hf:∀W,Le w W->w.heap.size+2<=W.heap.size->Calls Tryz.prog g cap W (MapPost (frK L) 27 W res)):
  Calls Tryz.prog 24 #[.func (.func g) #[] cap] w (qBU L res w):=by
 cases res with
 | ok ys=>
  refine(qHt (λv W=>RowE (frK L) 27 (w.heap.size+2) W v ys) g cap w hg (λv W m h k=>h.keep k.1 λb o=>k.2 b (h.nib o).1 (h.nib o).2.1) λW j i=>(hf W j i).mono ?_).mono ?_
  ·rintro e m ⟨d,⟨l,v,f,rfl,n⟩| ⟨z,f,-⟩⟩
   ·injection f with f;subst f;obtain⟨A,c,rfl⟩:=n.slice;exact⟨A,_,c,rfl,d,n.base i⟩
   ·cases f
  ·rintro e p ⟨v,rfl,d,h⟩;exact⟨d,v,0,rfl,h.base (by omega),rfl⟩
 | error z=>
  refine(qHZ z g cap w hg λW j i=>(hf W j i).mono ?_).mono ?_
  ·rintro e m ⟨d,⟨l,v,f,-⟩| ⟨q,f,rfl⟩⟩
   ·cases f
   ·injection f with f;subst f;exact⟨rfl,d⟩
  ·rintro e p ⟨rfl,d⟩;exact⟨d,_,z,rfl,rfl,rfl⟩
theorem qKR (L:Nat->Prop) (res:Except Int (List Rat×List Rat)) (g:FuncId) (cap:Array Value) (w:World) (hg:qAS Tryz.prog g) (hf:∀W,Le w W->w.heap.size+2<=W.heap.size->Calls Tryz.prog g cap W (DivR L W res)):
  Calls Tryz.prog 37 #[.func (.func g) #[] cap] w λe w'=>Le w w'/\∃A1 n1 c1 A2 n2 c2 c,e= .returned (.tuple #[.agg #[.slice A1 n1 c1,.slice A2 n2 c2],.int .i64 c])/\qHz L w.heap.size w' A1 n1 c1 A2 n2 c2 c res:=by
 cases res with
 | ok ab=>
  obtain⟨a,b⟩:=ab;refine(qHv (λv W=>∃A1 n1 c1 A2 n2 c2,v= .agg #[.slice A1 n1 c1,.slice A2 n2 c2]/\RowE (frK L) 27 (w.heap.size+2) W (.slice A1 n1 c1) a/\RowE (frK L) 27 (w.heap.size+2) W (.slice A2 n2 c2) b) g cap w hg (λv W o h k=>?_) λW n l=>(hf W n l).mono ?_).mono ?_
  ·obtain⟨A1,n1,c1,A2,n2,c2,rfl,d,i⟩:=h;exact⟨A1,n1,c1,A2,n2,c2,rfl,d.keep k.1 λb j=>k.2 b (d.nib j).1 (d.nib j).2.1,i.keep k.1 λb j=>k.2 b (i.nib j).1 (i.nib j).2.1⟩
  ·rintro e o ⟨f,⟨p,q,A1,n1,c1,A2,n2,c2,d,rfl,i,m⟩| ⟨z,d,-⟩⟩
   ·injection d with d;injection d with d h1';subst d h1';exact⟨A1,n1,c1,A2,n2,c2,rfl,f,A1,n1,c1,A2,n2,c2,rfl,i.base l,m.base l⟩
   ·cases d
  ·rintro e w' ⟨v,rfl,f,A1,n1,c1,A2,n2,c2,rfl,i,m⟩;exact⟨f,A1,n1,c1,A2,n2,c2,0,rfl,i.base (by omega),m.base (by omega),rfl⟩
 | error z=>
  refine(qH3 z g cap w hg λW n l=>(hf W n l).mono ?_).mono ?_
  ·rintro e o ⟨f,⟨p,q,A1,n1,c1,A2,n2,c2,d,-⟩| ⟨r,d,rfl⟩⟩
   ·cases d
   ·injection d with d;subst d;exact⟨rfl,f⟩
  ·rintro e w' ⟨rfl,f⟩;exact⟨f,none,0,0,none,0,0,z,rfl,rfl,rfl,rfl,rfl,rfl,rfl,rfl⟩
theorem qGi:qAS Tryz.prog 25:=λ_ _=>by kernel_rfl
theorem qJU (L:Nat->Prop) (p q:List FracA) (vp vq:Value) (w:World) (hL:Up w L) (hp:SeqE inK w vp p) (hq:SeqE inK w vq q):Calls Tryz.prog 7 #[vp,vq] w (qBU L (addP p q) w):=by
 have Y:=mkf;obtain⟨res,d⟩:∃r,addP p q=r:=⟨_,rfl⟩;have s:=hp;have t:=hq;obtain⟨S,U,rfl,-⟩:=hp.slice;obtain⟨T,V,rfl,-⟩:=hq.slice;obtain⟨H,D,i,B⟩:=enew w (.cells #[.slice S p.length U] 22);obtain⟨I,E,j,C⟩:=enew H (.cells #[.slice T q.length V] 22);have b:=i.trans (j.mono i.size);have k:=(j.block _ (gsl B)).trans B;have l1:=gsl k;have l2:=gsl C
 have m:=qEz L res 25 #[.pointer (some ⟨w.heap.size,0,none⟩),.pointer (some ⟨H.heap.size,0,none⟩)] I qGi λW y _=>by
  have h:=qIa L p q _ _ _ _ _ _ W (hL.later (Nat.le_trans b.size y.size)) ((y.block _ l1).trans k) ((y.block _ l2).trans C) (s.le (b.trans (y.mono b.size))) (t.le (b.trans (y.mono b.size)));rw[d]at h;exact h
 rw[d];have⟨X,P,Q,Z,aa,M,N,f⟩:=hyd8 hL s t hp hq i j b;have⟨ac,ad,R,x,G⟩:=hyd5 B C k m d;clear d m k C B b j i hq hp t s hL;go_enter Tryz.func7,Tryz.ntmps7;go_wp2_with (fail);clear D E;go_at_call 24;refine x.out.mono ?_;rintro e J ⟨o,v,c,rfl,A⟩;have g:Le w J:=(show Le w I from f.out).trans o
 have l:qBU L res w (.returned (.tuple #[v,.int .i64 c])) J:=⟨g,v,c,rfl,by
  cases res with
  | ok ys=>exact⟨A.1.base f.out.size,A.2⟩
  | error z=>exact A⟩
 have⟨O,F,n,ab⟩:=hyd4 o g l A;clear A l g o;go_wp2;go_ret2;exact n.out
theorem qGj:qAS Tryz.prog 33:=λ_ _=>by kernel_rfl
theorem qJV (L:Nat->Prop) (p q:List FracA) (vp vq:Value) (w:World) (hL:Up w L) (hp:SeqE inK w vp p) (hq:SeqE inK w vq q):Calls Tryz.prog 9 #[vp,vq] w (qBU L (mulP p q) w):=by
 have Y:=mkf;obtain⟨res,d⟩:∃r,mulP p q=r:=⟨_,rfl⟩;have s:=hp;have t:=hq;obtain⟨S,U,rfl,-⟩:=hp.slice;obtain⟨T,V,rfl,-⟩:=hq.slice;obtain⟨H,D,i,B⟩:=enew w (.cells #[.slice S p.length U] 22);obtain⟨I,E,j,C⟩:=enew H (.cells #[.slice T q.length V] 22);have b:=i.trans (j.mono i.size);have k:=(j.block _ (gsl B)).trans B;have l1:=gsl k;have l2:=gsl C
 have m:=qEz L res 33 #[.pointer (some ⟨w.heap.size,0,none⟩),.pointer (some ⟨H.heap.size,0,none⟩)] I qGj λW y _=>by
  have h:=qIb L p q _ _ _ _ _ _ W (hL.later (Nat.le_trans b.size y.size)) ((y.block _ l1).trans k) ((y.block _ l2).trans C) (s.le (b.trans (y.mono b.size))) (t.le (b.trans (y.mono b.size)));rw[d]at h;exact h
 rw[d];have⟨X,P,Q,Z,aa,M,N,f⟩:=hyd8 hL s t hp hq i j b;have⟨ac,ad,R,x,G⟩:=hyd5 B C k m d;clear d m k C B b j i hq hp t s hL;go_enter Tryz.func9,Tryz.ntmps9;go_wp2_with (fail);clear D E;go_at_call 24;refine x.out.mono ?_;rintro e J ⟨o,v,c,rfl,A⟩;have g:Le w J:=(show Le w I from f.out).trans o
 have l:qBU L res w (.returned (.tuple #[v,.int .i64 c])) J:=⟨g,v,c,rfl,by
  cases res with
  | ok ys=>exact⟨A.1.base f.out.size,A.2⟩
  | error z=>exact A⟩
 have⟨O,F,n,ab⟩:=hyd4 o g l A;clear A l g o;go_wp2;go_ret2;exact n.out
theorem qGk:qAS Tryz.prog 38:=λ_ _=>by kernel_rfl
theorem qJW (L:Nat->Prop) (p q:List FracA) (vp vq:Value) (w:World) (hL:Up w L) (hp:SeqE inK w vp p) (hq:SeqE inK w vq q):Calls Tryz.prog 11 #[vp,vq] w (qCM L (divP p q) w):=by
 have ao:=mkf;obtain⟨res,g⟩:∃r,divP p q=r:=⟨_,rfl⟩;have B:=hp;have C:=hq;obtain⟨A1,c1,rfl,-⟩:=hp.slice;obtain⟨A2,c2,rfl,-⟩:=hq.slice;obtain⟨Z,S,m,P⟩:=enew w (.cells #[.slice A1 p.length c1] 22);obtain⟨W2,T,o,Q⟩:=enew Z (.cells #[.slice A2 q.length c2] 22);have d:=m.trans (o.mono m.size);have s:=(o.block _ (gsl P)).trans P;have l1:=gsl s;have l2:=gsl Q
 have x:=qKR L res 38 #[.pointer (some ⟨w.heap.size,0,none⟩),.pointer (some ⟨Z.heap.size,0,none⟩)] W2 qGk λW M _=>by
  have h:=qIc L p q _ _ _ _ _ _ W (hL.later (Nat.le_trans d.size M.size)) ((M.block _ l1).trans s) ((M.block _ l2).trans Q) (B.le (d.trans (M.mono d.size))) (C.le (d.trans (M.mono d.size)));rw[g]at h;exact h
 rw[g];have⟨an,ag,ah,ap,aq,ac,ad,f⟩:=hyd8 hL B C hp hq m o d;have⟨au,av,ai,D,Y⟩:=hyd5 P Q s x g;clear g x s Q P d o m hq hp C B hL;go_enter Tryz.func11,Tryz.ntmps11;go_wp2_with (fail);clear S T;go_at_call 37;refine D.out.mono ?_;rintro e E ⟨A,G,N,I,H,O,J,c,rfl,F⟩;have k:Le w E:=(show Le w W2 from f.out).trans A;obtain⟨i,U,j,R⟩:=enew E (.cells #[.slice G N I,.slice H O J] 69);have l:Le w i:=k.trans j;have z0:i.cell? ⟨E.heap.size,0,none⟩=some (.slice G N I):=cell_of_row i _ 0 _ _ _ R;have z1:i.cell? ⟨E.heap.size,1,none⟩=some (.slice H O J):=cell_of_row i _ 1 _ _ _ R
 have t:∀n,qCM L res w (.returned (.tuple #[.slice G N I,.slice H O J,.int .i64 c])) (i.drewN n):=λn=>⟨l.trans (qBT (Below.refl _ i) n),G,N,I,H,O,J,c,rfl,by
  cases res with
  | ok ab=>
   obtain⟨a,b⟩:=ab;exact⟨(F.1.base f.out.size).le ((show Le E i from j).trans (qBT (Below.refl _ i) n)),(F.2.1.base f.out.size).le ((show Le E i from j).trans (qBT (Below.refl _ i) n)),F.2.2⟩
  | error z=>exact F⟩
 have⟨af,V,y,ar,ae,aw,X⟩:=hyd7 A k t F j R l;clear l R j F t k A;go_wp2_with (fail);clear U;go_quiet (fail);go_wp2;exact bodyPost_ret (v:= .tuple #[.slice G N I,.slice H O J,.int .i64 c]) (by simp[results,Tryz.results11,go_sem]) rfl (y.out _)
theorem qDd:qAS Tryz.prog 43:=λ_ _=>by kernel_rfl
def qJX {α:Type}:Except Int α->Int
 | .ok _=>0
 | .error z=>z
theorem qIA (p:List FracA) (vp:Value) (w:World) (hp:SeqE inK w vp p):Calls Tryz.prog 13 #[vp] w λe w'=>e= .returned (.int .i64 (qJX (qAC p)))/\Le w w':=by
 have L:=mkf;obtain⟨res,d⟩:∃r,qAC p=r:=⟨_,rfl⟩;have l:=hp;obtain⟨E,H,rfl,-⟩:=hp.slice;obtain⟨n,x,f,t⟩:=enew w (.cells #[.slice E p.length H] 22);have O:=gsl t
 have s:∀W,Le n W->Calls Tryz.prog 43 #[.pointer (some ⟨w.heap.size,0,none⟩)] W (MapPost (ratK .u32) 58 W res):=λW o=>by
  have h:=qH4 p _ _ _ W ((o.block _ O).trans t) (l.le (f.trans (o.mono f.size)));rw[d]at h;exact h
 have j:Calls Tryz.prog 42 #[.func (.func 43) #[] #[.pointer (some ⟨w.heap.size,0,none⟩)]] n λe w'=>∃v,e= .returned (.tuple #[v,.int .i64 (qJX res)])/\Le n w':=by
  cases res with
  | ok ys=>
   refine(qHu (λv W=>True) _ _ n qDd (λ_ _ _ _ _=>trivial) λW o _=>(s W o).mono ?_).mono ?_
   ·rintro e F ⟨b,⟨B,v,g,rfl,I⟩| ⟨z,g,-⟩⟩
    ·obtain⟨A,c,rfl⟩:=I.slice;exact⟨A,_,c,rfl,b,trivial⟩
    ·cases g
   ·rintro e w' ⟨v,rfl,b,-⟩;exact⟨v,rfl,b⟩
  | error z=>
   refine(qH1 z _ _ n qDd λW o _=>(s W o).mono ?_).mono ?_
   ·rintro e F ⟨b,⟨B,v,g,-⟩| ⟨P,g,rfl⟩⟩
    ·cases g
    ·injection g with g;subst g;exact⟨rfl,b⟩
   ·rintro e w' ⟨rfl,b⟩;exact⟨_,rfl,b⟩
 rw[d];have⟨D,M,q,N,m,y,J⟩:=hyd7 l hp f t j d s;clear s d j t f hp l;go_enter Tryz.func13,Tryz.ntmps13;go_wp2_with (fail);clear x;go_at_call 42;refine m.out.mono ?_;rintro e G ⟨v,rfl,b⟩;have i:Le w G:=(show Le w n from q.out).trans b;have⟨C,k⟩:=hyd2 b i;clear i b;go_wp2;go_ret;exact⟨rfl,k.out⟩
theorem qFA:qAS Tryz.prog 51:=λ_ _=>by kernel_rfl
theorem qKv (L:Nat->Prop) (p:List FracA) (x:FracA) (vp vx:Value) (w:World) (hL:Up w L) (hp:SeqE inK w vp p) (hx:IsFracA (λ_=>True) w vx x):Calls Tryz.prog 18 #[vp,vx] w (qFR L (valP p x) w):=by
 have a6:=mkf;obtain⟨res,j⟩:∃r,valP p x=r:=⟨_,rfl⟩;have D:=hp;have F:=hx;obtain⟨A1,c1,rfl,-⟩:=hp.slice;obtain⟨XA,xc,XB,xd,rfl,-,-⟩:=hx;obtain⟨R,S,f,H⟩:=enew w (.cells #[.slice A1 p.length c1] 22);obtain⟨W2,T,g,Q⟩:=enew R (.cells #[.bool x.sn,.slice XA x.gn.length xc,.bool x.sd,.slice XB x.gd.length xd] 27);obtain⟨G,U,l,Z⟩:=enew W2 (.cells #[.bool false,.slice none 0 0,.bool false,.slice none 0 0] 27);have i:=(f.trans (g.mono f.size)).trans (l.mono (f.trans (g.mono f.size)).size);have n:=(l.block _ (gsl ((g.block _ (gsl H)).trans H))).trans ((g.block _ (gsl H)).trans H);have o:=(l.block _ (gsl Q)).trans Q;have l1:=gsl n;have l2:=gsl o;obtain⟨b2,V⟩:∃b,W2.heap.size=b:=⟨_,rfl⟩;have J:w.heap.size<=b2:=by have:=f.size;have:=g.size;omega
 have m:∀W,Le G W->Calls Tryz.prog 51 #[.pointer (some ⟨w.heap.size,0,none⟩),.pointer (some ⟨R.heap.size,0,none⟩)] W (qFl L res W):=λW y=>by
  have d:=i.trans (y.mono i.size);have h:=qKQ L p x _ (.slice none 0 0) _ _ _ _ W (hL.le d) ((y.block _ l1).trans n) (D.le d) ⟨_,_,_,_,(y.block _ l2).trans o,F.le d⟩;rw[j]at h;exact h
 have t:Calls Tryz.prog 50 #[.func (.func 51) #[] #[.pointer (some ⟨w.heap.size,0,none⟩),.pointer (some ⟨R.heap.size,0,none⟩)]] G (qFR L res G):=by
  cases res with
  | ok r=>
   refine(qGd L r _ _ G qFA λW y=>(m W y).mono ?_).mono ?_
   ·rintro e W' ⟨d,⟨r',v,k,rfl,h2⟩| ⟨z,k,-⟩⟩
    ·injection k with k;subst k;exact⟨v,rfl,d,h2⟩
    ·cases k
   ·rintro e w' ⟨v,rfl,d,h⟩;exact⟨d,v,0,rfl,h,rfl⟩
  | error z=>
   refine(qGS z _ _ G qFA λW y=>(m W y).mono ?_).mono ?_
   ·rintro e W' ⟨d,⟨r',v,k,-⟩| ⟨z',k,rfl⟩⟩
    ·cases k
    ·injection k with k;subst k;exact⟨rfl,d⟩
   ·rintro e w' ⟨rfl,d⟩;exact⟨d,_,z,rfl,rfl,rfl⟩
 rw[j];rw[V]at Z;have⟨a5,ak,a7,al,af,ag,ah,A⟩:=hyd8 hL D hp F f g l i;have⟨a9,aA,O,am,an,E,X,aj⟩:=hyd8 H Q Z n o t j m;clear m j t o n Z Q H i l g f F hp D hL;go_enter Tryz.func18,Tryz.ntmps18;go_wp2_with (fail);clear S T U;go_at_call 50;refine E.out.mono ?_;rintro e W4 ⟨d,v,c,rfl,P⟩;have Y:=P.form;obtain⟨s7,A7,n7,c7,s8,B7,m7,d7,rfl⟩:=Y;have I:=(d.block _ (gsl O.out)).trans O.out;have s:=λu0 u1 u2 u3=>qBv (u0:=u0) (u1:=u1) (u2:=u2) (u3:=u3) ((show Le w G from A.out).trans d) J;have M:=λu0 u1 u2 u3=>qAI (qBP (u0:=u0) (u1:=u1) (u2:=u2) (u3:=u3) I);have q:=λu0 u1 u2 u3=>IsRes.box4 (u0:=u0) (u1:=u1) (u2:=u2) (u3:=u3) P I;obtain⟨f0,f1,f2,f3⟩:=qAI I;have⟨g0,g1,g2,g3⟩:=frz4 I;have⟨ai,a8,aB,C,N,B⟩:=hyd6 d P I s M q;clear q M s I P d;go_wp2;obtain⟨d0,d1,d2,d3⟩:=N.out (.bool s7) (.slice A7 n7 c7) (.bool s8) (.slice B7 m7 d7);exact bodyPost_ret (v:= .tuple #[.agg #[.bool s7,.slice A7 n7 c7,.bool s8,.slice B7 m7 d7],.int .i64 c]) (by simp[results,Tryz.results18,go_sem,d0,d1,d2,d3]) rfl ⟨C.out _ _ _ _,_,_,rfl,B.out _ _ _ _⟩
end Go.Proofs.YtcoajjdhkhgfdaaGreat

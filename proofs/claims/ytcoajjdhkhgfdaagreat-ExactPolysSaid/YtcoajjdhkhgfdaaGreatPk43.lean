/- Polynomials, the reference: CheckPoly, two, AddPoly, MulPoly. -/
import Derived.Test.YtcoajjdhkhgfdaaGreatPk42
namespace Go.Proofs.YtcoajjdhkhgfdaaGreat
set_option maxRecDepth 100000
open Go.RowKit Go.Shelf
set_option linter.unusedVariables false
set_option linter.unusedSimpArgs false
theorem qE7 {l:List FracA} {z:Int} (h:qAC l= .error z):z=4∨z=10:=by
 by_cases b:65<l.length
 ·unfold qAC at h;rw[if_pos b]at h;injection h with h;exact .inl h.symm
 ·rw[qFE b]at h
  cases hm:mapE inE l with
  | error z1=>
   rw[hm]at h;change Except.error z1=Except.error z at h;injection h with h;subst h;exact .inr (qFF hm)
  | ok rs=>
   rw[hm]at h;change (if qAT rs=true then Except.ok rs else Except.error 10)=Except.error z at h
   split at h
   ·cases h
   ·injection h with h;exact .inr h.symm
def qBK (res:Except Int (List Rat)):Int:=match res with
 | .ok _=>0
 | .error z=>z
theorem qGo (v:Value) (l:List FracA) (w:World) (hv:SeqE inK w v l):
  Calls Tryz.prog 14 #[v] w λe w'=>e= .returned (.int .i64 (qBK (qAC l)))/\Le w w':=by
 have i:=qCu v l w hv;obtain⟨res,b⟩:∃r,qAC l=r:=⟨_,rfl⟩;rw[b]at i ⊢;have⟨n,j,h⟩:=hyd3 hv i b;clear b i hv;go_enter Tryz.func14,Tryz.ntmps14;go_wp2_with (fail);go_at_call 44;refine j.out.mono ?_;rintro e o ⟨d,p,c,rfl,hq⟩
 have k:c=qBK res:=by
  cases res with
  | ok ys=>exact hq.2
  | error z=>exact hq.2
 have⟨f,m,g⟩:=hyd3 d hq k;clear k hq d;go_wp2;go_ret;rw[g.out];exact⟨rfl,f.out⟩
noncomputable def opQ (f:List Rat->List Rat->List Rat) (p q:List FracA):Except Int (List Rat):=
 match qAC p with
 | .error z=> .error z
 | .ok x=>match qAC q with
  | .error z=> .error z
  | .ok y=>qAR (f x y)
theorem qJ3 {f:List Rat->List Rat->List Rat} {p q:List FracA} {z:Int} (h:addF p q= .error z):opQ f p q= .error z:=by
 unfold addF at h;unfold opQ
 cases hx:qAC p with
 | error z1=>rw[hx]at h;injection h with h;subst h;rfl
 | ok x=>
  rw[hx]at h
  cases hy:qAC q with
  | error z1=>rw[hy]at h;injection h with h;subst h;rfl
  | ok y=>rw[hy]at h;cases h
theorem qIP {f:List Rat->List Rat->List Rat} {p q:List FracA} {x y:List Rat} (hx:qAC p= .ok x) (hy:qAC q= .ok y):opQ f p q=qAR (f x y):=by
 unfold opQ;rw[hx,hy]
def qLi (p q:List FracA) (w:World) (e:Ending) (w':World):Prop:=Le w w'/\∃vx vy c,e= .returned (.tuple #[vx,vy,.int .i64 c])∧
 ((∃x y,qAC p= .ok x/\qAC q= .ok y/\RowE (ratK .i64) 93 w.heap.size w' vx x/\RowE (ratK .i64) 93 w.heap.size w' vy y/\c=0)∨(addF p q= .error c/\c≠0))
theorem qE8 (vp vq:Value) (p q:List FracA) (w:World) (hp:SeqE inK w vp p) (hq:SeqE inK w vq q):
  Calls Tryz.prog 30 #[vp,vq] w (qLi p q w):=by
 have H:=qCu vp p w hp;have⟨N,B,D⟩:=hyd3 hp hq H;clear H hq hp;go_enter Tryz.func30,Tryz.ntmps30;go_wp2_with (fail);go_at_call 44;refine D.out.mono ?_;rintro e J ⟨i,P,c,rfl,v⟩
 cases hx:qAC p with
 | error z=>
  rw[hx]at v;obtain⟨rfl,rfl⟩:=v;have A:c≠0:=by rcases qE7 hx with h|h<;>omega
  have O:(c==0)=false:=by simpa using A
  have⟨g,l⟩:=hyd2 i hx;clear hx i;go_wp2
  go_ret3
  exact⟨g.out,_,_,_,rfl,.inr ⟨qD9 l.out,A⟩⟩
 | ok x=>
  rw[hx]at v;obtain⟨F,rfl⟩:=v;have I:=qCu vq q J (B.out.le i);have⟨g,l,C,E⟩:=hyd4 i hx F I;clear I F hx i;go_wp2_with (fail);go_at_call 44;refine E.out.mono ?_;rintro e L ⟨b,Q,M,rfl,j⟩;have d:Le w L:=g.out.trans b;have k:=C.out.le b
  cases hy:qAC q with
  | error z=>
   rw[hy]at j;obtain⟨rfl,rfl⟩:=j;have A:M≠0:=by rcases qE7 hy with h|h<;>omega
   have⟨n,f,m,r⟩:=hyd4 b d k hy;clear hy k d b;go_wp2
   go_ret3
   exact⟨f.out,_,_,_,rfl,.inr ⟨qDa l.out r.out,A⟩⟩
  | ok y=>
   rw[hy]at j;obtain⟨o,rfl⟩:=j;have s:=o.base (base':=w.heap.size) g.out.size;have⟨n,f,m,r,G,t⟩:=hyd6 b d k hy o s;clear s o hy k d b;go_wp2
   go_ret3
   exact⟨f.out,_,_,_,rfl,.inl ⟨x,y,l.out,r.out,m.out,t.out,rfl⟩⟩
theorem qIQ (L:Nat->Prop) (vp vq:Value) (p q:List FracA) (w:World) (hL:Up w L) (hp:SeqE inK w vp p) (hq:SeqE inK w vq q):
  Calls Tryz.prog 8 #[vp,vq] w (qBU L (opQ qCh p q) w):=by
 have kc:=qE8 vp vq p q w hp hq;have⟨ai,aj,Q,J⟩:=hyd4 hp hq kc hL;clear hL kc hq hp;go_enter Tryz.func8,Tryz.ntmps8;go_wp2_with (fail);go_at_call 30;refine Q.out.mono ?_;rintro e W1 ⟨o,v1,v2,c,rfl,⟨x,y,F,G,A,B,rfl⟩| ⟨I,hz⟩⟩
 ·obtain⟨au,C,-⟩:=qAL F;obtain⟨av,D,-⟩:=qAL G;have kp:=qH6 v1 v2 x y W1 (A.base (Nat.zero_le _)) (B.base (Nat.zero_le _)) (by omega) (by omega) (λr O=>qAN (C r O) (by decide)) (λr O=>qAN (D r O) (by decide));have k:=qIP (f:=qCh) F G;have⟨g,ak,al,Y,Z,ac,ad,S⟩:=hyd8 o F G A B C D kp;have l:=hyd1 k;clear k kp D C B A G F o;go_wp2_with (fail);go_at_call 32;refine S.out.mono ?_;rintro e T ⟨v3,rfl,i,v⟩;have b:Le w T:=g.out.trans i;have ko:=qCN L _ v3 _ T (J.out.le b) v;have⟨M,X,d,R⟩:=hyd4 i v b ko;clear ko b v i;go_wp2_with (fail);go_at_call 31;refine R.out.mono ?_;rintro e U ⟨j,v4,c4,rfl,E⟩;have h:Le w U:=d.out.trans j;obtain⟨res,n⟩:∃r,qAR (qCh x y)=r:=⟨_,rfl⟩;have m:=l.out;rw[n]at E m
  have V:qEE L w.heap.size U v4 c4 res:=by
   cases res with
   | ok ys=>exact⟨E.1.base d.out.size,E.2⟩
   | error z=>exact E
  have⟨N,ag,s,P,t,H⟩:=hyd6 j E h n m V;clear V m n h E j;go_wp2;go_ret2;rw[t.out];exact⟨s.out,_,_,rfl,H.out⟩
 ·have an:(c==0)=false:=by simpa using hz
  have k:=qJ3 (f:=qCh) I;have⟨g,ah,l⟩:=hyd3 o I k;clear k I o;go_wp2;go_ret2;rw[l.out];exact⟨g.out,_,_,rfl,rfl,rfl⟩
theorem qIR (L:Nat->Prop) (vp vq:Value) (p q:List FracA) (w:World) (hL:Up w L) (hp:SeqE inK w vp p) (hq:SeqE inK w vq q):
  Calls Tryz.prog 10 #[vp,vq] w (qBU L (opQ qB4 p q) w):=by
 have Z:=qE8 vp vq p q w hp hq;have⟨ah,ai,P,J⟩:=hyd4 hp hq Z hL;clear hL Z hq hp;go_enter Tryz.func10,Tryz.ntmps10;go_wp2_with (fail);go_at_call 30;refine P.out.mono ?_;rintro e W1 ⟨o,v1,v2,c,rfl,⟨x,y,F,G,A,B,rfl⟩| ⟨I,hz⟩⟩
 ·obtain⟨ar,C,-⟩:=qAL F;obtain⟨au,D,-⟩:=qAL G;have kp:=qGn v1 v2 x y W1 (A.base (Nat.zero_le _)) (B.base (Nat.zero_le _)) (by omega) (by omega) C D;have k:=qIP (f:=qB4) F G;have⟨g,aj,ak,X,Y,ab,ac,R⟩:=hyd8 o F G A B C D kp;have l:=hyd1 k;clear k kp D C B A G F o;go_wp2_with (fail);go_at_call 36;refine R.out.mono ?_;rintro e S ⟨v3,rfl,i,v⟩;have b:Le w S:=g.out.trans i;have ko:=qCN L _ v3 _ S (J.out.le b) v;have⟨M,V,d,Q⟩:=hyd4 i v b ko;clear ko b v i;go_wp2_with (fail);go_at_call 31;refine Q.out.mono ?_;rintro e T ⟨j,v4,c4,rfl,E⟩;have h:Le w T:=d.out.trans j;obtain⟨res,n⟩:∃r,qAR (qB4 x y)=r:=⟨_,rfl⟩;have m:=l.out;rw[n]at E m
  have U:qEE L w.heap.size T v4 c4 res:=by
   cases res with
   | ok ys=>exact⟨E.1.base d.out.size,E.2⟩
   | error z=>exact E
  have⟨N,af,s,O,t,H⟩:=hyd6 j E h n m U;clear U m n h E j;go_wp2;go_ret2;rw[t.out];exact⟨s.out,_,_,rfl,H.out⟩
 ·have am:(c==0)=false:=by simpa using hz
  have k:=qJ3 (f:=qB4) I;have⟨g,ag,l⟩:=hyd3 o I k;clear k I o;go_wp2;go_ret2;rw[l.out];exact⟨g.out,_,_,rfl,rfl,rfl⟩
end Go.Proofs.YtcoajjdhkhgfdaaGreat

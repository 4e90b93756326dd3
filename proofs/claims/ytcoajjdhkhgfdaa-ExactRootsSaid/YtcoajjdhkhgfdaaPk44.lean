/- Polynomials, the reference: GcdOf, Gcd. -/
import Derived.Test.YtcoajjdhkhgfdaaPk43
namespace Go.Proofs.Ytcoajjdhkhgfdaa
set_option maxRecDepth 100000
set_option maxHeartbeats 1000000
open Go.RowKit Go.Shelf
set_option linter.unusedVariables false
set_option linter.unusedSimpArgs false
theorem fe5 (D s N Q:Rat) (hD:D≠0) (hQ:Q≠0) (hs0:s≠0):N / D / (Q / D)=(s*N) / (s*Q):=by grind
theorem GL.monic {n:Nat} {l:List Rat} (h:GL n l) (h0:qAP l≠0):GL n (qAL l):=by
 obtain⟨D,v,E,t⟩:=h;obtain⟨c,p,q⟩:=GL.getD t (l.length - 1);have y:(D:Rat)≠0:=by exact_mod_cast Nat.ne_of_gt v
 have b:qAP l=(c:Rat) / (D:Rat):=p;have f:c≠0:=λh=>h0 (by rw[b,h,Rat.intCast_zero,qBm]);have i:(c:Rat)≠0:=by exact_mod_cast f
 have B:0<c.natAbs:=Int.natAbs_pos.2 f
 obtain⟨d,g,m⟩:∃s:Int,(s=1∨s= -1)/\(c.natAbs:Int)=s*c:=by
  rcases Int.natAbs_eq c with h|h
  ·exact⟨1,.inl rfl,by omega⟩
  ·exact⟨-1,.inr rfl,by omega⟩
 have o:((c.natAbs:Nat):Rat)=(d:Rat)*(c:Rat):=by
  rw[<-Rat.intCast_mul,<-m];rfl
 have A:∀N:Int,(d*N).natAbs =N.natAbs:=λN=>by rcases g with rfl|rfl<;>simp
 have k:(d:Rat)≠0:=by rcases g with rfl|rfl<;>decide+kernel
 refine⟨c.natAbs,B,q,λr j=>?_⟩;unfold qAL at j;rw[List.mem_map]at j;obtain⟨x,C,rfl⟩:=j;obtain⟨N,e,z⟩:=t x C;refine⟨d*N,?_,by rw[A];exact z⟩;rw[b,e,o,Rat.intCast_mul];exact fe5 _ _ _ _ y i k
theorem GL.part {n:Nat} {l l':List Rat} (h:GL n l) (hs:∀r∈l',r∈l):GL n l':=by
 obtain⟨D,b,c,d⟩:=h;exact⟨D,b,c,λr f=>d r (hs r f)⟩
theorem qFz {n k:Nat} {P q:List Rat} (hP:GL n P) (hq:GL k q) (h0:q.getD (q.length - 1) 0≠0):GL (n+(P.length+1 - q.length)*(k+1)) (qAI P q):=by
 unfold qAI
 by_cases h:P.length<q.length
 ·rw[if_pos h];exact hP.up (by omega)
 ·rw[if_neg h,show P.length+1 - q.length=P.length - q.length+1 by omega];exact(qCe hP hq h0 _ _).part λr b=>List.mem_of_mem_take b
theorem qDi {p q:List Rat} (tp:qAD p=true) (tq:qAD q=true) (hq0:q.length≠0):(qAI p q).length <q.length:=by
 have d:=(qCi q).len (qAc _) tq;have c:(qAG q).length ≠0:=by omega
 have h:=qHU (qCi p) (qCi q) (qAc _) (qAc _) tp tq c;have f:=h.len (qBn (qAc _)) (qBZ tp);have:=qBg (a:=qAG p) (b:=qAG q) c;omega
def qBb (p q M:Nat):Nat:=(max p q - min p q+2)*(3^min p q*(M+2))
theorem qK7 {p q r M:Nat} (hqp:q<=p) (hr:r<q):qBb q r (M+(p+1 - q)*(M+1))<=qBb p q M:=by
 unfold qBb;rw[show max q r=q by omega,show min q r=r by omega,show max p q=p by omega,show min p q=q by omega];have b:=qFu (q - r) (by omega)
 have c:M+(p+1 - q)*(M+1)+2<=(p - q+2)*(M+2):=by
  rw[show p+1 - q=p - q+1 by omega];generalize p - q=d;simp only[Nat.add_mul,Nat.mul_add];omega
 calc (q - r+2)*(3^r*(M+(p+1 - q)*(M+1)+2))<=3^(q - r)*(3^r*((p - q+2)*(M+2))):=Nat.mul_le_mul b (Nat.mul_le_mul_left _ c)
  _=(3^(q - r)*3^r)*((p - q+2)*(M+2)):=by rw[Nat.mul_assoc]
  _=3^q*((p - q+2)*(M+2)):=by rw[<-Nat.pow_add,show q - r+r=q by omega]
  _=(p - q+2)*(3^q*(M+2)):=by rw[Nat.mul_left_comm]
theorem qG8 {p q M:Nat}:qBb q p M=qBb p q M:=by
 unfold qBb;rw[Nat.max_comm,Nat.min_comm]
theorem qEb {p q M:Nat}:M+2<=qBb p q M:=by
 unfold qBb;have b:1<=3^min p q:=Nat.pow_pos (by decide);have c:M+2<=3^min p q*(M+2):=Nat.le_mul_of_pos_left _ b;exact Nat.le_trans c (Nat.le_mul_of_pos_left _ (by omega))
theorem qG9 {p q M:Nat} (h:q<=p):M+(p+1 - q)*(M+1)<=qBb p q M:=by
 unfold qBb;rw[show max p q=p by omega,show min p q=q by omega,show p+1 - q=p - q+1 by omega];generalize p - q=d;have b:1<=3^q:=Nat.pow_pos (by decide);have c:M+2<=3^q*(M+2):=Nat.le_mul_of_pos_left _ b;refine Nat.le_trans ?_ (Nat.mul_le_mul_left _ c);simp only[Nat.add_mul,Nat.mul_add];omega
theorem qGa {p q:List Rat} {M:Nat} (hq0:q.length≠0) (tp:qAD p=true) (tq:qAD q=true) (hp:GL M p) (hq:GL M q):∃N,GL N q/\GL N (qAI p q)/\qBb q.length (qAI p q).length N<=qBb p.length q.length M:=by
 by_cases h:q.length<=p.length
 ·exact⟨M+(p.length+1 - q.length)*(M+1),hq.up (by omega),qFz hp hq (qB1 tq hq0),qK7 h (qDi tp tq hq0)⟩
 ·have e:qAI p q=p:=by unfold qAI;rw[if_pos (by omega)]
  exact⟨M,hq,by rw[e];exact hp,by rw[e,qG8];exact Nat.le_refl _⟩
theorem qLo {p q:List Rat} {M:Nat} (hq0:q.length≠0) (tq:qAD q=true) (hp:GL M p) (hq:GL M q) (hr:qBb p.length q.length M<=400000):∀s,s<=p.length - q.length+1->∀r∈divS p q (p.length - q.length) s,Rsz r 500000:=by
 intro s f r b
 by_cases h:q.length<=p.length
 ·have g:=qG9 (M:=M) h;have c:=((qCe hp hq (qB1 tq hq0) (p.length - q.length) s).up (n:=M+(p.length+1 - q.length)*(M+1)) (Nat.add_le_add_left (Nat.mul_le_mul_right _ (by omega)) _)).sz r b;exact qA0 c (by omega)
 ·rw[show p.length - q.length=0 by omega]at f b;have c:=(qCe hp hq (qB1 tq hq0) 0 s).sz r b;have d:=qG9 (p:=q.length) (q:=p.length) (M:=M) (by omega);rw[qG8]at d;have i:s*(M+1)<=(q.length+1 - p.length)*(M+1):=Nat.mul_le_mul_right _ (by omega);exact qA0 c (by omega)
theorem qK8 {f:Nat} {p q:List Rat} (h:q.length=0):qAw f p q=p:=by
 cases f with
 | zero=>rfl
 | succ f=>unfold qAw;rw[if_pos h]
theorem qJd {f:Nat} {p q:List Rat} (h:q.length≠0) (hf:q.length<=f):∃g,qAw f p q=qAw g q (qAL (qAI p q))/\f=g+1:=by
 cases f with
 | zero=>omega
 | succ f=>exact⟨f,by rw[qAw,if_neg h],rfl⟩
structure GcdSt (w:World) (G P Q:List Rat) (f N:Nat):Prop where
 lp:P.length<=1000
 lq:Q.length<=1000
 tp:qAD P=true
 tq:qAD Q=true
 gp:GL N P
 gq:GL N Q
 room:qBb P.length Q.length N<=400000
 fuel:Q.length<=f
 go:qAw f P Q=G
theorem GcdSt.next {w:World} {G P Q:List Rat} {f N:Nat} (h:GcdSt w G P Q f N) (h0:Q.length≠0):∃g N',GcdSt w G Q (qAL (qAI P Q)) g N'/\(qAL (qAI P Q)).length <Q.length:=by
 obtain⟨g,k,n⟩:=qJd (p:=P) h0 h.fuel;obtain⟨N',l,d,m⟩:=qGa h0 h.tp h.tq h.gp h.gq;have o:=qDi h.tp h.tq h0;have i:=qBZ (q:=Q) h.tp
 have b:GL N' (qAL (qAI P Q)):=by
  by_cases j:(qAI P Q).length =0
  ·have:qAI P Q=[]:=List.eq_nil_of_length_eq_zero j;rw[this]at d ⊢;exact d
  ·exact d.monic (qBD i j)
 have c:=qBC (qAI P Q);exact⟨g,N',⟨h.lq,by have:=h.lq;omega,h.tq,qBE i,l,b,by rw[c];exact Nat.le_trans m h.room,by have:=h.fuel;omega,by rw[<-h.go,k]⟩,by omega⟩
theorem qJe (vp vq:Value) (p q:List Rat) (M:Nat) (w:World) (hp:RowE (ratK .i64) 63 0 w vp p) (hq:RowE (ratK .i64) 63 0 w vq q) (hlp:p.length<=1000) (hlq:q.length<=1000) (tp:qAD p=true) (tq:qAD q=true) (gp:GL M p) (gq:GL M q) (hroom:qBb p.length q.length M<=400000):
  Calls Try.prog 60 #[vp,vq] w λe w'=>∃v',e= .returned v'/\Le w w'/\RowE (ratK .i64) 63 w.heap.size w' v' (qAw q.length (qAL p) (qAL q)):=by
 have hM:=qEb (p:=p.length) (q:=q.length) (M:=M);have k1:=qE8 0 vp p w hp hlp (qBD tp) (λr U=>qA0 (gp.sz r U) (by omega))
 have y:∃N,GcdSt w (qAw q.length (qAL p) (qAL q)) (qAL p) (qAL q) q.length N:=by
  have e1:=qBC p;have e2:=qBC q
  have hm:∀l,qAD l=true->GL M l->GL M (qAL l):=λl tl gl=>by
   by_cases hz:l.length=0
   ·have:l=[]:=List.eq_nil_of_length_eq_zero hz;subst this;exact gl
   ·exact gl.monic (qBD tl hz)
  exact⟨M,by rw[e1];exact hlp,by rw[e2];exact hlq,qBE tp,qBE tq,hm p tp gp,hm q tq gq,by rw[e1,e2];exact hroom,by rw[e2];exact Nat.le_refl _,rfl⟩
 obtain⟨M0,y⟩:=y;obtain⟨G,hG⟩:∃G,qAw q.length (qAL p) (qAL q)=G:=⟨_,rfl⟩;obtain⟨f0,S⟩:∃f,q.length=f:=⟨_,rfl⟩;have a7:∀r∈q,Rsz r 5000000:=λr U=>qA0 (gq.sz r U) (by omega);rw[hG]at y ⊢;rw[S]at y;have ao:=qBD tq;have⟨bz,aL,aM,a9,bw,aZ,bb,am⟩:=hyd8 hp hq k1 y hG S hlp hlq;have⟨b4,b5,bt,bu,aA,bx,a8,ap⟩:=hyd8 tp tq gp gq hroom hM a7 ao;clear ao a7 hM hroom gq gp tq tp hlq hlp S hG y k1 hq hp;go_enter Try.func60,Try.ntmps60;go_wp2_with (fail);go_at_call 90;refine aM.out.mono ?_;rintro e W1 ⟨v1,rfl,B,ay⟩;have k2:=qE8 0 vq q W1 (aL.out.le B) am.out ap.out a8.out;have⟨h,az,aN⟩:=hyd3 B ay k2;clear k2 ay B;go_wp2_with (fail);go_at_call 90;refine aN.out.mono ?_;rintro e W2 ⟨v2,rfl,m,X⟩;have ag:Below w.heap.size w W2:=(show Below w.heap.size w W1 from h.out).trans (m.mono h.out.size);have J:=az.out.le m;have L:=X.base (base':=w.heap.size) h.out.size;have⟨aI,bf,ah,V,Y⟩:=hyd5 m X ag J L;clear L J ag X m;go_wp2_with (fail);go_loopw [0,1] (λs t wr=>∃(P Q:List Rat) (f N:Nat),Hid (Below w.heap.size w wr)/\Hid (RowE (ratK .i64) 63 w.heap.size wr s P)/\Hid (RowE (ratK .i64) 63 w.heap.size wr t Q)/\Hid (GcdSt w G P Q f N)) (λ_ t _=>qBa t)
 case atStart=>exact⟨_,_,f0,M0,ah,V,Y,a9⟩
 case round=>
  obtain⟨P,Q,f,N,hb,ab,ac,hg⟩:=hrel;obtain⟨AP,cP,rfl⟩:=ab.out.slice;obtain⟨AQ,cQ,rfl⟩:=ac.out.slice;have c:=ab.out;have d:=ac.out;have b:=hg.out;have A:=hb.out;clear ab ac hg hb;obtain⟨np,i⟩:∃n,P.length=n:=⟨_,rfl⟩;obtain⟨nq,j⟩:∃n,Q.length=n:=⟨_,rfl⟩
  by_cases h0:nq=0
  ·have e9:G=P:=by rw[<-b.go];exact qK8 (by omega)
   rw[i]at c ⊢;rw[j]at d ⊢;have j1:¬(0:Int)<(nq:Int):=by omega
   subst h0;have⟨D,E,al,k,aD,av,aw⟩:=hyd7 c d b A e9 i j;clear j i e9 A b d c;go_wp2;go_ret;exact⟨_,rfl,k.out,by rw[aD.out];exact D.out⟩
  ·have x:Q.length≠0:=by omega
   obtain⟨g,N',F,T⟩:=b.next x;have aH:=qEb (p:=P.length) (q:=Q.length) (M:=N);have I:=b.room;have aG:=qEb (p:=Q.length) (q:=(qAL (qAI P Q)).length) (M:=N');have H:=F.room;have kd:=qFK w.heap.size w.heap.size _ _ P Q wr c d A.size (by omega) (qB1 b.tq x) b.lp b.lq (λr U=>qA0 (b.gq.sz r U) (by omega)) (qLo x b.tq b.gp b.gq b.room);obtain⟨N2,-,n2,n3⟩:=qGa x b.tp b.tq b.gp b.gq;have aF:=qEb (p:=Q.length) (q:=(qAI P Q).length) (M:=N2);have a3:∀r∈qAI P Q,Rsz r 5000000:=λr U=>qA0 (n2.sz r U) (by omega);have a1:(qAI P Q).length <=1000:=by have h1:=qBC (qAI P Q);have h2:=F.lq;omega
   have a5:=qBD (qBZ (q:=Q) b.tp);have aq:=qBC (qAI P Q);clear n2 n3 aF aG aH H I N2;rw[i,j]at kd;rw[i]at c ⊢;rw[j]at d T ⊢;have j1:(0:Int)<(nq:Int):=by omega
   have j2:0<nq:=by omega
   have⟨D,E,al,k,av,aw,ax,aP⟩:=hyd8 c d b A i j F kd;have⟨a4,a2,a6,bd,be,an⟩:=hyd6 a3 a1 a5 aq x T;clear T x aq a5 a1 a3 kd F j i A b d c;go_wp2_with (fail);go_at_call 59;refine aP.out.mono ?_;rintro e W3 ⟨va,vr,rfl,o,a0,af⟩;have ai:Below w.heap.size w W3:=(show Below w.heap.size w wr from k.out).trans (o.mono k.out.size);have km:=qE8 w.heap.size vr (qAI P Q) W3 af a2.out a6.out a4.out;have O:=E.out.le o;have⟨aJ,bh,bi,z,aQ,ad⟩:=hyd6 o a0 af ai km O;clear O km ai af a0 o;go_wp2_with (fail);go_at_call 90;refine aQ.out.mono ?_;rintro e W4 ⟨v4,rfl,v,Z⟩;have aj:Below w.heap.size w W4:=(show Below w.heap.size w W3 from z.out).trans (v.mono z.out.size);have R:=ad.out.le v;have C:=Z.base (base':=w.heap.size) z.out.size
   have ar:qBa v4<nq:=by
    obtain⟨A4,c4,q4⟩:=C.slice;rw[q4];exact an.out
   have⟨aK,bg,ak,ae,aa,au⟩:=hyd6 v Z aj R C ar;clear ar C R aj Z v;go_wp2;go_roundw
   case rel=>exact⟨Q,qAL (qAI P Q),g,N',ak,ae,aa,ax⟩
   case measure=>exact au.out
noncomputable def gcdQ (x y:List Rat):List Rat:=qAw y.length (qAL x) (qAL y)
end Go.Proofs.Ytcoajjdhkhgfdaa

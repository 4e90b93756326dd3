/- Polynomials: how large what the division makes is (all coefficients over one denominator). -/
import Derived.Test.YtcoajjdhkhgfdaaGreatPk28
namespace Go.Proofs.YtcoajjdhkhgfdaaGreat
set_option maxRecDepth 100000
open Go.RowKit
set_option linter.unusedVariables false
set_option linter.unusedSimpArgs false
theorem qFn (N:Int) (D:Nat):(N:Rat) / (D:Rat)=mkR (decide (N<0)) N.natAbs D:=by
 unfold mkR;rw[qIj,Rat.mkRat_eq_div]
theorem qL8 {N:Int} {D n:Nat} (hD:0<D) (h1:N.natAbs<B9^n) (h2:D<B9^n):Rsz ((N:Rat) / (D:Rat)) n:=by
 rw[qFn];obtain⟨b,q2⟩:=qDV (decide (N<0)) N.natAbs D (by omega);exact⟨Nat.le_trans b (qBG h1),Nat.le_trans q2 (qBG h2)⟩
def GL (n:Nat) (l:List Rat):Prop:=∃D:Nat,0<D/\D<B9^n/\∀r∈l,∃N:Int,r=(N:Rat) / (D:Rat)/\N.natAbs<B9^n
theorem GL.sz {n:Nat} {l:List Rat} (h:GL n l):∀r∈l,Rsz r n:=λr hr=>by
 obtain⟨D,h1,h2,h3⟩:=h;obtain⟨N,rfl,h4⟩:=h3 r hr;exact qL8 h1 h4 h2
theorem B9p (n:Nat):0<B9^n:=Nat.pow_pos (by rw[qAP];decide)
theorem qFS {m n:Nat} (h:m<=n):B9^m<=B9^n:=Nat.pow_le_pow_right (by rw[qAP];decide) h
theorem GL.up {m n:Nat} {l:List Rat} (h:GL m l) (hmn:m<=n):GL n l:=by
 obtain⟨D,b,c,d⟩:=h;refine⟨D,b,Nat.lt_of_lt_of_le c (qFS hmn),λr g=>?_⟩;obtain⟨N,e,f⟩:=d r g;exact⟨N,e,Nat.lt_of_lt_of_le f (qFS hmn)⟩
theorem qF6 (r:Rat):r=(r.num:Rat) / (r.den:Rat):=by
 rw[<-Rat.mkRat_eq_div,Rat.mkRat_self]
theorem qDE (x:Rat):(0:Rat) / x=0:=by rw[Rat.div_def,Rat.zero_mul]
theorem fe1 (D s N Q Nt Qk E:Rat) (hD:D≠0) (hQ:Q≠0) (hE:E≠0) (hs0:s≠0):N / D - (Nt / D) / (Q / E)*(Qk / E)=(s*(N*Q - Nt*Qk)) / (D*(s*Q)):=by grind
theorem fe2 (D s N Q:Rat) (hD:D≠0) (hQ:Q≠0) (hs0:s≠0):N / D=(s*(N*Q)) / (D*(s*Q)):=by grind
theorem fe3 (a b D:Rat) (hD:D≠0) (hb:b≠0):a / b=(a*D) / (b*D):=by grind
theorem fe4 (a b D:Rat) (hD:D≠0) (hb:b≠0):a / D=(a*b) / (b*D):=by grind
theorem qC3 {a b:Int} {m n:Nat} (ha:a.natAbs<B9^m) (hb:b.natAbs<B9^n):(a*b).natAbs <B9^(m+n):=by
 rw[Int.natAbs_mul,Nat.pow_add];exact Nat.mul_lt_mul'' ha hb
theorem GL.of {m:Nat}:∀(l:List Rat),(∀r∈l,Rsz r m)->GL (1+l.length*m) l
 | [],_=>⟨1,by decide,by rw[List.length_nil,Nat.zero_mul,qAP];decide,λr hr=>by cases hr⟩
 | x::xs,h=>by
  obtain⟨D,h1,h2,h3⟩:=GL.of xs (λr hr=>h r (by simp[hr]));have hx:=h x (by simp);have hd:0<x.den:=Rat.den_pos x
  have hn9:x.num.natAbs<B9^m:=by
   have q:=qAb (rnum x);exact Nat.lt_of_lt_of_le q (qFS hx.1)
  have c:x.den<B9^m:=Nat.lt_of_lt_of_le (qAb x.den) (qFS hx.2);have i:1+(x::xs).length *m=m+(1+xs.length*m):=by rw[List.length_cons,Nat.add_mul];omega
  have d:(x.den:Rat)≠0:=by have:=hd;exact_mod_cast Nat.ne_of_gt hd
  have b:(D:Rat)≠0:=by exact_mod_cast Nat.ne_of_gt h1
  refine⟨x.den*D,Nat.mul_pos hd h1,?_,λr hr=>?_⟩
  ·rw[i,Nat.pow_add];exact Nat.mul_lt_mul'' c h2
  ·simp only[List.mem_cons]at hr
   rcases hr with rfl|hr
   ·refine⟨r.num*(D:Int),?_,?_⟩
    ·have e:=qF6 r;have f:((r.num*(D:Int):Int):Rat)=(r.num:Rat)*(D:Rat):=by rw[Rat.intCast_mul];rfl
     have g:((r.den*D:Nat):Rat)=(r.den:Rat)*(D:Rat):=by rw[Rat.natCast_mul]
     rw[f,g,<-fe3 _ _ _ b d];exact e
    ·rw[i];exact qC3 hn9 (by simpa using h2)
   ·obtain⟨N,e,j⟩:=h3 r hr;refine⟨N*(x.den:Int),?_,?_⟩
    ·have f:((N*(x.den:Int):Int):Rat)=(N:Rat)*(x.den:Rat):=by rw[Rat.intCast_mul];rfl
     have g:((x.den*D:Nat):Rat)=(x.den:Rat)*(D:Rat):=by rw[Rat.natCast_mul]
     rw[f,g,e];exact fe4 _ _ _ b d
    ·rw[i,Nat.add_comm];exact qC3 j (by simpa using c)
theorem GL.getD {n:Nat} {l:List Rat} {D:Nat} (h:∀r∈l,∃N:Int,r=(N:Rat) / (D:Rat)/\N.natAbs<B9^n) (j:Nat):∃N:Int,l.getD j 0=(N:Rat) / (D:Rat)/\N.natAbs<B9^n:=by
 rw[List.getD_eq_getElem?_getD]
 cases e:l[j]? with
 | none=>exact⟨0,by show(0:Rat)=(((0:Int):Rat)) / _;rw[Rat.intCast_zero,qDE],B9p n⟩
 | some r=>exact h r (List.mem_of_getElem? e)
theorem GL.sub {n k:Nat} {P q:List Rat} (hP:GL n P) (hq:GL k q) {t1 t2:Nat} (h0:q.getD t2 0≠0) (i k':Nat):GL (n+k+1) (subK P q i (P.getD t1 0 / q.getD t2 0) k'):=by
 obtain⟨D,I,T,J⟩:=hP;obtain⟨E,U,e2,L⟩:=hq;obtain⟨v,C,F⟩:=GL.getD J t1;obtain⟨c,p,t⟩:=GL.getD L t2;have V:(E:Rat)≠0:=by exact_mod_cast Nat.ne_of_gt U
 have O:(D:Rat)≠0:=by exact_mod_cast Nat.ne_of_gt I
 have g:c≠0:=λh=>h0 (by rw[p,h,Rat.intCast_zero,qDE]);have l:(c:Rat)≠0:=by exact_mod_cast g
 have X:0<c.natAbs:=Int.natAbs_pos.2 g
 obtain⟨b,d,z⟩:∃s:Int,(s=1∨s= -1)/\(c.natAbs:Int)=s*c:=by
  rcases Int.natAbs_eq c with h|h
  ·exact⟨1,.inl rfl,by omega⟩
  ·exact⟨-1,.inr rfl,by omega⟩
 have A:((c.natAbs:Nat):Rat)=(b:Rat)*(c:Rat):=by
  rw[<-Rat.intCast_mul,<-z];rfl
 have Y:(b:Rat)*(b:Rat)=1:=by rcases d with rfl|rfl<;>decide+kernel
 have Q:∀N:Int,(b*N).natAbs =N.natAbs:=λN=>by rcases d with rfl|rfl<;>simp
 have R:B9^(n+k)*2<=B9^(n+k+1):=by rw[Nat.pow_succ];exact Nat.mul_le_mul_left _ (by rw[qAP];decide)
 refine⟨D*c.natAbs,Nat.mul_pos I X,?_,λr S=>?_⟩
 ·have:D*c.natAbs<B9^(n+k):=by rw[Nat.pow_add];exact Nat.mul_lt_mul'' T t
  omega
 ·simp only[subK,List.mem_map,List.mem_range]at S;obtain⟨j,hj,rfl⟩:=S;obtain⟨f,o,B⟩:=GL.getD J j;obtain⟨x,G,H⟩:=GL.getD L (j - i);have M:((D*c.natAbs:Nat):Rat)=(D:Rat)*((b:Rat)*(c:Rat)):=by rw[Rat.natCast_mul,A]
  have m:(b:Rat)≠0:=by rcases d with rfl|rfl<;>decide+kernel
  have Z:=qC3 B t;have b2:=qC3 F H
  split
  ·refine⟨b*(f*c - v*x),?_,?_⟩
   ·rw[o,C,p,G,M]
    have y:((b*(f*c - v*x):Int):Rat)=(b:Rat)*((f:Rat)*(c:Rat) - (v:Rat)*(x:Rat)):=by
     rw[Rat.intCast_mul,Rat.intCast_sub,Rat.intCast_mul,Rat.intCast_mul]
    rw[y];exact fe1 _ _ _ _ _ _ _ O l V m
   ·rw[Q];omega
  ·refine⟨b*(f*c),?_,?_⟩
   ·rw[o,M]
    have y:((b*(f*c):Int):Rat)=(b:Rat)*((f:Rat)*(c:Rat)):=by
     rw[Rat.intCast_mul,Rat.intCast_mul]
    rw[y];exact fe2 _ _ _ _ O l m
   ·rw[Q];omega
theorem qDY {n k:Nat} {P q:List Rat} (hP:GL n P) (hq:GL k q) (h0:q.getD (q.length - 1) 0≠0) (m:Nat):∀s,GL (n+s*(k+1)) (divS P q m s)
 | 0=>by simpa[divS]using hP
 | s+1=>by
  have ih:=qDY hP hq h0 m s;have:=GL.sub ih hq (t1:=m - s+q.length - 1) h0 (m - s) q.length;unfold divS divC;exact this.up (by rw[Nat.add_mul];omega)
end Go.Proofs.YtcoajjdhkhgfdaaGreat

/- Polynomials: how large what the division makes is (all coefficients over one denominator). Polynomials, program side: DivPoly's, CheckPoly's and Value's .. -/
import Derived.Test.YtenjpccpldajoaaGreatDoorPk22
namespace Go.Proofs.YtenjpccpldajoaaGreatDoor
set_option maxRecDepth 100000
open Go.RowKit
set_option linter.unusedVariables false
set_option linter.unusedSimpArgs false
theorem qGi (N:Int) (D:Nat):(N:Rat) / (D:Rat)=mkR (decide (N<0)) N.natAbs D:=by
 unfold mkR;rw[qHr,Rat.mkRat_eq_div]
theorem qOk {N:Int} {D n:Nat} (hD:0<D) (h1:N.natAbs<B9^n) (h2:D<B9^n):Rsz ((N:Rat) / (D:Rat)) n:=by
 rw[qGi];obtain⟨q1,q2⟩:=qDF (decide (N<0)) N.natAbs D (by omega);exact⟨Nat.le_trans q1 (qAb h1),Nat.le_trans q2 (qAb h2)⟩
def GL (n:Nat) (l:List Rat):Prop:=∃D:Nat,0<D∧D<B9^n∧∀r∈l,∃N:Int,r=(N:Rat) / (D:Rat)∧N.natAbs<B9^n
theorem GL.sz {n:Nat} {l:List Rat} (h:GL n l):∀r∈l,Rsz r n:=fun r hr=>by
 obtain⟨D,h1,h2,h3⟩:=h;obtain⟨N,rfl,h4⟩:=h3 r hr;exact qOk h1 h4 h2
theorem B9p (n:Nat):0<B9^n:=Nat.pow_pos (by rw[qAO];decide)
theorem qDe {m n:Nat} (h:m≤n):B9^m≤B9^n:=Nat.pow_le_pow_right (by rw[qAO];decide) h
theorem GL.up {m n:Nat} {l:List Rat} (h:GL m l) (hmn:m≤n):GL n l:=by
 obtain⟨D,h1,h2,h3⟩:=h;refine⟨D,h1,Nat.lt_of_lt_of_le h2 (qDe hmn),fun r hr=>?_⟩;obtain⟨N,e,h4⟩:=h3 r hr;exact⟨N,e,Nat.lt_of_lt_of_le h4 (qDe hmn)⟩
theorem qCw (r:Rat):r=(r.num:Rat) / (r.den:Rat):=by
 rw[←Rat.mkRat_eq_div,Rat.mkRat_self]
theorem qDJ (x:Rat):(0:Rat) / x=0:=by rw[Rat.div_def,Rat.zero_mul]
theorem fe1 (D s N Q Nt Qk E:Rat) (hD:D≠0) (hQ:Q≠0) (hE:E≠0) (hs0:s≠0):N / D - (Nt / D) / (Q / E)*(Qk / E)=(s*(N*Q - Nt*Qk)) / (D*(s*Q)):=by grind
theorem fe2 (D s N Q:Rat) (hD:D≠0) (hQ:Q≠0) (hs0:s≠0):N / D=(s*(N*Q)) / (D*(s*Q)):=by grind
theorem fe3 (a b D:Rat) (hD:D≠0) (hb:b≠0):a / b=(a*D) / (b*D):=by grind
theorem fe4 (a b D:Rat) (hD:D≠0) (hb:b≠0):a / D=(a*b) / (b*D):=by grind
theorem qBm {a b:Int} {m n:Nat} (ha:a.natAbs<B9^m) (hb:b.natAbs<B9^n):(a*b).natAbs <B9^(m+n):=by
 rw[Int.natAbs_mul,Nat.pow_add];exact Nat.mul_lt_mul'' ha hb
theorem GL.of {m:Nat}:∀(l:List Rat),(∀r∈l,Rsz r m)→GL (1+l.length*m) l
 | [],_=>⟨1,by decide,by rw[List.length_nil,Nat.zero_mul,qAO];decide,fun r hr=>by cases hr⟩
 | x::xs,h=>by
  obtain⟨D,h1,h2,h3⟩:=GL.of xs (fun r hr=>h r (by simp[hr]));have hx:=h x (by simp);have hd:0<x.den:=Rat.den_pos x
  have hn9:x.num.natAbs<B9^m:=by
   have q:=qAa (rnum x);exact Nat.lt_of_lt_of_le q (qDe hx.1)
  have hd9:x.den<B9^m:=Nat.lt_of_lt_of_le (qAa x.den) (qDe hx.2);have e9:1+(x::xs).length *m=m+(1+xs.length*m):=by rw[List.length_cons,Nat.add_mul];omega
  have hdr:(x.den:Rat)≠0:=by have:=hd;exact_mod_cast Nat.ne_of_gt hd
  have hDr:(D:Rat)≠0:=by exact_mod_cast Nat.ne_of_gt h1
  refine⟨x.den*D,Nat.mul_pos hd h1,?_,fun r hr=>?_⟩
  ·rw[e9,Nat.pow_add];exact Nat.mul_lt_mul'' hd9 h2
  ·simp only[List.mem_cons]at hr
   rcases hr with rfl|hr
   ·refine⟨r.num*(D:Int),?_,?_⟩
    ·have e:=qCw r;have e2:((r.num*(D:Int):Int):Rat)=(r.num:Rat)*(D:Rat):=by rw[Rat.intCast_mul];rfl
     have e3:((r.den*D:Nat):Rat)=(r.den:Rat)*(D:Rat):=by rw[Rat.natCast_mul]
     rw[e2,e3,←fe3 _ _ _ hDr hdr];exact e
    ·rw[e9];exact qBm hn9 (by simpa using h2)
   ·obtain⟨N,e,h4⟩:=h3 r hr;refine⟨N*(x.den:Int),?_,?_⟩
    ·have e2:((N*(x.den:Int):Int):Rat)=(N:Rat)*(x.den:Rat):=by rw[Rat.intCast_mul];rfl
     have e3:((x.den*D:Nat):Rat)=(x.den:Rat)*(D:Rat):=by rw[Rat.natCast_mul]
     rw[e2,e3,e];exact fe4 _ _ _ hDr hdr
    ·rw[e9,Nat.add_comm];exact qBm h4 (by simpa using hd9)
theorem GL.getD {n:Nat} {l:List Rat} {D:Nat} (h:∀r∈l,∃N:Int,r=(N:Rat) / (D:Rat)∧N.natAbs<B9^n) (j:Nat):∃N:Int,l.getD j 0=(N:Rat) / (D:Rat)∧N.natAbs<B9^n:=by
 rw[List.getD_eq_getElem?_getD]
 cases e:l[j]? with
 | none=>exact⟨0,by show(0:Rat)=(((0:Int):Rat)) / _;rw[Rat.intCast_zero,qDJ],B9p n⟩
 | some r=>exact h r (List.mem_of_getElem? e)
theorem GL.sub {n k:Nat} {P q:List Rat} (hP:GL n P) (hq:GL k q) {t1 t2:Nat} (h0:q.getD t2 0≠0) (i k':Nat):GL (n+k+1) (subK P q i (P.getD t1 0 / q.getD t2 0) k'):=by
 obtain⟨D,d1,d2,d3⟩:=hP;obtain⟨E,e1,e2,e3⟩:=hq;obtain⟨Nt,nt1,nt2⟩:=GL.getD d3 t1;obtain⟨Qt,qt1,qt2⟩:=GL.getD e3 t2;have hE:(E:Rat)≠0:=by exact_mod_cast Nat.ne_of_gt e1
 have hD:(D:Rat)≠0:=by exact_mod_cast Nat.ne_of_gt d1
 have hQ0:Qt≠0:=fun h=>h0 (by rw[qt1,h,Rat.intCast_zero,qDJ]);have hQr:(Qt:Rat)≠0:=by exact_mod_cast hQ0
 have hp:0<Qt.natAbs:=Int.natAbs_pos.2 hQ0
 obtain⟨sg9,hs1,hs2⟩:∃s:Int,(s=1∨s= -1)∧(Qt.natAbs:Int)=s*Qt:=by
  rcases Int.natAbs_eq Qt with h|h
  ·exact⟨1,.inl rfl,by omega⟩
  ·exact⟨-1,.inr rfl,by omega⟩
 have hsr:((Qt.natAbs:Nat):Rat)=(sg9:Rat)*(Qt:Rat):=by
  rw[←Rat.intCast_mul,←hs2];rfl
 have hsq:(sg9:Rat)*(sg9:Rat)=1:=by rcases hs1 with rfl|rfl<;>decide+kernel
 have hb:∀N:Int,(sg9*N).natAbs =N.natAbs:=fun N=>by rcases hs1 with rfl|rfl<;>simp
 have hlt2:B9^(n+k)*2≤B9^(n+k+1):=by rw[Nat.pow_succ];exact Nat.mul_le_mul_left _ (by rw[qAO];decide)
 refine⟨D*Qt.natAbs,Nat.mul_pos d1 hp,?_,fun r hr=>?_⟩
 ·have:D*Qt.natAbs<B9^(n+k):=by rw[Nat.pow_add];exact Nat.mul_lt_mul'' d2 qt2
  omega
 ·simp only[subK,List.mem_map,List.mem_range]at hr;obtain⟨j,hj,rfl⟩:=hr;obtain⟨Nj,nj1,nj2⟩:=GL.getD d3 j;obtain⟨Qk,qk1,qk2⟩:=GL.getD e3 (j - i);have eD:((D*Qt.natAbs:Nat):Rat)=(D:Rat)*((sg9:Rat)*(Qt:Rat)):=by rw[Rat.natCast_mul,hsr]
  have hs0:(sg9:Rat)≠0:=by rcases hs1 with rfl|rfl<;>decide+kernel
  have b1:=qBm nj2 qt2;have b2:=qBm nt2 qk2
  split
  ·refine⟨sg9*(Nj*Qt - Nt*Qk),?_,?_⟩
   ·rw[nj1,nt1,qt1,qk1,eD]
    have e5:((sg9*(Nj*Qt - Nt*Qk):Int):Rat)=(sg9:Rat)*((Nj:Rat)*(Qt:Rat) - (Nt:Rat)*(Qk:Rat)):=by
     rw[Rat.intCast_mul,Rat.intCast_sub,Rat.intCast_mul,Rat.intCast_mul]
    rw[e5];exact fe1 _ _ _ _ _ _ _ hD hQr hE hs0
   ·rw[hb];omega
  ·refine⟨sg9*(Nj*Qt),?_,?_⟩
   ·rw[nj1,eD]
    have e5:((sg9*(Nj*Qt):Int):Rat)=(sg9:Rat)*((Nj:Rat)*(Qt:Rat)):=by
     rw[Rat.intCast_mul,Rat.intCast_mul]
    rw[e5];exact fe2 _ _ _ _ hD hQr hs0
   ·rw[hb];omega
theorem qIJ {n k:Nat} {P q:List Rat} (hP:GL n P) (hq:GL k q) (h0:q.getD (q.length - 1) 0≠0) (m:Nat):∀s,GL (n+s*(k+1)) (divS P q m s)
 | 0=>by simpa[divS]using hP
 | s+1=>by
  have ih:=qIJ hP hq h0 m s;have:=GL.sub ih hq (t1:=m - s+q.length - 1) h0 (m - s) q.length;unfold divS divC;exact this.up (by rw[Nat.add_mul];omega)
set_option maxHeartbeats 500000
open Go.RowKit Go.Shelf
theorem qE1 {rs:List Rat} (h:qAZ rs=true) (h0:¬rs.length=0):rs.getD (rs.length - 1) 0≠0:=by
 unfold qAZ at h;rw[decide_eq_false h0,Bool.false_or]at h;simpa using h
end Go.Proofs.YtenjpccpldajoaaGreatDoor

/- Turning numbers, plain: sums, products, powers; how long their parts are. reference 1: numbers of 0 or more in groups: cut, order, group. reference 1: numbers .. -/
import Derived.Test.YtabfaobakmjiaaaGreatPy31
import Derived.IntWalk
namespace Go.Proofs.YtabfaobakmjiaaaGreat
set_option maxRecDepth 100000
set_option linter.unusedVariables false
abbrev G2:=Rat×Rat
def gadd (a b:G2):G2:=(a.1+b.1,a.2+b.2)
def gmul (a b:G2):G2:=(a.1*b.1 - a.2*b.2,a.1*b.2+a.2*b.1)
def qA0 (a:G2):G2:=(a.1,-a.2)
def qAR (a:G2):Rat:=a.1*a.1+a.2*a.2
def gdiv (a b:G2):G2:=((gmul a (qA0 b)).1 / qAR b,(gmul a (qA0 b)).2 / qAR b)
def ginv (a:G2):G2:=(a.1 / qAR a,-a.2 / qAR a)
def gone:G2:=(1,0)
def gpow (a:G2):Nat->G2
 | 0=>gone
 | n+1=>gmul (gpow a n) a
theorem qFU (a b:G2):gmul a b=gmul b a:=by unfold gmul;ext<;>grind
theorem qDi (a b c:G2):gmul (gmul a b) c=gmul a (gmul b c):=by unfold gmul;ext<;>grind
theorem qFq (a:G2):gmul a gone=a:=by unfold gmul gone;ext<;>grind
theorem qEB (a:G2):gmul gone a=a:=by rw[qFU,qFq]
theorem qH3 (a:G2) (m n:Nat):gpow a (m+n)=gmul (gpow a m) (gpow a n):=by
 induction n with
 | zero=>simp[gpow,qFq]
 | succ n ih=>rw[<-Nat.add_assoc];simp only[gpow];rw[ih,qDi]
theorem qGM (x:Rat):0<=x*x:=by
 rcases(Rat.le_total:(0:Rat)<=x∨x<=0)with h|h
 ·exact Rat.mul_nonneg h h
 ·have b:0<= -x:=by grind
  have:=Rat.mul_nonneg b b
  grind
theorem qFr {a:G2} (h:qAR a=0):a.1=0/\a.2=0:=by
 unfold qAR at h;have d:=qGM a.1;have f:=qGM a.2;have b:a.1*a.1=0:=by grind
 have c:a.2*a.2=0:=by grind
 exact⟨by simpa using Rat.mul_eq_zero.1 b,by simpa using Rat.mul_eq_zero.1 c⟩
theorem qH4 {a:G2} (h:qAR a≠0):gmul a (ginv a)=gone:=by
 unfold gmul ginv gone;unfold qAR at*
 ext<;>grind
theorem qRQ {a b:G2} (h:qAR b≠0):gdiv a b=gmul a (ginv b):=by
 unfold gdiv gmul ginv qA0
 ext<;>grind
theorem qJ9 (a b:G2):qAR (gmul a b)=qAR a*qAR b:=by unfold qAR gmul;grind
theorem qJa {a:G2} (h:qAR a≠0) (n:Nat):qAR (gpow a n)≠0:=by
 induction n with
 | zero=>unfold qAR gpow gone;grind
 | succ n ih=>
  simp only[gpow];rw[qJ9];intro b
  rcases Rat.mul_eq_zero.1 b with h1|h1
  ·exact ih h1
  ·exact h h1
theorem qQK {a b:G2} (ha:qAR a≠0) (hb:qAR b≠0):ginv (gmul a b)=gmul (ginv a) (ginv b):=by
 have g:qAR (gmul a b)≠0:=by rw[qJ9];intro f;rcases Rat.mul_eq_zero.1 f with h|h<;>contradiction
 have c:=qH4 g
 have d:gmul (gmul a b) (gmul (ginv a) (ginv b))=gone:=by
  rw[qDi,<-qDi b,qFU b,qDi (ginv a),qH4 hb,qFq,qH4 ha]
 have:gmul (ginv (gmul a b)) (gmul (gmul a b) (gmul (ginv a) (ginv b)))=gmul (ginv a) (ginv b):=by
  rw[<-qDi,qFU (ginv (gmul a b)),c,qEB]
 rw[d,qFq]at this;exact this
theorem qQL {a:G2} (h:qAR a≠0) (n:Nat):gpow (ginv a) n=ginv (gpow a n):=by
 induction n with
 | zero=>
  unfold gpow ginv qAR gone
  ext<;>grind
 | succ n ih=>
  simp only[gpow];rw[ih,qQK (qJa h n) h]
def GF (a:G2) (P D:Nat):Prop:=∃(X Y:Int) (E:Nat),0<E/\E<=D/\a.1=(X:Rat) / (E:Rat)/\a.2=(Y:Rat) / (E:Rat)/\X.natAbs+Y.natAbs<=P
theorem GF.mul {a b:G2} {P D P' D':Nat} (h:GF a P D) (k:GF b P' D'):GF (gmul a b) (P*P') (D*D'):=by
 obtain⟨X,Y,E,g,o,i,j,p⟩:=h;obtain⟨c,d,f,l,r,m,n,s⟩:=k;have z:(E:Rat)≠0:=by simpa using Nat.pos_iff_ne_zero.1 g
 have q:(f:Rat)≠0:=by simpa using Nat.pos_iff_ne_zero.1 l
 refine⟨X*c - Y*d,X*d+Y*c,E*f,Nat.mul_pos g l,Nat.mul_le_mul o r,?_,?_,?_⟩
 ·unfold gmul;simp only[i,j,m,n]
  push_cast
  grind
 ·unfold gmul;simp only[i,j,m,n]
  push_cast
  grind
 ·have t:(X*c - Y*d).natAbs <=X.natAbs*c.natAbs+Y.natAbs*d.natAbs:=by
   rw[<-Int.natAbs_mul,<-Int.natAbs_mul];omega
  have v:(X*d+Y*c).natAbs <=X.natAbs*d.natAbs+Y.natAbs*c.natAbs:=by
   rw[<-Int.natAbs_mul,<-Int.natAbs_mul];omega
  have x:=Nat.mul_le_mul p s;have y:(X.natAbs+Y.natAbs)*(c.natAbs+d.natAbs)=X.natAbs*c.natAbs+Y.natAbs*d.natAbs+(X.natAbs*d.natAbs+Y.natAbs*c.natAbs):=by grind
  omega
theorem GF.pow {a:G2} {P D:Nat} (h:GF a P D) (n:Nat):GF (gpow a n) (P^n) (D^n):=by
 induction n with
 | zero=>exact⟨1,0,1,by decide,by simp,by unfold gpow gone;grind,by unfold gpow gone;grind,by simp⟩
 | succ n ih=>simp only[gpow,Nat.pow_succ];exact ih.mul h
theorem qFF (r:Rat):(r.num:Rat) / (r.den:Rat)=r:=by
 have h:=Rat.mkRat_self r;rw[Rat.mkRat_eq_div]at h;exact h
theorem qLV {r:Rat} {X:Int} {E:Nat} (hE:0<E) (h:r=(X:Rat) / (E:Rat)):r.num.natAbs<=X.natAbs/\r.den<=E:=by
 have l:(E:Rat)≠0:=by simpa using Nat.pos_iff_ne_zero.1 hE
 have m:(r.den:Rat)≠0:=by simpa using r.den_nz
 have i:(r.num:Rat)=r*(r.den:Rat):=by have:=qFF r;grind
 have j:(r.num:Rat)*(E:Rat)=(X:Rat)*(r.den:Rat):=by
  rw[i,h];grind
 have k:r.num*(E:Int)=X*(r.den:Int):=by
  have:((r.num*(E:Int):Int):Rat)=((X*(r.den:Int):Int):Rat):=by push_cast;exact j
  exact_mod_cast this
 have b:r.num.natAbs*E=X.natAbs*r.den:=by
  have:=congrArg Int.natAbs k;simpa[Int.natAbs_mul]using this
 have d:Nat.Coprime r.num.natAbs r.den:=r.reduced;have f:r.den∣E:=(Nat.Coprime.symm d).dvd_of_dvd_mul_left ⟨X.natAbs,by rw[b,Nat.mul_comm]⟩;refine⟨?_,Nat.le_of_dvd hE f⟩
 by_cases c:X=0
 ·subst c;have:r.num.natAbs*E=0:=by rw[b];simp
  rcases Nat.mul_eq_zero.1 this with h|h
  ·omega
  ·omega
 ·have g:r.num.natAbs∣X.natAbs:=d.dvd_of_dvd_mul_right ⟨E,by rw[<-b]⟩;exact Nat.le_of_dvd (Int.natAbs_pos.2 c) g
theorem GF.sz {a:G2} {P D n:Nat} (h:GF a P D) (hP:P<B9^n) (hD:D<B9^n):Rsz a.1 n/\Rsz a.2 n:=by
 obtain⟨X,Y,E,b,f,c,d,g⟩:=h;obtain⟨i,j⟩:=qLV b c;obtain⟨k,q2⟩:=qLV b d;refine⟨⟨qAr ?_,qAr ?_⟩,qAr ?_,qAr ?_⟩
 ·show a.1.num.natAbs<_;omega
 ·omega
 ·show a.2.num.natAbs<_;omega
 ·omega
theorem GF.of (a:G2):GF a (rnum a.1*a.2.den+rnum a.2*a.1.den) (a.1.den*a.2.den):=by
 refine⟨a.1.num*a.2.den,a.2.num*a.1.den,a.1.den*a.2.den,Nat.mul_pos a.1.den_pos a.2.den_pos,Nat.le_refl _,?_,?_,?_⟩
 ·have d:=qFF a.1;have b:(a.1.den:Rat)≠0:=by simpa using a.1.den_nz
  have c:(a.2.den:Rat)≠0:=by simpa using a.2.den_nz
  push_cast
  grind
 ·have d:=qFF a.2;have b:(a.1.den:Rat)≠0:=by simpa using a.1.den_nz
  have c:(a.2.den:Rat)≠0:=by simpa using a.2.den_nz
  push_cast
  grind
 ·unfold rnum;simp[Int.natAbs_mul]
theorem GF.mono {a:G2} {P D P' D':Nat} (h:GF a P D) (hP:P<=P') (hD:D<=D'):GF a P' D':=by
 obtain⟨X,Y,E,b,c,d,f,g⟩:=h;exact⟨X,Y,E,b,Nat.le_trans c hD,d,f,Nat.le_trans g hP⟩
def TSz (g:G2) (n:Nat):Prop:=Rsz g.1 n/\Rsz g.2 n
theorem qPE:2<=B9:=by have:=qA3;omega
theorem qHA {n m:Nat} (h:(dg n).length <=m):n<B9^m:=Nat.lt_of_lt_of_le (qAh n) (Nat.pow_le_pow_right qBV h)
theorem TSz.gf {a:G2} {m:Nat} (h:TSz a m):GF a (B9^(2*m+1)) (B9^(2*m)):=by
 obtain⟨⟨i,c⟩,j,d⟩:=h;have e:B9^m*B9^m=B9^(2*m):=by rw[<-Nat.pow_add,Nat.two_mul]
 have f:=Nat.mul_le_mul (Nat.le_of_lt (qHA i)) (Nat.le_of_lt (qHA d));have g:=Nat.mul_le_mul (Nat.le_of_lt (qHA j)) (Nat.le_of_lt (qHA c));have b:=Nat.mul_le_mul (Nat.le_of_lt (qHA c)) (Nat.le_of_lt (qHA d));rw[e]at f g b;refine(GF.of a).mono ?_ b;rw[Nat.pow_succ];have:=Nat.mul_le_mul_left (B9^(2*m)) qPE;omega
theorem qPF {k n:Nat} (h:k<n):B9^k<B9^n:=Nat.pow_lt_pow_right (by have:=qPE;omega) h
theorem GF.szk {a:G2} {k1 k2 n:Nat} (h:GF a (B9^k1) (B9^k2)) (h1:k1<n) (h2:k2<n):TSz a n:=h.sz (qPF h1) (qPF h2)
theorem qIO {a:G2} {i:Nat} (h:TSz a 2) (hi:i<=128):TSz (gpow a i) 650:=by
 have k:=h.gf.pow i;rw[<-Nat.pow_mul,<-Nat.pow_mul]at k;exact k.szk (by omega) (by omega)
set_option maxHeartbeats 4000000
open Go.RowKit Go.Shelf
set_option linter.unusedSimpArgs false
open Classical in
theorem qFV {L:Nat->Prop} {k:IntKind} {V:World} {g:Nat} (hL:∀b,V.heap.size<=b->L b) (h0:0<g) (hB:g<B9) (t:TypeId):NumL L k (V.alloc (.cells #[.int k g] t)) (.slice (some ⟨V.heap.size,0,none⟩) 1 1) g:=by
 unfold NumL;rw[qN8 hB (by omega)];refine⟨some ⟨V.heap.size,0,none⟩,1,rfl,Nat.le_refl _,by unfold maxLen;omega,nofun,λ_=>⟨V.heap.size,0,rfl,hL _ (Nat.le_refl _),by unfold World.alloc;show V.heap.size<(V.heap.push _).size;rw[Array.size_push];omega,λj d=>?_⟩⟩;have c:j=0:=by simpa using d
 subst c;exact cell_of_row _ _ _ #[.int k g] t (0,0) (by unfold World.alloc;exact Array.getElem?_push_size)
end Go.Proofs.YtabfaobakmjiaaaGreat
namespace Go.Proofs.YtabfaobakmjiaaaGreat
set_option maxRecDepth 100000
set_option maxHeartbeats 4000000
open Go.RowKit Go.Shelf
set_option linter.unusedVariables false
set_option linter.unusedSimpArgs false
theorem qGa:(1:Nat)<B9:=by have:=qA3;omega
theorem qDK {N:Nat} (hN:N<=18446744073709551615):(dg N).length <=3:=qAr (by
 have h1:B9^3=1000000000000000000000000000:=by rw[qA3]
 omega)
theorem qQM (a b:Int) (hb:b≠0):mkR (decide (a<0) != decide (b<0)) a.natAbs b.natAbs=(a:Rat) / (b:Rat):=by
 have h:=qMg (a:=(a:Rat)) (b:=(b:Rat)) (λh=>hb (by exact_mod_cast h));rw[<-h];show mkR _ _ _=mkR (decide (a<0) != decide (b<0)) (a.natAbs*1) (1*b.natAbs);rw[Nat.mul_one,Nat.one_mul]
end Go.Proofs.YtabfaobakmjiaaaGreat

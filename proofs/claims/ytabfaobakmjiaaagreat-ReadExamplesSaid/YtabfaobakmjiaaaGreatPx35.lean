/- Turning numbers, plain: sums, products, powers; how long their parts are. reference 1: numbers of 0 or more in groups: cut, order, group. reference 1: numbers .. -/
import Derived.Test.YtabfaobakmjiaaaGreatPx34
import Derived.IntWalk
namespace Go.Proofs.YtabfaobakmjiaaaGreat
set_option maxRecDepth 100000
set_option linter.unusedVariables false
abbrev G2:=Rat×Rat
def gadd (a b:G2):G2:=(a.1+b.1,a.2+b.2)
def gmul (a b:G2):G2:=(a.1*b.1 - a.2*b.2,a.1*b.2+a.2*b.1)
def qA4 (a:G2):G2:=(a.1,-a.2)
def qAS (a:G2):Rat:=a.1*a.1+a.2*a.2
def gdiv (a b:G2):G2:=((gmul a (qA4 b)).1 / qAS b,(gmul a (qA4 b)).2 / qAS b)
def ginv (a:G2):G2:=(a.1 / qAS a,-a.2 / qAS a)
def gone:G2:=(1,0)
def gpow (a:G2):Nat->G2
 | 0=>gone
 | n+1=>gmul (gpow a n) a
theorem qFg (a b:G2):gmul a b=gmul b a:=by unfold gmul;ext<;>grind
theorem qDy (a b c:G2):gmul (gmul a b) c=gmul a (gmul b c):=by unfold gmul;ext<;>grind
theorem qGS (a:G2):gmul a gone=a:=by unfold gmul gone;ext<;>grind
theorem qES (a:G2):gmul gone a=a:=by rw[qFg,qGS]
theorem qHz (a:G2) (m n:Nat):gpow a (m+n)=gmul (gpow a m) (gpow a n):=by
 induction n with
 | zero=>simp[gpow,qGS]
 | succ n ih=>rw[<-Nat.add_assoc];simp only[gpow];rw[ih,qDy]
theorem qGd (x:Rat):0<=x*x:=by
 rcases(Rat.le_total:(0:Rat)<=x∨x<=0)with h|h
 ·exact Rat.mul_nonneg h h
 ·have b:0<= -x:=by grind
  have:=Rat.mul_nonneg b b
  grind
theorem qGT {a:G2} (h:qAS a=0):a.1=0/\a.2=0:=by
 unfold qAS at h;have d:=qGd a.1;have f:=qGd a.2;have b:a.1*a.1=0:=by grind
 have c:a.2*a.2=0:=by grind
 exact⟨by simpa using Rat.mul_eq_zero.1 b,by simpa using Rat.mul_eq_zero.1 c⟩
theorem qIA {a:G2} (h:qAS a≠0):gmul a (ginv a)=gone:=by
 unfold gmul ginv gone;unfold qAS at*
 ext<;>grind
theorem qSP {a b:G2} (h:qAS b≠0):gdiv a b=gmul a (ginv b):=by
 unfold gdiv gmul ginv qA4
 ext<;>grind
theorem qKK (a b:G2):qAS (gmul a b)=qAS a*qAS b:=by unfold qAS gmul;grind
theorem qKL {a:G2} (h:qAS a≠0) (n:Nat):qAS (gpow a n)≠0:=by
 induction n with
 | zero=>unfold qAS gpow gone;grind
 | succ n ih=>
  simp only[gpow];rw[qKK];intro b
  rcases Rat.mul_eq_zero.1 b with h1|h1
  ·exact ih h1
  ·exact h h1
theorem qRD {a b:G2} (ha:qAS a≠0) (hb:qAS b≠0):ginv (gmul a b)=gmul (ginv a) (ginv b):=by
 have g:qAS (gmul a b)≠0:=by rw[qKK];intro f;rcases Rat.mul_eq_zero.1 f with h|h<;>contradiction
 have c:=qIA g
 have d:gmul (gmul a b) (gmul (ginv a) (ginv b))=gone:=by
  rw[qDy,<-qDy b,qFg b,qDy (ginv a),qIA hb,qGS,qIA ha]
 have:gmul (ginv (gmul a b)) (gmul (gmul a b) (gmul (ginv a) (ginv b)))=gmul (ginv a) (ginv b):=by
  rw[<-qDy,qFg (ginv (gmul a b)),c,qES]
 rw[d,qGS]at this;exact this
theorem qRE {a:G2} (h:qAS a≠0) (n:Nat):gpow (ginv a) n=ginv (gpow a n):=by
 induction n with
 | zero=>
  unfold gpow ginv qAS gone
  ext<;>grind
 | succ n ih=>
  simp only[gpow];rw[ih,qRD (qKL h n) h]
def GF (a:G2) (P D:Nat):Prop:=∃(X Y:Int) (E:Nat),0<E/\E<=D/\a.1=(X:Rat) / (E:Rat)/\a.2=(Y:Rat) / (E:Rat)/\X.natAbs+Y.natAbs<=P
theorem GF.mul {a b:G2} {P D P' D':Nat} (h:GF a P D) (k:GF b P' D'):GF (gmul a b) (P*P') (D*D'):=by
 obtain⟨X,Y,E,g,o,i,j,p⟩:=h;obtain⟨c,d,f,l,r,m,n,s⟩:=k;have z:(E:Rat)≠0:=by simpa using Nat.pos_iff_ne_zero.1 g
 have q:(f:Rat)≠0:=by simpa using Nat.pos_iff_ne_zero.1 l
 refine⟨X*c - Y*d,X*d+Y*c,E*f,Nat.mul_pos g l,Nat.mul_le_mul o r,?_,?_,?_⟩
 ·unfold gmul;simp only[i,j,m,n]
  push_cast
  grind
 ·unfold gmul;simp only[i,j,m,n]
  push_cast
  grind
 ·have t:(X*c - Y*d).natAbs <=X.natAbs*c.natAbs+Y.natAbs*d.natAbs:=by
   rw[<-Int.natAbs_mul,<-Int.natAbs_mul];omega
  have v:(X*d+Y*c).natAbs <=X.natAbs*d.natAbs+Y.natAbs*c.natAbs:=by
   rw[<-Int.natAbs_mul,<-Int.natAbs_mul];omega
  have x:=Nat.mul_le_mul p s;have y:(X.natAbs+Y.natAbs)*(c.natAbs+d.natAbs)=X.natAbs*c.natAbs+Y.natAbs*d.natAbs+(X.natAbs*d.natAbs+Y.natAbs*c.natAbs):=by grind
  omega
theorem GF.pow {a:G2} {P D:Nat} (h:GF a P D) (n:Nat):GF (gpow a n) (P^n) (D^n):=by
 induction n with
 | zero=>exact⟨1,0,1,by decide,by simp,by unfold gpow gone;grind,by unfold gpow gone;grind,by simp⟩
 | succ n ih=>simp only[gpow,Nat.pow_succ];exact ih.mul h
theorem qFZ (r:Rat):(r.num:Rat) / (r.den:Rat)=r:=by
 have h:=Rat.mkRat_self r;rw[Rat.mkRat_eq_div]at h;exact h
theorem qMF {r:Rat} {X:Int} {E:Nat} (hE:0<E) (h:r=(X:Rat) / (E:Rat)):r.num.natAbs<=X.natAbs/\r.den<=E:=by
 have l:(E:Rat)≠0:=by simpa using Nat.pos_iff_ne_zero.1 hE
 have m:(r.den:Rat)≠0:=by simpa using r.den_nz
 have i:(r.num:Rat)=r*(r.den:Rat):=by have:=qFZ r;grind
 have j:(r.num:Rat)*(E:Rat)=(X:Rat)*(r.den:Rat):=by
  rw[i,h];grind
 have k:r.num*(E:Int)=X*(r.den:Int):=by
  have:((r.num*(E:Int):Int):Rat)=((X*(r.den:Int):Int):Rat):=by push_cast;exact j
  exact_mod_cast this
 have b:r.num.natAbs*E=X.natAbs*r.den:=by
  have:=congrArg Int.natAbs k;simpa[Int.natAbs_mul]using this
 have d:Nat.Coprime r.num.natAbs r.den:=r.reduced;have f:r.den∣E:=(Nat.Coprime.symm d).dvd_of_dvd_mul_left ⟨X.natAbs,by rw[b,Nat.mul_comm]⟩;refine⟨?_,Nat.le_of_dvd hE f⟩
 by_cases c:X=0
 ·subst c;have:r.num.natAbs*E=0:=by rw[b];simp
  rcases Nat.mul_eq_zero.1 this with h|h
  ·omega
  ·omega
 ·have g:r.num.natAbs∣X.natAbs:=d.dvd_of_dvd_mul_right ⟨E,by rw[<-b]⟩;exact Nat.le_of_dvd (Int.natAbs_pos.2 c) g
theorem GF.sz {a:G2} {P D n:Nat} (h:GF a P D) (hP:P<B9^n) (hD:D<B9^n):Rsz a.1 n/\Rsz a.2 n:=by
 obtain⟨X,Y,E,b,f,c,d,g⟩:=h;obtain⟨i,j⟩:=qMF b c;obtain⟨k,q2⟩:=qMF b d;refine⟨⟨qBA ?_,qBA ?_⟩,qBA ?_,qBA ?_⟩
 ·show a.1.num.natAbs<_;omega
 ·omega
 ·show a.2.num.natAbs<_;omega
 ·omega
theorem GF.of (a:G2):GF a (rnum a.1*a.2.den+rnum a.2*a.1.den) (a.1.den*a.2.den):=by
 refine⟨a.1.num*a.2.den,a.2.num*a.1.den,a.1.den*a.2.den,Nat.mul_pos a.1.den_pos a.2.den_pos,Nat.le_refl _,?_,?_,?_⟩
 ·have d:=qFZ a.1;have b:(a.1.den:Rat)≠0:=by simpa using a.1.den_nz
  have c:(a.2.den:Rat)≠0:=by simpa using a.2.den_nz
  push_cast
  grind
 ·have d:=qFZ a.2;have b:(a.1.den:Rat)≠0:=by simpa using a.1.den_nz
  have c:(a.2.den:Rat)≠0:=by simpa using a.2.den_nz
  push_cast
  grind
 ·unfold rnum;simp[Int.natAbs_mul]
theorem GF.mono {a:G2} {P D P' D':Nat} (h:GF a P D) (hP:P<=P') (hD:D<=D'):GF a P' D':=by
 obtain⟨X,Y,E,b,c,d,f,g⟩:=h;exact⟨X,Y,E,b,Nat.le_trans c hD,d,f,Nat.le_trans g hP⟩
def TSz (g:G2) (n:Nat):Prop:=Rsz g.1 n/\Rsz g.2 n
theorem qPr:2<=B9:=by have:=qA6;omega
theorem qH6 {n m:Nat} (h:(dg n).length <=m):n<B9^m:=Nat.lt_of_lt_of_le (qAn n) (Nat.pow_le_pow_right qB8 h)
theorem TSz.gf {a:G2} {m:Nat} (h:TSz a m):GF a (B9^(2*m+1)) (B9^(2*m)):=by
 obtain⟨⟨i,c⟩,j,d⟩:=h;have e:B9^m*B9^m=B9^(2*m):=by rw[<-Nat.pow_add,Nat.two_mul]
 have f:=Nat.mul_le_mul (Nat.le_of_lt (qH6 i)) (Nat.le_of_lt (qH6 d));have g:=Nat.mul_le_mul (Nat.le_of_lt (qH6 j)) (Nat.le_of_lt (qH6 c));have b:=Nat.mul_le_mul (Nat.le_of_lt (qH6 c)) (Nat.le_of_lt (qH6 d));rw[e]at f g b;refine(GF.of a).mono ?_ b;rw[Nat.pow_succ];have:=Nat.mul_le_mul_left (B9^(2*m)) qPr;omega
theorem qPs {k n:Nat} (h:k<n):B9^k<B9^n:=Nat.pow_lt_pow_right (by have:=qPr;omega) h
theorem GF.szk {a:G2} {k1 k2 n:Nat} (h:GF a (B9^k1) (B9^k2)) (h1:k1<n) (h2:k2<n):TSz a n:=h.sz (qPs h1) (qPs h2)
theorem qIt {a:G2} {i:Nat} (h:TSz a 2) (hi:i<=128):TSz (gpow a i) 650:=by
 have k:=h.gf.pow i;rw[<-Nat.pow_mul,<-Nat.pow_mul]at k;exact k.szk (by omega) (by omega)
set_option maxHeartbeats 4000000
open Go.RowKit Go.Shelf
set_option linter.unusedSimpArgs false
open Classical in
theorem qFh {L:Nat->Prop} {k:IntKind} {V:World} {g:Nat} (hL:∀b,V.heap.size<=b->L b) (h0:0<g) (hB:g<B9) (t:TypeId):NumL L k (V.alloc (.cells #[.int k g] t)) (.slice (some ⟨V.heap.size,0,none⟩) 1 1) g:=by
 unfold NumL;rw[qOY hB (by omega)];refine⟨some ⟨V.heap.size,0,none⟩,1,rfl,Nat.le_refl _,by unfold maxLen;omega,nofun,λ_=>⟨V.heap.size,0,rfl,hL _ (Nat.le_refl _),by unfold World.alloc;show V.heap.size<(V.heap.push _).size;rw[Array.size_push];omega,λj d=>?_⟩⟩;have c:j=0:=by simpa using d
 subst c;exact cell_of_row _ _ _ #[.int k g] t (0,0) (by unfold World.alloc;exact Array.getElem?_push_size)
end Go.Proofs.YtabfaobakmjiaaaGreat
namespace Go.Proofs.YtabfaobakmjiaaaGreat
set_option maxRecDepth 100000
set_option maxHeartbeats 4000000
open Go.RowKit Go.Shelf
set_option linter.unusedVariables false
set_option linter.unusedSimpArgs false
theorem qHG:(1:Nat)<B9:=by have:=qA6;omega
theorem qD5 {N:Nat} (hN:N<=18446744073709551615):(dg N).length <=3:=qBA (by
 have h1:B9^3=1000000000000000000000000000:=by rw[qA6]
 omega)
theorem qRF (a b:Int) (hb:b≠0):mkR (decide (a<0) != decide (b<0)) a.natAbs b.natAbs=(a:Rat) / (b:Rat):=by
 have h:=qNZ (a:=(a:Rat)) (b:=(b:Rat)) (λh=>hb (by exact_mod_cast h));rw[<-h];show mkR _ _ _=mkR (decide (a<0) != decide (b<0)) (a.natAbs*1) (1*b.natAbs);rw[Nat.mul_one,Nat.one_mul]
set_option maxHeartbeats 2000000
def Unf (w:World) (v:Value):Prop:=∀b off m c,v= .slice (some ⟨b,off,none⟩) m c->∃cs t,w.heap[b]? =some (Obj.cells cs t)
theorem Unf.le {w W:World} {v:Value} (h:Unf w v) (hb:Le w W):Unf W v:=λb off m c e=>by
 obtain⟨cs,t,h1⟩:=h b off m c e;exact⟨cs,t,(hb.block b (gsl h1)).trans h1⟩
theorem Unf.setCell {w:World} {v:Value} (h:Unf w v) (a:Addr) (u:Value):Unf (w.setCell a u) v:=λb off m c e=>by
 obtain⟨cs,t,h1⟩:=h b off m c e
 by_cases hb:a.block=b
 ·obtain⟨ab,ao,sp⟩:=a;change ab=b at hb;subst hb
  cases sp with
  | none=>
   refine⟨cs.setIfInBounds ao u,t,?_⟩;simp only[World.setCell,Array.getElem?_modify,h1];simp
  | some s=>
   refine⟨cs,t,?_⟩;simp only[World.setCell,Array.getElem?_modify,h1];simp
 ·exact⟨cs,t,(Below.heap_setCell _ _ _ _ (λh=>hb h.symm)).trans h1⟩
theorem Unf.nil (w:World):Unf w (.slice none 0 0):=nofun
theorem Unf.own {w:World} {base:Nat} {e:TypeId} {v:Value} {n:Nat} {xs:List Value} (h:w.ownsRow base e 1 v n xs):Unf w v:=λb off m c hv=>by
 rcases h.2 with⟨rfl,_⟩| ⟨g,cap,cur,rfl,hbg,hg,_⟩
 ·cases hv
 ·injection hv with h1;injection h1 with h1;injection h1 with h1;subst h1;exact⟨cur,e,hg⟩
def NumU (L:Nat->Prop) (w:World) (v:Value) (n:Nat):Prop:=NumL L .u32 w v n/\Unf w v
theorem NumU.le {L:Nat->Prop} {w W:World} {v:Value} {n:Nat} (h:NumU L w v n) (hb:Le w W):NumU L W v n:=⟨h.1.le hb,h.2.le hb⟩
theorem NumU.slice {L:Nat->Prop} {w:World} {v:Value} {n:Nat} (h:NumU L w v n):∃A c,v= .slice A (dg n).length c:=h.1.slice
def MPred.numU (L:Nat->Prop) (n:Nat):MPred:=⟨λv w=>NumU L w v n,λ_ _ _ hb h=>h.le hb⟩
theorem qFi (L L2:Nat->Prop) (n:Nat) (v:Value) (w:World) (hL:Up w L) (hv:NumL L2 .u32 w v n) (hlen:(dg n).length <=1000000):
  Calls Tryz.prog 110 #[v] w λe w'=>∃v',e= .returned v'/\Le w w'/\NumU L w' v' n:=by
 have b:Arr (gv .u32) w v (dg n):=ArrL.arr hv
 by_cases s:∃a n c,v= .slice (some a) n c
 ·obtain⟨a,m,c,rfl⟩:=s;have j:=λW=>Lib.run_eql_slice_nil (P:=Tryz.prog) W 129 196 (some a) m c 0 0 Tryz.underlying129;have d:=qJk w 196 w.heap.size (Nat.le_refl _);have f:=b.below ((Below.refl w.heap.size w).alloc (Nat.le_refl _) (.cells #[] 196));have⟨g,h,p,k,i⟩:=hyd5 d f hv b hL;clear hL b hv f d;go_enter Tryz.func110,Tryz.ntmps110;go_wp2_with (at_builtin;go_must (refine qAo rfl (.tmp 5) (.tmp 6) 129 rfl w.heap.size 196 .u32 4 qAm (by decide) _ [] rfl g.out _ (dg n) rfl h.out (by simp;omega) (by simp) ?_);intro v' w' t x y z);have⟨l,q,C,D⟩:=hyd4 t x y z;clear z y x t;go_wp2;go_ret;have B:Le w w':=Below.trans (qAB _ _) q.out;exact⟨_,rfl,B,ArrL.of_own (by simpa using l.out) i.out,Unf.own l.out⟩
 ·obtain⟨rfl,r⟩:=b.nil_of λa n c A=>s ⟨a,n,c,A⟩;have j:=λW=>Lib.run_eql_slice_nil (P:=Tryz.prog) W 129 196 none 0 0 0 0 Tryz.underlying129;have⟨p,k,i,o⟩:=hyd4 hv b hL r;clear r hL b hv;go_enter Tryz.func110,Tryz.ntmps110;go_wp2;go_ret;exact⟨_,rfl,Le.refl _,by unfold NumL;rw[o.out];exact ArrL.nil _ _ _,Unf.nil _⟩
def MPred.whole (L:Nat->Prop) (s:Bool) (n:Nat):MPred:=⟨λv w=>∃A c,v= .agg #[.bool s,.slice A (dg n).length c]/\NumU L w (.slice A (dg n).length c) n,λ_ _ _ hb ⟨A,c,e,h⟩=>⟨A,c,e,h.le hb⟩⟩
def FracL (L:Nat->Prop) (w:World) (v:Value) (r:Rat):Prop:=∃A c B d,v= .agg #[.bool (rneg r),.slice A (dg (rnum r)).length c,.bool false,.slice B (dg r.den).length d]/\NumU L w (.slice A (dg (rnum r)).length c) (rnum r)/\NumU L w (.slice B (dg r.den).length d) r.den
def MPred.frac (L:Nat->Prop) (r:Rat):MPred:=⟨λv w=>FracL L w v r,λ_ _ _ hb ⟨A,c,B,d,e,h1,h2⟩=>⟨A,c,B,d,e,h1.le hb,h2.le hb⟩⟩
theorem NumL.box4 {L:Nat->Prop} {k:IntKind} {W:World} {v u0 u1 u2 u3:Value} {b0 b1:Bool} {A1 A2:Option Addr} {n1 c1 n2 c2 n B:Nat} {t:TypeId} (h:NumL L k W v n) (hk:W.heap[B]? =some (Obj.cells #[.bool b0,.slice A1 n1 c1,.bool b1,.slice A2 n2 c2] t)):
  NumL L k ((((W.setCell ⟨B,0,none⟩ u0).setCell ⟨B,1,none⟩ u1).setCell ⟨B,2,none⟩ u2).setCell ⟨B,3,none⟩ u3) v n:=by
 obtain⟨A,c,y,m,o,q,p⟩:=h;refine⟨A,c,y,m,o,q,λi=>?_⟩;obtain⟨b,off,r,s,g,l⟩:=p i
 have f:b≠B:=by
  rintro rfl;have d:=l 0 i;rw[cell_of_row W b (off+0) _ t (0,0) hk]at d;unfold gv at d;rw[Nat.add_zero]at d
  match off,d with
  | 0,d=>simp at d
  | 1,d=>simp at d
  | 2,d=>simp at d
  | 3,d=>simp at d
  | off+4,d=>simp at d
 refine⟨b,off,r,s,by simpa[World.setCell]using g,λj x=>(World.cell?_of_block ?_).trans (l j x)⟩;exact(Below.heap_setCell _ _ _ _ f).trans ((Below.heap_setCell _ _ _ _ f).trans ((Below.heap_setCell _ _ _ _ f).trans (Below.heap_setCell _ _ _ _ f)))
theorem qHH {W:World} {X:Nat} {v0 v1 v2 v3 u0 u1 u2 u3:Value} {t:TypeId} (h:W.heap[X]? =some (Obj.cells #[v0,v1,v2,v3] t)):((((W.setCell ⟨X,0,none⟩ u0).setCell ⟨X,1,none⟩ u1).setCell ⟨X,2,none⟩ u2).setCell ⟨X,3,none⟩ u3).heap[X]? =some (.cells #[u0,u1,u2,u3] t):=by
 simp only[World.setCell,Array.getElem?_modify,h];simp
theorem NumU.box4 {L:Nat->Prop} {W:World} {v u0 u1 u2 u3:Value} {b0 b1:Bool} {A1 A2:Option Addr} {n1 c1 n2 c2 n B:Nat} {t:TypeId} (h:NumU L W v n) (hk:W.heap[B]? =some (Obj.cells #[.bool b0,.slice A1 n1 c1,.bool b1,.slice A2 n2 c2] t)):
  NumU L ((((W.setCell ⟨B,0,none⟩ u0).setCell ⟨B,1,none⟩ u1).setCell ⟨B,2,none⟩ u2).setCell ⟨B,3,none⟩ u3) v n:=⟨h.1.box4 hk,(((h.2.setCell _ _).setCell _ _).setCell _ _).setCell _ _⟩
theorem NumU.box_set {L:Nat->Prop} {W:World} {v u x:Value} {n k:Nat} {t:TypeId} (h:NumU L W v n) (hk:W.heap[k]? =some (.cells #[x] t)) (hx:∀g:Nat,x≠gv .u32 g:=by intro g;unfold gv;simp):NumU L (W.setCell ⟨k,0,none⟩ u) v n:=⟨h.1.box_set hk hx,h.2.setCell _ _⟩
theorem World.frozen4 {W:World} {B:Nat} {cs:Array Value} {t:TypeId} (h:W.heap[B]? =some (.cells cs t)) (i:Nat):W.frozen? ⟨B,i,none⟩=false:=fz0 h i
theorem qJb {w W:World} {X:Nat} {u0 u1 u2 u3:Value} (h:Le w W) (hX:w.heap.size<=X):Le w ((((W.setCell ⟨X,0,none⟩ u0).setCell ⟨X,1,none⟩ u1).setCell ⟨X,2,none⟩ u2).setCell ⟨X,3,none⟩ u3):=
 (((Below.setCell h (p:=⟨X,0,none⟩) hX _).setCell (p:=⟨X,1,none⟩) hX _).setCell (p:=⟨X,2,none⟩) hX _).setCell (p:=⟨X,3,none⟩) hX _
theorem qHI (L L2:Nat->Prop) (r:Rat) (v:Value) (w:World) (hL:Up w L) (h:RatL L2 .u32 w v r) (hs:Rsz r 40):
  Calls Tryz.prog 55 #[v] w λe w'=>∃v',e= .returned v'/\Le w w'/\FracL L w' v' r:=by
 obtain⟨An,cn,Ad,cd,rfl,hn,hd⟩:=h.form;obtain⟨aK,aL⟩:=hs;have aH:((dg (rnum r)).length :Int)<=40:=by omega
 have aI:((dg r.den).length :Int)<=40:=by omega
 obtain⟨A,Y⟩:∃A,rneg r=A:=⟨_,rfl⟩;rw[Y];have⟨h',an,ar,ap,n⟩:=hyd5 h hL hn hd Y;clear Y hd hn hL h;go_enter Tryz.func55,Tryz.ntmps55
 by_cases aJ:(dg (rnum r)).length <(dg r.den).length
 ·have a0:((dg (rnum r)).length :Int)<((dg r.den).length :Int):=by omega
  go_wp2_with (fail);go_at_call 84;refine(qBO _ _).mono ?_;rintro e W3 ⟨rfl,rfl⟩;obtain⟨y,G,U⟩:=qBR (Le.refl ((w.alloc (.cells #[.bool A,.slice An (dg (rnum r)).length cn,.slice Ad (dg r.den).length cd] 131)).alloc (.cells #[.bool false,.slice none 0 0,.bool false,.slice none 0 0] 76)));generalize hW0:(w.alloc (.cells #[.bool A,.slice An (dg (rnum r)).length cn,.slice Ad (dg r.den).length cd] 131)).alloc (.cells #[.bool false,.slice none 0 0,.bool false,.slice none 0 0] 76)=W0 at*;obtain⟨H,I,J,-⟩:=qAK G;have a1:=(gsl G);have a2:=(gsl U);have q:=an.out.le y;have⟨ao,m,ay,V,k⟩:=hyd5 hW0 y G U q;clear q U G y hW0;go_wp2_with (fail);refine qAR (R:=leRel) 11 [some 12,some 13,some 14,some 15,some 16,some 17,some 18,some 19,some 20,some 21,some 22,none] [[],[0],[],[2],[3],[1,4],[],[6],[7],[8],[5,9],[10]]
   [.eq (.pointer (some ⟨w.heap.size,0,none⟩)),.eq (.bool A),.eq (.pointer (some ⟨w.heap.size,1,none⟩)),.eq (.slice An (dg (rnum r)).length cn),MPred.numU L (rnum r),MPred.whole L A (rnum r),.eq (.pointer (some ⟨w.heap.size,2,none⟩)),.eq (.slice Ad (dg r.den).length cd),MPred.numU L r.den,MPred.whole L false r.den,MPred.frac L r] (λ_ _=>False) (by kernel_rfl) (by kernel_rfl) (by kernel_rfl) (by kernel_rfl) ?_ (λ_ _ _ _ _ h=>h.elim) ?_
  ·simp only[List.take_succ_cons,List.take_zero];refine mSc ?_ (mSc ?_ (mSc ?_ (mSc ?_ (mSc ?_ (mSc ?_ (mSc ?_ (mSc ?_ (mSc ?_ (mSc ?_ (mSc ?_ (qAU)))))))))))
   ·refine mSl rfl λx W d b Q hK _=>?_;simp only[fA]at hK ⊢;go_wp2;exact hK _ _ lrR rfl
   ·refine mSl rfl λx W d b Q hK _=>?_;obtain⟨c,-⟩:=b;change _=_ at c;have cc:=bcl d (by omega) H;simp only[fA,c]at hK ⊢;go_wp2;exact hK _ _ lrR rfl
   ·refine mSl rfl λx W d b Q hK _=>?_;simp only[fA]at hK ⊢;go_wp2;exact hK _ _ lrR rfl
   ·refine mSl rfl λx W d b Q hK _=>?_;obtain⟨c,-⟩:=b;change _=_ at c;have cc:=bcl d (by omega) I;simp only[fA,c]at hK ⊢;go_wp2;exact hK _ _ lrR rfl
   ·refine mSl rfl λx W d b Q hK _=>?_;obtain⟨c,-⟩:=b;change _=_ at c;simp only[fA,c]at hK ⊢;go_wp2_with (fail);go_at_call 110;refine(qFi L L2 (rnum r) _ W (k.out.le d) ((ar.out.le m.out).le d) (by omega)).mono ?_;rintro e w' ⟨v',rfl,Z,D⟩;obtain⟨E,F,rfl⟩:=D.slice;go_wp2;exact hK _ _ Z D
   ·refine mSl rfl λx W d b Q hK _=>?_;obtain⟨c,f,-⟩:=b;change _=_ at c;replace f:NumU L W (x 4) (rnum r):=f;obtain⟨E,F,p⟩:=f.slice;rw[p]at f;simp only[fA,c,p]at hK ⊢;go_wp2;exact hK _ _ lrR ⟨_,_,rfl,f⟩
   ·refine mSl rfl λx W d b Q hK _=>?_;simp only[fA]at hK ⊢;go_wp2;exact hK _ _ lrR rfl
   ·refine mSl rfl λx W d b Q hK _=>?_;obtain⟨c,-⟩:=b;change _=_ at c;have cc:=bcl d (by omega) J;simp only[fA,c]at hK ⊢;go_wp2;exact hK _ _ lrR rfl
   ·refine mSl rfl λx W d b Q hK _=>?_;obtain⟨c,-⟩:=b;change _=_ at c;simp only[fA,c]at hK ⊢;go_wp2_with (fail);go_at_call 110;refine(qFi L L2 (r.den) _ W (k.out.le d) ((ap.out.le m.out).le d) (by omega)).mono ?_;rintro e w' ⟨v',rfl,Z,D⟩;obtain⟨E,F,rfl⟩:=D.slice;go_wp2;exact hK _ _ Z D
   ·refine mSl rfl λx W d b Q hK _=>?_;obtain⟨f,-⟩:=b;replace f:NumU L W (x 8) r.den:=f;obtain⟨E,F,p⟩:=f.slice;rw[p]at f;simp only[fA,p]at hK ⊢;go_wp2;exact hK _ _ lrR ⟨_,_,rfl,f⟩
   ·refine mSl rfl λx W d b Q hK _=>?_;obtain⟨c,f,-⟩:=b;obtain⟨A8,c8,T,y8⟩:=c;obtain⟨E,F,p,y9⟩:=f;replace T:x 5=_:=T;replace p:x 9=_:=p;simp only[fA,T,p]at hK ⊢;go_wp2;exact hK _ _ lrR ⟨_,_,_,_,by rw[n.out],y8,y9⟩
  ·intro x W d b Q' X _;have c:=b 0 (by decide);have f:=b 1 (by decide);have N:=b 2 (by decide);have O:=b 3 (by decide);have P:=b 6 (by decide);have S:=b 7 (by decide);have M:FracL L W (x 10) r:=b 10 (by decide);change _=_ at c f N O P S;obtain⟨A1,c1,A2,c2,o,y3,y4⟩:=M;rw[n.out]at o;have g:=(Below.block d (w.heap.size+1) (by omega)).trans V.out;obtain⟨z0,z1,z2,z3⟩:=qBI g;simp only[List.drop_succ_cons,List.drop_zero];rw[show List.range 11=[0,1,2,3,4,5,6,7,8,9,10]from rfl];simp only[fA,c,f,N,O,P,S,o];generalize x 4=x4;generalize x 5=x5;generalize x 8=x8;generalize x 9=x9;clear c f N O P S b;have t:=λu0 u1 u2 u3=>qJb (u0:=u0) (u1:=u1) (u2:=u2) (u3:=u3) (Le.trans m.out d) (show w.heap.size<=w.heap.size+1 by omega);have B:=λu0 u1 u2 u3=>qBI (qHH (u0:=u0) (u1:=u1) (u2:=u2) (u3:=u3) g);have j:=λi=>World.frozen4 g i;have s:=λu0 u1 u2 u3=>And.intro (NumU.box4 (u0:=u0) (u1:=u1) (u2:=u2) (u3:=u3) y3 g) (NumU.box4 (u0:=u0) (u1:=u1) (u2:=u2) (u3:=u3) y4 g);have g0:=j 0;have g1:=j 1;have g2:=j 2;have g3:=j 3;have⟨z,C,l,am,a3,a4,al,az⟩:=hyd8 t B s g y3 y4 o d;have aq:=hyd1 j;clear j d o y4 y3 g s B t;go_wp2;refine X _ _ ?_;go_wp2;obtain⟨d0,d1,d2,d3⟩:=C.out (.bool A) (.slice A1 (dg (rnum r)).length c1) (.bool false) (.slice A2 (dg r.den).length c2)
   refine bodyPost_ret (v:= .agg #[.bool A,.slice A1 (dg (rnum r)).length c1,.bool false,.slice A2 (dg r.den).length c2]) (by simp[results,Tryz.results55,go_sem,d0,d1,d2,d3]) rfl ⟨_,rfl,z.out _ _ _ _,?_⟩;exact⟨_,_,_,_,by rw[n.out],(l.out _ _ _ _).1,(l.out _ _ _ _).2⟩
 ·have a0:¬((dg (rnum r)).length :Int)<((dg r.den).length :Int):=by omega
  go_wp2_with (fail);go_at_call 84;refine(qBO _ _).mono ?_;rintro e W3 ⟨rfl,rfl⟩;obtain⟨y,G,U⟩:=qBR (Le.refl ((w.alloc (.cells #[.bool A,.slice An (dg (rnum r)).length cn,.slice Ad (dg r.den).length cd] 131)).alloc (.cells #[.bool false,.slice none 0 0,.bool false,.slice none 0 0] 76)));generalize hW0:(w.alloc (.cells #[.bool A,.slice An (dg (rnum r)).length cn,.slice Ad (dg r.den).length cd] 131)).alloc (.cells #[.bool false,.slice none 0 0,.bool false,.slice none 0 0] 76)=W0 at*;obtain⟨H,I,J,-⟩:=qAK G;have a1:=(gsl G);have a2:=(gsl U);have q:=an.out.le y;have⟨ao,m,ay,V,k⟩:=hyd5 hW0 y G U q;clear q U G y hW0;go_wp2_with (fail);refine qAR (R:=leRel) 11 [some 12,some 13,some 14,some 15,some 16,some 17,some 18,some 19,some 20,some 21,some 22,none] [[],[0],[],[2],[3],[1,4],[],[6],[7],[8],[5,9],[10]]
   [.eq (.pointer (some ⟨w.heap.size,0,none⟩)),.eq (.bool A),.eq (.pointer (some ⟨w.heap.size,1,none⟩)),.eq (.slice An (dg (rnum r)).length cn),MPred.numU L (rnum r),MPred.whole L A (rnum r),.eq (.pointer (some ⟨w.heap.size,2,none⟩)),.eq (.slice Ad (dg r.den).length cd),MPred.numU L r.den,MPred.whole L false r.den,MPred.frac L r] (λ_ _=>False) (by kernel_rfl) (by kernel_rfl) (by kernel_rfl) (by kernel_rfl) ?_ (λ_ _ _ _ _ h=>h.elim) ?_
  ·simp only[List.take_succ_cons,List.take_zero];refine mSc ?_ (mSc ?_ (mSc ?_ (mSc ?_ (mSc ?_ (mSc ?_ (mSc ?_ (mSc ?_ (mSc ?_ (mSc ?_ (mSc ?_ (qAU)))))))))))
   ·refine mSl rfl λx W d b Q hK _=>?_;simp only[fA]at hK ⊢;go_wp2;exact hK _ _ lrR rfl
   ·refine mSl rfl λx W d b Q hK _=>?_;obtain⟨c,-⟩:=b;change _=_ at c;have cc:=bcl d (by omega) H;simp only[fA,c]at hK ⊢;go_wp2;exact hK _ _ lrR rfl
   ·refine mSl rfl λx W d b Q hK _=>?_;simp only[fA]at hK ⊢;go_wp2;exact hK _ _ lrR rfl
   ·refine mSl rfl λx W d b Q hK _=>?_;obtain⟨c,-⟩:=b;change _=_ at c;have cc:=bcl d (by omega) I;simp only[fA,c]at hK ⊢;go_wp2;exact hK _ _ lrR rfl
   ·refine mSl rfl λx W d b Q hK _=>?_;obtain⟨c,-⟩:=b;change _=_ at c;simp only[fA,c]at hK ⊢;go_wp2_with (fail);go_at_call 110;refine(qFi L L2 (rnum r) _ W (k.out.le d) ((ar.out.le m.out).le d) (by omega)).mono ?_;rintro e w' ⟨v',rfl,Z,D⟩;obtain⟨E,F,rfl⟩:=D.slice;go_wp2;exact hK _ _ Z D
   ·refine mSl rfl λx W d b Q hK _=>?_;obtain⟨c,f,-⟩:=b;change _=_ at c;replace f:NumU L W (x 4) (rnum r):=f;obtain⟨E,F,p⟩:=f.slice;rw[p]at f;simp only[fA,c,p]at hK ⊢;go_wp2;exact hK _ _ lrR ⟨_,_,rfl,f⟩
   ·refine mSl rfl λx W d b Q hK _=>?_;simp only[fA]at hK ⊢;go_wp2;exact hK _ _ lrR rfl
   ·refine mSl rfl λx W d b Q hK _=>?_;obtain⟨c,-⟩:=b;change _=_ at c;have cc:=bcl d (by omega) J;simp only[fA,c]at hK ⊢;go_wp2;exact hK _ _ lrR rfl
   ·refine mSl rfl λx W d b Q hK _=>?_;obtain⟨c,-⟩:=b;change _=_ at c;simp only[fA,c]at hK ⊢;go_wp2_with (fail);go_at_call 110;refine(qFi L L2 (r.den) _ W (k.out.le d) ((ap.out.le m.out).le d) (by omega)).mono ?_;rintro e w' ⟨v',rfl,Z,D⟩;obtain⟨E,F,rfl⟩:=D.slice;go_wp2;exact hK _ _ Z D
   ·refine mSl rfl λx W d b Q hK _=>?_;obtain⟨f,-⟩:=b;replace f:NumU L W (x 8) r.den:=f;obtain⟨E,F,p⟩:=f.slice;rw[p]at f;simp only[fA,p]at hK ⊢;go_wp2;exact hK _ _ lrR ⟨_,_,rfl,f⟩
   ·refine mSl rfl λx W d b Q hK _=>?_;obtain⟨c,f,-⟩:=b;obtain⟨A8,c8,T,y8⟩:=c;obtain⟨E,F,p,y9⟩:=f;replace T:x 5=_:=T;replace p:x 9=_:=p;simp only[fA,T,p]at hK ⊢;go_wp2;exact hK _ _ lrR ⟨_,_,_,_,by rw[n.out],y8,y9⟩
  ·intro x W d b Q' X _;have c:=b 0 (by decide);have f:=b 1 (by decide);have N:=b 2 (by decide);have O:=b 3 (by decide);have P:=b 6 (by decide);have S:=b 7 (by decide);have M:FracL L W (x 10) r:=b 10 (by decide);change _=_ at c f N O P S;obtain⟨A1,c1,A2,c2,o,y3,y4⟩:=M;rw[n.out]at o;have g:=(Below.block d (w.heap.size+1) (by omega)).trans V.out;obtain⟨z0,z1,z2,z3⟩:=qBI g;simp only[List.drop_succ_cons,List.drop_zero];rw[show List.range 11=[0,1,2,3,4,5,6,7,8,9,10]from rfl];simp only[fA,c,f,N,O,P,S,o];generalize x 4=x4;generalize x 5=x5;generalize x 8=x8;generalize x 9=x9;clear c f N O P S b;have t:=λu0 u1 u2 u3=>qJb (u0:=u0) (u1:=u1) (u2:=u2) (u3:=u3) (Le.trans m.out d) (show w.heap.size<=w.heap.size+1 by omega);have B:=λu0 u1 u2 u3=>qBI (qHH (u0:=u0) (u1:=u1) (u2:=u2) (u3:=u3) g);have j:=λi=>World.frozen4 g i;have s:=λu0 u1 u2 u3=>And.intro (NumU.box4 (u0:=u0) (u1:=u1) (u2:=u2) (u3:=u3) y3 g) (NumU.box4 (u0:=u0) (u1:=u1) (u2:=u2) (u3:=u3) y4 g);have g0:=j 0;have g1:=j 1;have g2:=j 2;have g3:=j 3;have⟨z,C,l,am,a3,a4,al,az⟩:=hyd8 t B s g y3 y4 o d;have aq:=hyd1 j;clear j d o y4 y3 g s B t;go_wp2;refine X _ _ ?_;go_wp2;obtain⟨d0,d1,d2,d3⟩:=C.out (.bool A) (.slice A1 (dg (rnum r)).length c1) (.bool false) (.slice A2 (dg r.den).length c2)
   refine bodyPost_ret (v:= .agg #[.bool A,.slice A1 (dg (rnum r)).length c1,.bool false,.slice A2 (dg r.den).length c2]) (by simp[results,Tryz.results55,go_sem,d0,d1,d2,d3]) rfl ⟨_,rfl,z.out _ _ _ _,?_⟩;exact⟨_,_,_,_,by rw[n.out],(l.out _ _ _ _).1,(l.out _ _ _ _).2⟩
theorem qKM (L:Nat->Prop) (r:Rat) (v:Value) (w:World) (h:RatL L .u32 w v r) (hbig:¬Rsz r 40):
  Calls Tryz.prog 55 #[v] w λe w'=>e= .panicked [{v:= .iface 223 (.agg #[.int .i64 12]),recovered:=false}]/\Le w w':=by
 obtain⟨y,A,x,z,rfl,m,l⟩:=h.form
 have c:40<(dg (rnum r)).length ∨40<(dg r.den).length :=by
  unfold Rsz at hbig;omega
 obtain⟨o,b⟩:∃o,rneg r=o:=⟨_,rfl⟩;rw[b];have⟨B,t,q,n,f⟩:=hyd5 h m l b hbig;clear hbig b l m h;go_enter Tryz.func55,Tryz.ntmps55
 by_cases s:(dg (rnum r)).length <(dg r.den).length
 ·have k:((dg (rnum r)).length :Int)<((dg r.den).length :Int):=by omega
  have g:¬((dg r.den).length :Int)<=40:=by omega
  have i:40<((dg r.den).length :Int):=by omega
  have j:¬(dg r.den).length <=40:=by omega
  have d:=hyd1 c;clear c;go_wp2_with (fail);go_at_call 84;refine(qBG _ _).mono ?_;rintro e p ⟨rfl,rfl⟩;go_wp2_with (fail);exact⟨rfl,rfl,(qAB _ _).trans (qAB _ _)⟩
 ·have k:¬((dg (rnum r)).length :Int)<((dg r.den).length :Int):=by omega
  have g:¬((dg (rnum r)).length :Int)<=40:=by omega
  have i:40<((dg (rnum r)).length :Int):=by omega
  have j:¬(dg (rnum r)).length <=40:=by omega
  have d:=hyd1 c;clear c;go_wp2_with (fail);go_at_call 84;refine(qBG _ _).mono ?_;rintro e p ⟨rfl,rfl⟩;go_wp2_with (fail);exact⟨rfl,rfl,(qAB _ _).trans (qAB _ _)⟩
end Go.Proofs.YtabfaobakmjiaaaGreat

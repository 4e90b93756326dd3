/- Whole polynomials: what left and shared compute, how long it is. -/
import Derived.Test.YtenjpccpldajoaaGreatDoorPk27
namespace Go.Proofs.YtenjpccpldajoaaGreatDoor
set_option maxRecDepth 100000
open Go.RowKit Go.Shelf
set_option linter.unusedVariables false
set_option linter.unusedSimpArgs false
def TopI (l:List Int):Prop:=l.length≠0→l.getD (l.length - 1) 0≠0
def qAo (S T:Int) (fr:Nat) (a b:List Int):Nat→List Int
 | 0=>a.map (fun c=>S*c)
 | k+1=>(qAo S T fr a b k).set (fr+k) ((qAo S T fr a b k).getD (fr+k) 0 - T*b.getD k 0)
def qAD (l:List Int):Int:=l.getD (l.length - 1) 0
def topT (a b:List Int):Int:=if qAD b<0 then - qAD a else qAD a
def sizS (b:List Int):Int:=((qAD b).natAbs :Int)
def qDe (a b:List Int):List Int:=qAo (sizS b) (topT a b) (a.length - b.length) a b b.length
def qBs (a b:List Int):List Int:=qA3 (qDe a b)
def qB3 (b:List Int):Nat→List Int→List Int
 | 0,a=>a
 | n+1,a=>if b.length≤a.length then qB3 b n (qBs a b)else a
def qAY (a b:List Int):List Int:=qB3 b a.length a
theorem qCe (S T:Int) (fr:Nat) (a b:List Int):∀k,(qAo S T fr a b k).length =a.length
 | 0=>by unfold qAo;rw[List.length_map]
 | k+1=>by unfold qAo;rw[List.length_set];exact qCe S T fr a b k
theorem qEM {l:List Int} {i j:Nat} {x:Int} (h:i≠j):(l.set i x).getD j 0=l.getD j 0:=by
 rw[List.getD_eq_getElem?_getD,List.getD_eq_getElem?_getD,List.getElem?_set_ne h]
theorem qJi {l:List Int} {i:Nat} {x:Int} (h:i<l.length):(l.set i x).getD i 0=x:=by
 rw[List.getD_eq_getElem?_getD,List.getElem?_set_self h];rfl
theorem qJG {S:Int} {a:List Int} (j:Nat):(a.map (fun c=>S*c)).getD j 0=S*a.getD j 0:=by
 rw[List.getD_eq_getElem?_getD,List.getD_eq_getElem?_getD,List.getElem?_map]
 cases a[j]? with
 | none=>simp
 | some x=>rfl
theorem qEN (S T:Int) (fr:Nat) (a b:List Int):∀k j,fr+k≤j→(qAo S T fr a b k).getD j 0=S*a.getD j 0
 | 0,j,_=>qJG j
 | k+1,j,h=>by
  unfold qAo;rw[qEM (by omega)];exact qEN S T fr a b k j (by omega)
theorem qEh (S T:Int) (fr:Nat) (a b:List Int):∀k j,j<k→fr+k≤a.length→(qAo S T fr a b k).getD (fr+j) 0=S*a.getD (fr+j) 0 - T*b.getD j 0
 | k+1,j,h,hl=>by
  unfold qAo
  by_cases e:j=k
  ·subst e;rw[qJi (by rw[qCe];omega),qEN S T fr a b j (fr+j) (Nat.le_refl _)]
  ·rw[qEM (by omega)];exact qEh S T fr a b k j (by omega) (by omega)
theorem qMo {l:List Int}:∀{n},n≠0→l.getD (n - 1) 0=0→qBW l n<n
 | n+1,_,h=>by
  have:=qDu l n;unfold qBW;rw[if_pos (by simpa using h)];omega
theorem qFV (l:List Int):(qA3 l).length =qBW l l.length:=by
 unfold qA3;rw[List.length_map,qHz]
theorem qJH (a b:List Int):topT a b*qAD b=sizS b*qAD a:=by
 unfold topT sizS
 split
 ·rename_i h;rw[show((qAD b).natAbs :Int)= - qAD b by omega,Int.neg_mul,Int.neg_mul,Int.mul_comm]
 ·rename_i h;rw[show((qAD b).natAbs :Int)=qAD b by omega,Int.mul_comm]
theorem qEH {a b:List Int} (hb:b.length≠0) (hab:b.length≤a.length):(qBs a b).length <a.length:=by
 have h1:(qDe a b).length =a.length:=qCe _ _ _ _ _ _;unfold qBs;rw[qFV,h1];refine qMo (by omega) ?_;have h2:=qEh (sizS b) (topT a b) (a.length - b.length) a b b.length (b.length - 1) (by omega) (by omega);rw[show a.length - b.length+(b.length - 1)=a.length - 1 by omega]at h2;unfold qDe;rw[h2];have:=qJH a b;unfold qAD at this;omega
theorem qAh (l:List Int):TopI (qA3 l):=fun h=>by
 have h1:(qA3 l).length =(qAE l).length :=by unfold qA3;rw[List.length_map]
 rw[h1]at h ⊢;have h2:=qGu h;have hi:(qAE l).length - 1<(qAE l).length :=by omega
 unfold qA3;rw[List.getD_eq_getElem?_getD,List.getElem?_map,List.getElem?_eq_getElem hi];rw[List.getD_eq_getElem?_getD,List.getElem?_eq_getElem hi]at h2;change (qAE l)[(qAE l).length - 1]≠0 at h2;show(qAE l)[(qAE l).length - 1].tdiv _≠0;have hm:(qAE l)[(qAE l).length - 1]∈qAE l:=List.getElem_mem hi;generalize (qAE l)[(qAE l).length - 1]=x at h2 hm;have hg:=qDk hm;obtain⟨q,hq⟩:=qEf hm;intro h0;have h3:x.natAbs / gcdI (qAE l)=0:=by rw[←qGR,h0];rfl
 rw[hq,Nat.mul_div_cancel_left _ (by omega)]at h3;subst h3;omega
theorem qEi {l:List Int} {M:Nat} (h:∀x∈l,Isz x M):∀x∈qA3 l,Isz x M:=by
 intro x hx;unfold qA3 at hx;rw[List.mem_map]at hx;obtain⟨y,hy,rfl⟩:=hx;unfold Isz;rw[qGR];exact Nat.le_trans (qDZ _ _) (h y (qFT hy))
theorem qDJ {l:List Int} {M:Nat} (h:∀x∈l,Isz x M) (j:Nat):Isz (l.getD j 0) M:=by
 rw[List.getD_eq_getElem?_getD]
 by_cases hj:j<l.length
 ·rw[List.getElem?_eq_getElem hj];exact h _ (List.getElem_mem hj)
 ·rw[List.getElem?_eq_none (by omega)];show(dg 0).length ≤M;rw[qA9];exact Nat.zero_le _
theorem qFg {a b:List Int} {M:Nat} (h:∀x∈a,Isz x M):Isz (topT a b) M:=by
 have:=qDJ h (a.length - 1);unfold topT
 split
 ·unfold Isz at*;rw[Int.natAbs_neg];exact this
 ·exact this
theorem qKH {b:List Int} {M:Nat} (h:∀x∈b,Isz x M):Isz (sizS b) M:=by
 have:=qDJ h (b.length - 1);unfold sizS Isz at*;rw[Int.natAbs_natCast];exact this
theorem qMp {l:List Int} {x:Int} (h:x∈l):∃j,j<l.length∧l.getD j 0=x:=by
 obtain⟨j,hj,rfl⟩:=List.getElem_of_mem h;exact⟨j,hj,by rw[List.getD_eq_getElem?_getD,List.getElem?_eq_getElem hj];rfl⟩
theorem qEj {a b:List Int} {S T:Int} {M N fr:Nat} (ha:∀x∈a,Isz x M) (hb:∀x∈b,Isz x N) (hS:Isz S N) (hT:Isz T M):∀k,fr+k≤a.length→∀x∈qAo S T fr a b k,Isz x (M+N+1)
 | 0,_,x,hx=>by
  unfold qAo at hx;rw[List.mem_map]at hx;obtain⟨y,hy,rfl⟩:=hx;exact(qBZ hS (ha y hy)).up (by omega)
 | k+1,hk,x,hx=>by
  unfold qAo at hx
  rcases List.mem_or_eq_of_mem_set hx with h1|h1
  ·exact qEj ha hb hS hT k (by omega) x h1
  ·rw[h1,qEN S T fr a b k (fr+k) (Nat.le_refl _)];exact(qKF (qBZ hS (qDJ ha _)) (qBZ hT (qDJ hb _))).up (by omega)
theorem qJI {a b:List Int} {M N:Nat} (ha:∀x∈a,Isz x M) (hb:∀x∈b,Isz x N) (hab:b.length≤a.length):∀x∈qBs a b,Isz x (M+N+1):=
 qEi (qEj ha hb (qKH hb) (qFg ha) b.length (by omega))
theorem qGU {b:List Int} {N:Nat} (hb:∀x∈b,Isz x N) (hb0:b.length≠0):∀(n:Nat) (a:List Int) (M:Nat),(∀x∈a,Isz x M)→∀x∈qB3 b n a,Isz x (M+(a.length+1 - b.length)*(N+1))
 | 0,a,M,ha,x,hx=>(ha x hx).up (by omega)
 | n+1,a,M,ha,x,hx=>by
  unfold qB3 at hx
  split at hx
  ·rename_i hab;have ih:=qGU hb hb0 n (qBs a b) (M+N+1) (qJI ha hb hab) x hx;have hl:=qEH hb0 hab;refine ih.up ?_;obtain⟨d,hd⟩:∃d,a.length+1 - b.length=d+1:=⟨a.length - b.length,by omega⟩;have h2:(qBs a b).length +1 - b.length≤d:=by omega
   have h3:=Nat.mul_le_mul_right (N+1) h2;rw[hd,Nat.add_mul];omega
  ·exact(ha x hx).up (by omega)
theorem qIB {b:List Int}:∀(n:Nat) (a:List Int),TopI a→TopI (qB3 b n a)
 | 0,a,h=>h
 | n+1,a,h=>by
  unfold qB3
  split
  ·exact qIB n _ (qAh _)
  ·exact h
theorem qJJ {b:List Int} (hb0:b.length≠0):∀(n:Nat) (a:List Int),a.length≤n→(qB3 b n a).length <b.length
 | 0,a,h=>by unfold qB3;omega
 | n+1,a,h=>by
  unfold qB3
  split
  ·rename_i hab;have:=qEH hb0 hab;exact qJJ hb0 n _ (by omega)
  ·omega
theorem qB8 {a b:List Int} (hb0:b.length≠0):(qAY a b).length <b.length:=qJJ hb0 _ _ (Nat.le_refl _)
theorem qCK {a b:List Int} (h:TopI a):TopI (qAY a b):=qIB _ _ h
def qAn:Nat→List Int→List Int→List Int
 | 0,a,_=>a
 | n+1,a,b=>if b.length=0 then a else qAn n b (qAY a b)
def qAk (a b:List Int):List Int:=qAn b.length a b
def Room (a b:List Int) (M:Nat):Nat:=(max a.length b.length - min a.length b.length+2)*(3^min a.length b.length*(M+2))
theorem qJK:∀d,1≤d→d+2≤3^d
 | 1,_=>by decide
 | d+2,_=>by
  have:=qJK (d+1) (by omega);rw[Nat.pow_succ];omega
theorem qIC {a b:List Int} {M:Nat} (hb0:b.length≠0) (ha:∀x∈a,Isz x M) (hb:∀x∈b,Isz x M):∃N,(∀x∈b,Isz x N)∧(∀x∈qAY a b,Isz x N)∧Room b (qAY a b) N≤Room a b M:=by
 by_cases hab:b.length≤a.length
 ·refine⟨M+(a.length+1 - b.length)*(M+1),fun x hx=>(hb x hx).up (by omega),qGU hb hb0 _ _ _ ha,?_⟩;have hr:=qB8 (a:=a) hb0;generalize hr9:(qAY a b).length =r at hr;generalize ha9:a.length=p at hab ⊢;unfold Room;rw[hr9,ha9];generalize b.length=q at hb0 hab hr ⊢;rw[show max q r=q by omega,show min q r=r by omega,show max p q=p by omega,show min p q=q by omega];have h1:=qJK (q - r) (by omega)
  have h2:M+(p+1 - q)*(M+1)+2≤(p - q+2)*(M+2):=by
   rw[show p+1 - q=p - q+1 by omega];generalize p - q=d;simp only[Nat.add_mul,Nat.mul_add];omega
  calc (q - r+2)*(3^r*(M+(p+1 - q)*(M+1)+2))≤3^(q - r)*(3^r*((p - q+2)*(M+2))):=Nat.mul_le_mul h1 (Nat.mul_le_mul_left _ h2)
   _=(3^(q - r)*3^r)*((p - q+2)*(M+2)):=by rw[Nat.mul_assoc]
   _=3^q*((p - q+2)*(M+2)):=by rw[←Nat.pow_add,show q - r+r=q by omega]
   _=(p - q+2)*(3^q*(M+2)):=by rw[Nat.mul_left_comm]
 ·have e:qAY a b=a:=by
   unfold qAY
   cases hn:a.length with
   | zero=>rfl
   | succ n=>unfold qB3;rw[if_neg hab]
  refine⟨M,hb,by rw[e];exact ha,?_⟩;rw[e];unfold Room;rw[Nat.max_comm,Nat.min_comm];exact Nat.le_refl _
theorem qLu {a b:List Int} {M:Nat} (hab:b.length≤a.length):M+(a.length+1 - b.length)*(M+1)≤Room a b M:=by
 unfold Room;generalize a.length=p at hab ⊢;generalize b.length=q at hab ⊢;rw[show max p q=p by omega,show min p q=q by omega,show p+1 - q=p - q+1 by omega];generalize p - q=d;have h1:1≤3^q:=Nat.pow_pos (by decide);have h2:M+2≤3^q*(M+2):=Nat.le_mul_of_pos_left _ h1;refine Nat.le_trans ?_ (Nat.mul_le_mul_left _ h2);simp only[Nat.add_mul,Nat.mul_add];omega
end Go.Proofs.YtenjpccpldajoaaGreatDoor

/- Whole polynomials: what left and shared compute, how long it is. -/
import Derived.Test.YtenjpccpldajoaaGreatDoorPk27
namespace Go.Proofs.YtenjpccpldajoaaGreatDoor
set_option maxRecDepth 100000
open Go.RowKit Go.Shelf
set_option linter.unusedVariables false
set_option linter.unusedSimpArgs false
def TopI (l:List Int):Prop:=l.length≠0→l.getD (l.length - 1) 0≠0
def qAw (S T:Int) (fr:Nat) (a b:List Int):Nat→List Int
 | 0=>a.map (fun c=>S*c)
 | k+1=>(qAw S T fr a b k).set (fr+k) ((qAw S T fr a b k).getD (fr+k) 0 - T*b.getD k 0)
def qAH (l:List Int):Int:=l.getD (l.length - 1) 0
def topT (a b:List Int):Int:=if qAH b<0 then - qAH a else qAH a
def sizS (b:List Int):Int:=((qAH b).natAbs :Int)
def qEK (a b:List Int):List Int:=qAw (sizS b) (topT a b) (a.length - b.length) a b b.length
def qCR (a b:List Int):List Int:=qA7 (qEK a b)
def qBr (b:List Int):Nat→List Int→List Int
 | 0,a=>a
 | n+1,a=>if b.length≤a.length then qBr b n (qCR a b)else a
def qA3 (a b:List Int):List Int:=qBr b a.length a
theorem qDL (S T:Int) (fr:Nat) (a b:List Int):∀k,(qAw S T fr a b k).length =a.length
 | 0=>by unfold qAw;rw[List.length_map]
 | k+1=>by unfold qAw;rw[List.length_set];exact qDL S T fr a b k
theorem qEn {l:List Int} {i j:Nat} {x:Int} (h:i≠j):(l.set i x).getD j 0=l.getD j 0:=by
 rw[List.getD_eq_getElem?_getD,List.getD_eq_getElem?_getD,List.getElem?_set_ne h]
theorem qKW {l:List Int} {i:Nat} {x:Int} (h:i<l.length):(l.set i x).getD i 0=x:=by
 rw[List.getD_eq_getElem?_getD,List.getElem?_set_self h];rfl
theorem qJe {S:Int} {a:List Int} (j:Nat):(a.map (fun c=>S*c)).getD j 0=S*a.getD j 0:=by
 rw[List.getD_eq_getElem?_getD,List.getD_eq_getElem?_getD,List.getElem?_map]
 cases a[j]? with
 | none=>simp
 | some x=>rfl
theorem qEo (S T:Int) (fr:Nat) (a b:List Int):∀k j,fr+k≤j→(qAw S T fr a b k).getD j 0=S*a.getD j 0
 | 0,j,_=>qJe j
 | k+1,j,h=>by
  unfold qAw;rw[qEn (by omega)];exact qEo S T fr a b k j (by omega)
theorem qFO (S T:Int) (fr:Nat) (a b:List Int):∀k j,j<k→fr+k≤a.length→(qAw S T fr a b k).getD (fr+j) 0=S*a.getD (fr+j) 0 - T*b.getD j 0
 | k+1,j,h,hl=>by
  unfold qAw
  by_cases e:j=k
  ·subst e;rw[qKW (by rw[qDL];omega),qEo S T fr a b j (fr+j) (Nat.le_refl _)]
  ·rw[qEn (by omega)];exact qFO S T fr a b k j (by omega) (by omega)
theorem qNr {l:List Int}:∀{n},n≠0→l.getD (n - 1) 0=0→qBk l n<n
 | n+1,_,h=>by
  have:=qE2 l n;unfold qBk;rw[if_pos (by simpa using h)];omega
theorem qFo (l:List Int):(qA7 l).length =qBk l l.length:=by
 unfold qA7;rw[List.length_map,qI6]
theorem qJf (a b:List Int):topT a b*qAH b=sizS b*qAH a:=by
 unfold topT sizS
 split
 ·rename_i h;rw[show((qAH b).natAbs :Int)= - qAH b by omega,Int.neg_mul,Int.neg_mul,Int.mul_comm]
 ·rename_i h;rw[show((qAH b).natAbs :Int)=qAH b by omega,Int.mul_comm]
theorem qEg {a b:List Int} (hb:b.length≠0) (hab:b.length≤a.length):(qCR a b).length <a.length:=by
 have h1:(qEK a b).length =a.length:=qDL _ _ _ _ _ _;unfold qCR;rw[qFo,h1];refine qNr (by omega) ?_;have h2:=qFO (sizS b) (topT a b) (a.length - b.length) a b b.length (b.length - 1) (by omega) (by omega);rw[show a.length - b.length+(b.length - 1)=a.length - 1 by omega]at h2;unfold qEK;rw[h2];have:=qJf a b;unfold qAH at this;omega
theorem qAn (l:List Int):TopI (qA7 l):=fun h=>by
 have h1:(qA7 l).length =(qAI l).length :=by unfold qA7;rw[List.length_map]
 rw[h1]at h ⊢;have h2:=qH8 h;have hi:(qAI l).length - 1<(qAI l).length :=by omega
 unfold qA7;rw[List.getD_eq_getElem?_getD,List.getElem?_map,List.getElem?_eq_getElem hi];rw[List.getD_eq_getElem?_getD,List.getElem?_eq_getElem hi]at h2;change (qAI l)[(qAI l).length - 1]≠0 at h2;show(qAI l)[(qAI l).length - 1].tdiv _≠0;have hm:(qAI l)[(qAI l).length - 1]∈qAI l:=List.getElem_mem hi;generalize (qAI l)[(qAI l).length - 1]=x at h2 hm;have hg:=qEO hm;obtain⟨q,hq⟩:=qFM hm;intro h0;have h3:x.natAbs / gcdI (qAI l)=0:=by rw[←qGs,h0];rfl
 rw[hq,Nat.mul_div_cancel_left _ (by omega)]at h3;subst h3;omega
theorem qFP {l:List Int} {M:Nat} (h:∀x∈l,Isz x M):∀x∈qA7 l,Isz x M:=by
 intro x hx;unfold qA7 at hx;rw[List.mem_map]at hx;obtain⟨y,hy,rfl⟩:=hx;unfold Isz;rw[qGs];exact Nat.le_trans (qDz _ _) (h y (qFm hy))
theorem qDg {l:List Int} {M:Nat} (h:∀x∈l,Isz x M) (j:Nat):Isz (l.getD j 0) M:=by
 rw[List.getD_eq_getElem?_getD]
 by_cases hj:j<l.length
 ·rw[List.getElem?_eq_getElem hj];exact h _ (List.getElem_mem hj)
 ·rw[List.getElem?_eq_none (by omega)];show(dg 0).length ≤M;rw[qA4];exact Nat.zero_le _
theorem qGM {a b:List Int} {M:Nat} (h:∀x∈a,Isz x M):Isz (topT a b) M:=by
 have:=qDg h (a.length - 1);unfold topT
 split
 ·unfold Isz at*;rw[Int.natAbs_neg];exact this
 ·exact this
theorem qKn {b:List Int} {M:Nat} (h:∀x∈b,Isz x M):Isz (sizS b) M:=by
 have:=qDg h (b.length - 1);unfold sizS Isz at*;rw[Int.natAbs_natCast];exact this
theorem qNs {l:List Int} {x:Int} (h:x∈l):∃j,j<l.length∧l.getD j 0=x:=by
 obtain⟨j,hj,rfl⟩:=List.getElem_of_mem h;exact⟨j,hj,by rw[List.getD_eq_getElem?_getD,List.getElem?_eq_getElem hj];rfl⟩
theorem qFQ {a b:List Int} {S T:Int} {M N fr:Nat} (ha:∀x∈a,Isz x M) (hb:∀x∈b,Isz x N) (hS:Isz S N) (hT:Isz T M):∀k,fr+k≤a.length→∀x∈qAw S T fr a b k,Isz x (M+N+1)
 | 0,_,x,hx=>by
  unfold qAw at hx;rw[List.mem_map]at hx;obtain⟨y,hy,rfl⟩:=hx;exact(qBn hS (ha y hy)).up (by omega)
 | k+1,hk,x,hx=>by
  unfold qAw at hx
  rcases List.mem_or_eq_of_mem_set hx with h1|h1
  ·exact qFQ ha hb hS hT k (by omega) x h1
  ·rw[h1,qEo S T fr a b k (fr+k) (Nat.le_refl _)];exact(qKl (qBn hS (qDg ha _)) (qBn hT (qDg hb _))).up (by omega)
theorem qJg {a b:List Int} {M N:Nat} (ha:∀x∈a,Isz x M) (hb:∀x∈b,Isz x N) (hab:b.length≤a.length):∀x∈qCR a b,Isz x (M+N+1):=
 qFP (qFQ ha hb (qKn hb) (qGM ha) b.length (by omega))
theorem qGv {b:List Int} {N:Nat} (hb:∀x∈b,Isz x N) (hb0:b.length≠0):∀(n:Nat) (a:List Int) (M:Nat),(∀x∈a,Isz x M)→∀x∈qBr b n a,Isz x (M+(a.length+1 - b.length)*(N+1))
 | 0,a,M,ha,x,hx=>(ha x hx).up (by omega)
 | n+1,a,M,ha,x,hx=>by
  unfold qBr at hx
  split at hx
  ·rename_i hab;have ih:=qGv hb hb0 n (qCR a b) (M+N+1) (qJg ha hb hab) x hx;have hl:=qEg hb0 hab;refine ih.up ?_;obtain⟨d,hd⟩:∃d,a.length+1 - b.length=d+1:=⟨a.length - b.length,by omega⟩;have h2:(qCR a b).length +1 - b.length≤d:=by omega
   have h3:=Nat.mul_le_mul_right (N+1) h2;rw[hd,Nat.add_mul];omega
  ·exact(ha x hx).up (by omega)
theorem qI8 {b:List Int}:∀(n:Nat) (a:List Int),TopI a→TopI (qBr b n a)
 | 0,a,h=>h
 | n+1,a,h=>by
  unfold qBr
  split
  ·exact qI8 n _ (qAn _)
  ·exact h
theorem qJh {b:List Int} (hb0:b.length≠0):∀(n:Nat) (a:List Int),a.length≤n→(qBr b n a).length <b.length
 | 0,a,h=>by unfold qBr;omega
 | n+1,a,h=>by
  unfold qBr
  split
  ·rename_i hab;have:=qEg hb0 hab;exact qJh hb0 n _ (by omega)
  ·omega
theorem qCA {a b:List Int} (hb0:b.length≠0):(qA3 a b).length <b.length:=qJh hb0 _ _ (Nat.le_refl _)
theorem qCe {a b:List Int} (h:TopI a):TopI (qA3 a b):=qI8 _ _ h
def qAv:Nat→List Int→List Int→List Int
 | 0,a,_=>a
 | n+1,a,b=>if b.length=0 then a else qAv n b (qA3 a b)
def qAt (a b:List Int):List Int:=qAv b.length a b
def Room (a b:List Int) (M:Nat):Nat:=(max a.length b.length - min a.length b.length+2)*(3^min a.length b.length*(M+2))
theorem qJi:∀d,1≤d→d+2≤3^d
 | 1,_=>by decide
 | d+2,_=>by
  have:=qJi (d+1) (by omega);rw[Nat.pow_succ];omega
theorem qI9 {a b:List Int} {M:Nat} (hb0:b.length≠0) (ha:∀x∈a,Isz x M) (hb:∀x∈b,Isz x M):∃N,(∀x∈b,Isz x N)∧(∀x∈qA3 a b,Isz x N)∧Room b (qA3 a b) N≤Room a b M:=by
 by_cases hab:b.length≤a.length
 ·refine⟨M+(a.length+1 - b.length)*(M+1),fun x hx=>(hb x hx).up (by omega),qGv hb hb0 _ _ _ ha,?_⟩;have hr:=qCA (a:=a) hb0;generalize hr9:(qA3 a b).length =r at hr;generalize ha9:a.length=p at hab ⊢;unfold Room;rw[hr9,ha9];generalize b.length=q at hb0 hab hr ⊢;rw[show max q r=q by omega,show min q r=r by omega,show max p q=p by omega,show min p q=q by omega];have h1:=qJi (q - r) (by omega)
  have h2:M+(p+1 - q)*(M+1)+2≤(p - q+2)*(M+2):=by
   rw[show p+1 - q=p - q+1 by omega];generalize p - q=d;simp only[Nat.add_mul,Nat.mul_add];omega
  calc (q - r+2)*(3^r*(M+(p+1 - q)*(M+1)+2))≤3^(q - r)*(3^r*((p - q+2)*(M+2))):=Nat.mul_le_mul h1 (Nat.mul_le_mul_left _ h2)
   _=(3^(q - r)*3^r)*((p - q+2)*(M+2)):=by rw[Nat.mul_assoc]
   _=3^q*((p - q+2)*(M+2)):=by rw[←Nat.pow_add,show q - r+r=q by omega]
   _=(p - q+2)*(3^q*(M+2)):=by rw[Nat.mul_left_comm]
 ·have e:qA3 a b=a:=by
   unfold qA3
   cases hn:a.length with
   | zero=>rfl
   | succ n=>unfold qBr;rw[if_neg hab]
  refine⟨M,hb,by rw[e];exact ha,?_⟩;rw[e];unfold Room;rw[Nat.max_comm,Nat.min_comm];exact Nat.le_refl _
theorem qMp {a b:List Int} {M:Nat} (hab:b.length≤a.length):M+(a.length+1 - b.length)*(M+1)≤Room a b M:=by
 unfold Room;generalize a.length=p at hab ⊢;generalize b.length=q at hab ⊢;rw[show max p q=p by omega,show min p q=q by omega,show p+1 - q=p - q+1 by omega];generalize p - q=d;have h1:1≤3^q:=Nat.pow_pos (by decide);have h2:M+2≤3^q*(M+2):=Nat.le_mul_of_pos_left _ h1;refine Nat.le_trans ?_ (Nat.mul_le_mul_left _ h2);simp only[Nat.add_mul,Nat.mul_add];omega
end Go.Proofs.YtenjpccpldajoaaGreatDoor

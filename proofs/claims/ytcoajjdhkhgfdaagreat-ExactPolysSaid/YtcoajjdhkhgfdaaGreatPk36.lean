/- Whole polynomials: what left and shared compute, how long it is. -/
import Derived.Test.YtcoajjdhkhgfdaaGreatPk35
namespace Go.Proofs.YtcoajjdhkhgfdaaGreat
set_option maxRecDepth 100000
open Go.RowKit Go.Shelf
set_option linter.unusedVariables false
set_option linter.unusedSimpArgs false
def TopI (l:List Int):Prop:=l.length≠0->l.getD (l.length - 1) 0≠0
def qAl (S T:Int) (fr:Nat) (a b:List Int):Nat->List Int
 | 0=>a.map (λc=>S*c)
 | k+1=>(qAl S T fr a b k).set (fr+k) ((qAl S T fr a b k).getD (fr+k) 0 - T*b.getD k 0)
def qAH (l:List Int):Int:=l.getD (l.length - 1) 0
def topT (a b:List Int):Int:=if qAH b<0 then - qAH a else qAH a
def sizS (b:List Int):Int:=((qAH b).natAbs :Int)
def qDQ (a b:List Int):List Int:=qAl (sizS b) (topT a b) (a.length - b.length) a b b.length
def qBp (a b:List Int):List Int:=qAp (qDQ a b)
def qB3 (b:List Int):Nat->List Int->List Int
 | 0,a=>a
 | n+1,a=>if b.length<=a.length then qB3 b n (qBp a b)else a
def qAt (a b:List Int):List Int:=qB3 b a.length a
theorem qC6 (S T:Int) (fr:Nat) (a b:List Int):∀k,(qAl S T fr a b k).length =a.length
 | 0=>by unfold qAl;rw[List.length_map]
 | k+1=>by unfold qAl;rw[List.length_set];exact qC6 S T fr a b k
theorem qDr {l:List Int} {i j:Nat} {x:Int} (h:i≠j):(l.set i x).getD j 0=l.getD j 0:=by
 rw[List.getD_eq_getElem?_getD,List.getD_eq_getElem?_getD,List.getElem?_set_ne h]
theorem qId {l:List Int} {i:Nat} {x:Int} (h:i<l.length):(l.set i x).getD i 0=x:=by
 rw[List.getD_eq_getElem?_getD,List.getElem?_set_self h];rfl
theorem qIG {S:Int} {a:List Int} (j:Nat):(a.map (λc=>S*c)).getD j 0=S*a.getD j 0:=by
 rw[List.getD_eq_getElem?_getD,List.getD_eq_getElem?_getD,List.getElem?_map]
 cases a[j]? with
 | none=>simp
 | some x=>rfl
theorem qDs (S T:Int) (fr:Nat) (a b:List Int):∀k j,fr+k<=j->(qAl S T fr a b k).getD j 0=S*a.getD j 0
 | 0,j,_=>qIG j
 | k+1,j,h=>by
  unfold qAl;rw[qDr (by omega)];exact qDs S T fr a b k j (by omega)
theorem qE2 (S T:Int) (fr:Nat) (a b:List Int):∀k j,j<k->fr+k<=a.length->(qAl S T fr a b k).getD (fr+j) 0=S*a.getD (fr+j) 0 - T*b.getD j 0
 | k+1,j,h,hl=>by
  unfold qAl
  by_cases e:j=k
  ·subst e;rw[qId (by rw[qC6];omega),qDs S T fr a b j (fr+j) (Nat.le_refl _)]
  ·rw[qDr (by omega)];exact qE2 S T fr a b k j (by omega) (by omega)
theorem qKy {l:List Int}:∀{n},n≠0->l.getD (n - 1) 0=0->qBV l n<n
 | n+1,_,h=>by
  have:=qE0 l n;unfold qBV;rw[if_pos (by simpa using h)];omega
theorem qHI (l:List Int):(qAp l).length =qBV l l.length:=by
 unfold qAp;rw[List.length_map,qHG]
theorem qIH (a b:List Int):topT a b*qAH b=sizS b*qAH a:=by
 unfold topT sizS
 split
 ·rename_i h;rw[show((qAH b).natAbs :Int)= - qAH b by omega,Int.neg_mul,Int.neg_mul,Int.mul_comm]
 ·rename_i h;rw[show((qAH b).natAbs :Int)=qAH b by omega,Int.mul_comm]
theorem qDk {a b:List Int} (hb:b.length≠0) (hab:b.length<=a.length):(qBp a b).length <a.length:=by
 have d:(qDQ a b).length =a.length:=qC6 _ _ _ _ _ _;unfold qBp;rw[qHI,d];refine qKy (by omega) ?_;have c:=qE2 (sizS b) (topT a b) (a.length - b.length) a b b.length (b.length - 1) (by omega) (by omega);rw[show a.length - b.length+(b.length - 1)=a.length - 1 by omega]at c;unfold qDQ;rw[c];have:=qIH a b;unfold qAH at this;omega
theorem qAr (l:List Int):TopI (qAp l):=λh=>by
 have h1:(qAp l).length =(qAJ l).length :=by unfold qAp;rw[List.length_map]
 rw[h1]at h ⊢;have b:=qGV h;have c:(qAJ l).length - 1<(qAJ l).length :=by omega
 unfold qAp;rw[List.getD_eq_getElem?_getD,List.getElem?_map,List.getElem?_eq_getElem c];rw[List.getD_eq_getElem?_getD,List.getElem?_eq_getElem c]at b;change (qAJ l)[(qAJ l).length - 1]≠0 at b;show(qAJ l)[(qAJ l).length - 1].tdiv _≠0;have d:(qAJ l)[(qAJ l).length - 1]∈qAJ l:=List.getElem_mem c;generalize (qAJ l)[(qAJ l).length - 1]=x at b d;have i:=qFV d;obtain⟨q,hq⟩:=qE1 d;intro g;have f:x.natAbs / gcdI (qAJ l)=0:=by rw[<-qFp,g];rfl
 rw[hq,Nat.mul_div_cancel_left _ (by omega)]at f;subst f;omega
theorem qII {l:List Int} {M:Nat} (h:∀x∈l,Isz x M):∀x∈qAp l,Isz x M:=by
 intro x b;unfold qAp at b;rw[List.mem_map]at b;obtain⟨y,c,rfl⟩:=b;unfold Isz;rw[qFp];exact Nat.le_trans (qDF _ _) (h y (qFB c))
theorem qFW {l:List Int} {M:Nat} (h:∀x∈l,Isz x M) (j:Nat):Isz (l.getD j 0) M:=by
 rw[List.getD_eq_getElem?_getD]
 by_cases b:j<l.length
 ·rw[List.getElem?_eq_getElem b];exact h _ (List.getElem_mem b)
 ·rw[List.getElem?_eq_none (by omega)];show(dg 0).length <=M;rw[qA4];exact Nat.zero_le _
theorem qFX {a b:List Int} {M:Nat} (h:∀x∈a,Isz x M):Isz (topT a b) M:=by
 have:=qFW h (a.length - 1);unfold topT
 split
 ·unfold Isz at*;rw[Int.natAbs_neg];exact this
 ·exact this
theorem qIr {b:List Int} {M:Nat} (h:∀x∈b,Isz x M):Isz (sizS b) M:=by
 have:=qFW h (b.length - 1);unfold sizS Isz at*;rw[Int.natAbs_natCast];exact this
theorem qE3 {a b:List Int} {S T:Int} {M N fr:Nat} (ha:∀x∈a,Isz x M) (hb:∀x∈b,Isz x N) (hS:Isz S N) (hT:Isz T M):∀k,fr+k<=a.length->∀x∈qAl S T fr a b k,Isz x (M+N+1)
 | 0,_,x,hx=>by
  unfold qAl at hx;rw[List.mem_map]at hx;obtain⟨y,hy,rfl⟩:=hx;exact(qFU hS (ha y hy)).up (by omega)
 | k+1,hk,x,hx=>by
  unfold qAl at hx
  rcases List.mem_or_eq_of_mem_set hx with h1|h1
  ·exact qE3 ha hb hS hT k (by omega) x h1
  ·rw[h1,qDs S T fr a b k (fr+k) (Nat.le_refl _)];exact(qL9 (qFU hS (qFW ha _)) (qFU hT (qFW hb _))).up (by omega)
theorem qIJ {a b:List Int} {M N:Nat} (ha:∀x∈a,Isz x M) (hb:∀x∈b,Isz x N) (hab:b.length<=a.length):∀x∈qBp a b,Isz x (M+N+1):=
 qII (qE3 ha hb (qIr hb) (qFX ha) b.length (by omega))
theorem qIK {b:List Int} {N:Nat} (hb:∀x∈b,Isz x N) (hb0:b.length≠0):∀(n:Nat) (a:List Int) (M:Nat),(∀x∈a,Isz x M)->∀x∈qB3 b n a,Isz x (M+(a.length+1 - b.length)*(N+1))
 | 0,a,M,ha,x,hx=>(ha x hx).up (by omega)
 | n+1,a,M,ha,x,hx=>by
  unfold qB3 at hx
  split at hx
  ·rename_i hab;have ih:=qIK hb hb0 n (qBp a b) (M+N+1) (qIJ ha hb hab) x hx;have hl:=qDk hb0 hab;refine ih.up ?_;obtain⟨d,hd⟩:∃d,a.length+1 - b.length=d+1:=⟨a.length - b.length,by omega⟩;have h2:(qBp a b).length +1 - b.length<=d:=by omega
   have c:=Nat.mul_le_mul_right (N+1) h2;rw[hd,Nat.add_mul];omega
  ·exact(ha x hx).up (by omega)
theorem qHJ {b:List Int}:∀(n:Nat) (a:List Int),TopI a->TopI (qB3 b n a)
 | 0,a,h=>h
 | n+1,a,h=>by
  unfold qB3
  split
  ·exact qHJ n _ (qAr _)
  ·exact h
theorem qIL {b:List Int} (hb0:b.length≠0):∀(n:Nat) (a:List Int),a.length<=n->(qB3 b n a).length <b.length
 | 0,a,h=>by unfold qB3;omega
 | n+1,a,h=>by
  unfold qB3
  split
  ·rename_i hab;have:=qDk hb0 hab;exact qIL hb0 n _ (by omega)
  ·omega
theorem qE4 {a b:List Int} (hb0:b.length≠0):(qAt a b).length <b.length:=qIL hb0 _ _ (Nat.le_refl _)
theorem qDG {a b:List Int} (h:TopI a):TopI (qAt a b):=qHJ _ _ h
def qBJ:Nat->List Int->List Int->List Int
 | 0,a,_=>a
 | n+1,a,b=>if b.length=0 then a else qBJ n b (qAt a b)
def qCS (a b:List Int):List Int:=qBJ b.length a b
def Room (a b:List Int) (M:Nat):Nat:=(max a.length b.length - min a.length b.length+2)*(3^min a.length b.length*(M+2))
theorem qFr:∀d,1<=d->d+2<=3^d
 | 1,_=>by decide
 | d+2,_=>by
  have:=qFr (d+1) (by omega);rw[Nat.pow_succ];omega
theorem qHK {a b:List Int} {M:Nat} (hb0:b.length≠0) (ha:∀x∈a,Isz x M) (hb:∀x∈b,Isz x M):∃N,(∀x∈b,Isz x N)/\(∀x∈qAt a b,Isz x N)/\Room b (qAt a b) N<=Room a b M:=by
 by_cases c:b.length<=a.length
 ·refine⟨M+(a.length+1 - b.length)*(M+1),λx i=>(hb x i).up (by omega),qIK hb hb0 _ _ _ ha,?_⟩;have f:=qE4 (a:=a) hb0;generalize hr9:(qAt a b).length =r at f;generalize ha9:a.length=p at c ⊢;unfold Room;rw[hr9,ha9];generalize b.length=q at hb0 c f ⊢;rw[show max q r=q by omega,show min q r=r by omega,show max p q=p by omega,show min p q=q by omega];have g:=qFr (q - r) (by omega)
  have h:M+(p+1 - q)*(M+1)+2<=(p - q+2)*(M+2):=by
   rw[show p+1 - q=p - q+1 by omega];generalize p - q=d;simp only[Nat.add_mul,Nat.mul_add];omega
  calc (q - r+2)*(3^r*(M+(p+1 - q)*(M+1)+2))<=3^(q - r)*(3^r*((p - q+2)*(M+2))):=Nat.mul_le_mul g (Nat.mul_le_mul_left _ h)
   _=(3^(q - r)*3^r)*((p - q+2)*(M+2)):=by rw[Nat.mul_assoc]
   _=3^q*((p - q+2)*(M+2)):=by rw[<-Nat.pow_add,show q - r+r=q by omega]
   _=(p - q+2)*(3^q*(M+2)):=by rw[Nat.mul_left_comm]
 ·have e:qAt a b=a:=by
   unfold qAt
   cases hn:a.length with
   | zero=>rfl
   | succ n=>unfold qB3;rw[if_neg c]
  refine⟨M,hb,by rw[e];exact ha,?_⟩;rw[e];unfold Room;rw[Nat.max_comm,Nat.min_comm];exact Nat.le_refl _
theorem qKV {a b:List Int} {M:Nat} (hab:b.length<=a.length):M+(a.length+1 - b.length)*(M+1)<=Room a b M:=by
 unfold Room;generalize a.length=p at hab ⊢;generalize b.length=q at hab ⊢;rw[show max p q=p by omega,show min p q=q by omega,show p+1 - q=p - q+1 by omega];generalize p - q=d;have c:1<=3^q:=Nat.pow_pos (by decide);have f:M+2<=3^q*(M+2):=Nat.le_mul_of_pos_left _ c;refine Nat.le_trans ?_ (Nat.mul_le_mul_left _ f);simp only[Nat.add_mul,Nat.mul_add];omega
end Go.Proofs.YtcoajjdhkhgfdaaGreat

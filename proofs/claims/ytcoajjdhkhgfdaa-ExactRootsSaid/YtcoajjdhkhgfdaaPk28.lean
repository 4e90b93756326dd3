/- Whole polynomials: what left and shared compute, how long it is. -/
import Derived.Test.YtcoajjdhkhgfdaaPk27
namespace Go.Proofs.Ytcoajjdhkhgfdaa
set_option maxRecDepth 100000
open Go.RowKit Go.Shelf
set_option linter.unusedVariables false
set_option linter.unusedSimpArgs false
def TopI (l:List Int):Prop:=l.length≠0->l.getD (l.length - 1) 0≠0
def qAk (S T:Int) (fr:Nat) (a b:List Int):Nat->List Int
 | 0=>a.map (λc=>S*c)
 | k+1=>(qAk S T fr a b k).set (fr+k) ((qAk S T fr a b k).getD (fr+k) 0 - T*b.getD k 0)
def qAC (l:List Int):Int:=l.getD (l.length - 1) 0
def topT (a b:List Int):Int:=if qAC b<0 then - qAC a else qAC a
def sizS (b:List Int):Int:=((qAC b).natAbs :Int)
def qCt (a b:List Int):List Int:=qAk (sizS b) (topT a b) (a.length - b.length) a b b.length
def qBh (a b:List Int):List Int:=qA5 (qCt a b)
def qB4 (b:List Int):Nat->List Int->List Int
 | 0,a=>a
 | n+1,a=>if b.length<=a.length then qB4 b n (qBh a b)else a
def qAY (a b:List Int):List Int:=qB4 b a.length a
theorem qCg (S T:Int) (fr:Nat) (a b:List Int):∀k,(qAk S T fr a b k).length =a.length
 | 0=>by unfold qAk;rw[List.length_map]
 | k+1=>by unfold qAk;rw[List.length_set];exact qCg S T fr a b k
theorem qDx {l:List Int} {i j:Nat} {x:Int} (h:i≠j):(l.set i x).getD j 0=l.getD j 0:=by
 rw[List.getD_eq_getElem?_getD,List.getD_eq_getElem?_getD,List.getElem?_set_ne h]
theorem qId {l:List Int} {i:Nat} {x:Int} (h:i<l.length):(l.set i x).getD i 0=x:=by
 rw[List.getD_eq_getElem?_getD,List.getElem?_set_self h];rfl
theorem qIE {S:Int} {a:List Int} (j:Nat):(a.map (λc=>S*c)).getD j 0=S*a.getD j 0:=by
 rw[List.getD_eq_getElem?_getD,List.getD_eq_getElem?_getD,List.getElem?_map]
 cases a[j]? with
 | none=>simp
 | some x=>rfl
theorem qDy (S T:Int) (fr:Nat) (a b:List Int):∀k j,fr+k<=j->(qAk S T fr a b k).getD j 0=S*a.getD j 0
 | 0,j,_=>qIE j
 | k+1,j,h=>by
  unfold qAk;rw[qDx (by omega)];exact qDy S T fr a b k j (by omega)
theorem qD2 (S T:Int) (fr:Nat) (a b:List Int):∀k j,j<k->fr+k<=a.length->(qAk S T fr a b k).getD (fr+j) 0=S*a.getD (fr+j) 0 - T*b.getD j 0
 | k+1,j,h,hl=>by
  unfold qAk
  by_cases e:j=k
  ·subst e;rw[qId (by rw[qCg];omega),qDy S T fr a b j (fr+j) (Nat.le_refl _)]
  ·rw[qDx (by omega)];exact qD2 S T fr a b k j (by omega) (by omega)
theorem qLO {l:List Int}:∀{n},n≠0->l.getD (n - 1) 0=0->qB3 l n<n
 | n+1,_,h=>by
  have:=qDg l n;unfold qB3;rw[if_pos (by simpa using h)];omega
theorem qFB (l:List Int):(qA5 l).length =qB3 l l.length:=by
 unfold qA5;rw[List.length_map,qHP]
theorem qFs (a b:List Int):topT a b*qAC b=sizS b*qAC a:=by
 unfold topT sizS
 split
 ·rename_i h;rw[show((qAC b).natAbs :Int)= - qAC b by omega,Int.neg_mul,Int.neg_mul,Int.mul_comm]
 ·rename_i h;rw[show((qAC b).natAbs :Int)=qAC b by omega,Int.mul_comm]
theorem qDP {a b:List Int} (hb:b.length≠0) (hab:b.length<=a.length):(qBh a b).length <a.length:=by
 have d:(qCt a b).length =a.length:=qCg _ _ _ _ _ _;unfold qBh;rw[qFB,d];refine qLO (by omega) ?_;have c:=qD2 (sizS b) (topT a b) (a.length - b.length) a b b.length (b.length - 1) (by omega) (by omega);rw[show a.length - b.length+(b.length - 1)=a.length - 1 by omega]at c;unfold qCt;rw[c];have:=qFs a b;unfold qAC at this;omega
theorem qAc (l:List Int):TopI (qA5 l):=λh=>by
 have h1:(qA5 l).length =(qAE l).length :=by unfold qA5;rw[List.length_map]
 rw[h1]at h ⊢;have b:=qGZ h;have c:(qAE l).length - 1<(qAE l).length :=by omega
 unfold qA5;rw[List.getD_eq_getElem?_getD,List.getElem?_map,List.getElem?_eq_getElem c];rw[List.getD_eq_getElem?_getD,List.getElem?_eq_getElem c]at b;change (qAE l)[(qAE l).length - 1]≠0 at b;show(qAE l)[(qAE l).length - 1].tdiv _≠0;have d:(qAE l)[(qAE l).length - 1]∈qAE l:=List.getElem_mem c;generalize (qAE l)[(qAE l).length - 1]=x at b d;have i:=qD7 d;obtain⟨q,hq⟩:=qE3 d;intro g;have f:x.natAbs / gcdI (qAE l)=0:=by rw[<-qFq,g];rfl
 rw[hq,Nat.mul_div_cancel_left _ (by omega)]at f;subst f;omega
theorem qE5 {l:List Int} {M:Nat} (h:∀x∈l,Isz x M):∀x∈qA5 l,Isz x M:=by
 intro x b;unfold qA5 at b;rw[List.mem_map]at b;obtain⟨y,c,rfl⟩:=b;unfold Isz;rw[qFq];exact Nat.le_trans (qDO _ _) (h y (qEz c))
theorem qDB {l:List Int} {M:Nat} (h:∀x∈l,Isz x M) (j:Nat):Isz (l.getD j 0) M:=by
 rw[List.getD_eq_getElem?_getD]
 by_cases b:j<l.length
 ·rw[List.getElem?_eq_getElem b];exact h _ (List.getElem_mem b)
 ·rw[List.getElem?_eq_none (by omega)];show(dg 0).length <=M;rw[qA1];exact Nat.zero_le _
theorem qFW {a b:List Int} {M:Nat} (h:∀x∈a,Isz x M):Isz (topT a b) M:=by
 have:=qDB h (a.length - 1);unfold topT
 split
 ·unfold Isz at*;rw[Int.natAbs_neg];exact this
 ·exact this
theorem qIv {b:List Int} {M:Nat} (h:∀x∈b,Isz x M):Isz (sizS b) M:=by
 have:=qDB h (b.length - 1);unfold sizS Isz at*;rw[Int.natAbs_natCast];exact this
theorem qLP {l:List Int} {x:Int} (h:x∈l):∃j,j<l.length/\l.getD j 0=x:=by
 obtain⟨j,b,rfl⟩:=List.getElem_of_mem h;exact⟨j,b,by rw[List.getD_eq_getElem?_getD,List.getElem?_eq_getElem b];rfl⟩
theorem qE6 {a b:List Int} {S T:Int} {M N fr:Nat} (ha:∀x∈a,Isz x M) (hb:∀x∈b,Isz x N) (hS:Isz S N) (hT:Isz T M):∀k,fr+k<=a.length->∀x∈qAk S T fr a b k,Isz x (M+N+1)
 | 0,_,x,hx=>by
  unfold qAk at hx;rw[List.mem_map]at hx;obtain⟨y,hy,rfl⟩:=hx;exact(qB0 hS (ha y hy)).up (by omega)
 | k+1,hk,x,hx=>by
  unfold qAk at hx
  rcases List.mem_or_eq_of_mem_set hx with h1|h1
  ·exact qE6 ha hb hS hT k (by omega) x h1
  ·rw[h1,qDy S T fr a b k (fr+k) (Nat.le_refl _)];exact(qIt (qB0 hS (qDB ha _)) (qB0 hT (qDB hb _))).up (by omega)
theorem qIF {a b:List Int} {M N:Nat} (ha:∀x∈a,Isz x M) (hb:∀x∈b,Isz x N) (hab:b.length<=a.length):∀x∈qBh a b,Isz x (M+N+1):=
 qE5 (qE6 ha hb (qIv hb) (qFW ha) b.length (by omega))
theorem qFt {b:List Int} {N:Nat} (hb:∀x∈b,Isz x N) (hb0:b.length≠0):∀(n:Nat) (a:List Int) (M:Nat),(∀x∈a,Isz x M)->∀x∈qB4 b n a,Isz x (M+(a.length+1 - b.length)*(N+1))
 | 0,a,M,ha,x,hx=>(ha x hx).up (by omega)
 | n+1,a,M,ha,x,hx=>by
  unfold qB4 at hx
  split at hx
  ·rename_i hab;have ih:=qFt hb hb0 n (qBh a b) (M+N+1) (qIF ha hb hab) x hx;have hl:=qDP hb0 hab;refine ih.up ?_;obtain⟨d,hd⟩:∃d,a.length+1 - b.length=d+1:=⟨a.length - b.length,by omega⟩;have h2:(qBh a b).length +1 - b.length<=d:=by omega
   have c:=Nat.mul_le_mul_right (N+1) h2;rw[hd,Nat.add_mul];omega
  ·exact(ha x hx).up (by omega)
theorem qHR {b:List Int}:∀(n:Nat) (a:List Int),TopI a->TopI (qB4 b n a)
 | 0,a,h=>h
 | n+1,a,h=>by
  unfold qB4
  split
  ·exact qHR n _ (qAc _)
  ·exact h
theorem qIG {b:List Int} (hb0:b.length≠0):∀(n:Nat) (a:List Int),a.length<=n->(qB4 b n a).length <b.length
 | 0,a,h=>by unfold qB4;omega
 | n+1,a,h=>by
  unfold qB4
  split
  ·rename_i hab;have:=qDP hb0 hab;exact qIG hb0 n _ (by omega)
  ·omega
theorem qBg {a b:List Int} (hb0:b.length≠0):(qAY a b).length <b.length:=qIG hb0 _ _ (Nat.le_refl _)
theorem qBn {a b:List Int} (h:TopI a):TopI (qAY a b):=qHR _ _ h
def qAi:Nat->List Int->List Int->List Int
 | 0,a,_=>a
 | n+1,a,b=>if b.length=0 then a else qAi n b (qAY a b)
def qBI (a b:List Int):List Int:=qAi b.length a b
def Room (a b:List Int) (M:Nat):Nat:=(max a.length b.length - min a.length b.length+2)*(3^min a.length b.length*(M+2))
theorem qFu:∀d,1<=d->d+2<=3^d
 | 1,_=>by decide
 | d+2,_=>by
  have:=qFu (d+1) (by omega);rw[Nat.pow_succ];omega
theorem qHS {a b:List Int} {M:Nat} (hb0:b.length≠0) (ha:∀x∈a,Isz x M) (hb:∀x∈b,Isz x M):∃N,(∀x∈b,Isz x N)/\(∀x∈qAY a b,Isz x N)/\Room b (qAY a b) N<=Room a b M:=by
 by_cases c:b.length<=a.length
 ·refine⟨M+(a.length+1 - b.length)*(M+1),λx i=>(hb x i).up (by omega),qFt hb hb0 _ _ _ ha,?_⟩;have f:=qBg (a:=a) hb0;generalize hr9:(qAY a b).length =r at f;generalize ha9:a.length=p at c ⊢;unfold Room;rw[hr9,ha9];generalize b.length=q at hb0 c f ⊢;rw[show max q r=q by omega,show min q r=r by omega,show max p q=p by omega,show min p q=q by omega];have g:=qFu (q - r) (by omega)
  have h:M+(p+1 - q)*(M+1)+2<=(p - q+2)*(M+2):=by
   rw[show p+1 - q=p - q+1 by omega];generalize p - q=d;simp only[Nat.add_mul,Nat.mul_add];omega
  calc (q - r+2)*(3^r*(M+(p+1 - q)*(M+1)+2))<=3^(q - r)*(3^r*((p - q+2)*(M+2))):=Nat.mul_le_mul g (Nat.mul_le_mul_left _ h)
   _=(3^(q - r)*3^r)*((p - q+2)*(M+2)):=by rw[Nat.mul_assoc]
   _=3^q*((p - q+2)*(M+2)):=by rw[<-Nat.pow_add,show q - r+r=q by omega]
   _=(p - q+2)*(3^q*(M+2)):=by rw[Nat.mul_left_comm]
 ·have e:qAY a b=a:=by
   unfold qAY
   cases hn:a.length with
   | zero=>rfl
   | succ n=>unfold qB4;rw[if_neg c]
  refine⟨M,hb,by rw[e];exact ha,?_⟩;rw[e];unfold Room;rw[Nat.max_comm,Nat.min_comm];exact Nat.le_refl _
theorem qKS {a b:List Int} {M:Nat} (hab:b.length<=a.length):M+(a.length+1 - b.length)*(M+1)<=Room a b M:=by
 unfold Room;generalize a.length=p at hab ⊢;generalize b.length=q at hab ⊢;rw[show max p q=p by omega,show min p q=q by omega,show p+1 - q=p - q+1 by omega];generalize p - q=d;have c:1<=3^q:=Nat.pow_pos (by decide);have f:M+2<=3^q*(M+2):=Nat.le_mul_of_pos_left _ c;refine Nat.le_trans ?_ (Nat.mul_le_mul_left _ f);simp only[Nat.add_mul,Nat.mul_add];omega
end Go.Proofs.Ytcoajjdhkhgfdaa

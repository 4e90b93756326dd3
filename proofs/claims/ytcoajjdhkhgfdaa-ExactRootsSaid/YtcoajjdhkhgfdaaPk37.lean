/- Polynomials, plain law: the program's whole coefficients are multiples of the reference's. -/
import Derived.Test.YtcoajjdhkhgfdaaPk36
namespace Go.Proofs.Ytcoajjdhkhgfdaa
set_option maxRecDepth 100000
open Go.RowKit Go.Shelf
set_option linter.unusedVariables false
def Sc (A:List Int) (r:List Rat):Prop:=∃c:Rat,c≠0/\∀j,((A.getD j 0:Int):Rat)=c*r.getD j 0
theorem qHT (l:List Rat):∀n j,topN l n<=j->j<n->l.getD j 0=0
 | n+1,j,h,hj=>by
  unfold topN at h
  split at h
  ·rename_i h0
   by_cases e:j=n
   ·subst e;exact h0
   ·exact qHT l n j h (by omega)
  ·omega
theorem qG3 (l:List Int):∀n j,qB3 l n<=j->j<n->l.getD j 0=0
 | n+1,j,h,hj=>by
  unfold qB3 at h
  split at h
  ·rename_i h0
   by_cases e:j=n
   ·subst e;exact h0
   ·exact qG3 l n j h (by omega)
  ·omega
theorem qFH (l:List Rat) (j:Nat):(cutz l).getD j 0=l.getD j 0:=by
 unfold cutz;rw[List.getD_eq_getElem?_getD,List.getElem?_take]
 by_cases h:j<topN l l.length
 ·rw[if_pos h,<-List.getD_eq_getElem?_getD]
 ·rw[if_neg h]
  by_cases b:j<l.length
  ·rw[qHT l l.length j (by omega) b];rfl
  ·rw[qAq b];rfl
theorem qBB {l:List Int} {k:Nat} (h:¬k<l.length):l.getD k 0=0:=by rw[List.getD_eq_getElem?_getD,List.getElem?_eq_none (by omega)];rfl
theorem qG4 (l:List Int) (j:Nat):(qAE l).getD j 0=l.getD j 0:=by
 unfold qAE;rw[List.getD_eq_getElem?_getD,List.getElem?_take]
 by_cases h:j<qB3 l l.length
 ·rw[if_pos h,<-List.getD_eq_getElem?_getD]
 ·rw[if_neg h]
  by_cases b:j<l.length
  ·rw[qG3 l l.length j (by omega) b];rfl
  ·rw[qBB b];rfl
theorem qCv (l:List Int) (j:Nat):l.getD j 0=((gcdI (qAE l):Nat):Int)*(qA5 l).getD j 0:=by
 rw[<-qG4]
 by_cases b:j<(qAE l).length
 ·have d:(qAE l)[j]∈qAE l:=List.getElem_mem b;have c:((gcdI (qAE l):Nat):Int)∣(qAE l)[j]:=Int.ofNat_dvd_left.2 (qE3 d);unfold qA5;rw[List.getD_eq_getElem?_getD,List.getD_eq_getElem?_getD,List.getElem?_map,List.getElem?_eq_getElem b];show(qAE l)[j]=_*(qAE l)[j].tdiv _;rw[Int.mul_tdiv_cancel' c]
 ·rw[qBB b,qBB (l:=qA5 l) (by unfold qA5;rw[List.length_map];exact b),Int.mul_zero]
theorem Sc.prim {A:List Int} {r:List Rat} (h:Sc A r):Sc (qA5 A) r:=by
 obtain⟨c,k,h⟩:=h
 by_cases l:gcdI (qAE A)=0
 ·have n:(qAE A).length =0:=Classical.byContradiction λd=>qD7 (List.getElem_mem (show 0<(qAE A).length by omega)) l;have i:∀j,(qA5 A).getD j 0=0:=λj=>qBB (by unfold qA5;rw[List.length_map];omega);refine⟨c,k,λj=>?_⟩;rw[i,<-h j,qCv A j,i,Int.mul_zero]
 ·have f:((gcdI (qAE A):Nat):Rat)≠0:=λd=>l (by exact_mod_cast d);refine⟨c / ((gcdI (qAE A):Nat):Rat),?_,λj=>?_⟩
  ·intro d;rw[Rat.div_def]at d
   rcases Rat.mul_eq_zero.1 d with b|b
   ·exact k b
   ·have:((gcdI (qAE A):Nat):Rat)*((gcdI (qAE A):Nat):Rat)⁻¹ =1:=Rat.mul_inv_cancel _ f;rw[b,Rat.mul_zero]at this;exact absurd this (by decide)
  ·have b:=h j;rw[qCv A j]at b
   have m:((((gcdI (qAE A):Nat):Int)*(qA5 A).getD j 0:Int):Rat)=((gcdI (qAE A):Nat):Rat)*(((qA5 A).getD j 0:Int):Rat):=by
    rw[Rat.intCast_mul]
    rfl
   rw[m]at b;generalize (((qA5 A).getD j 0:Int):Rat)=x at b ⊢;generalize ((gcdI (qAE A):Nat):Rat)=g at b f ⊢;generalize r.getD j 0=y at b ⊢
   grind
theorem qFI (S T:Int) (fr:Nat) (a b:List Int):∀k j,¬(fr<=j/\j<fr+k)->(qAk S T fr a b k).getD j 0=S*a.getD j 0
 | 0,j,_=>qIE j
 | k+1,j,h=>by
  unfold qAk;rw[qDx (by omega)];exact qFI S T fr a b k j (by omega)
theorem qCh {P q:List Rat} {i:Nat} {c:Rat} {k:Nat} (hP:i+k<=P.length) (j:Nat):(subK P q i c k).getD j 0=if i<=j/\j - i<k then P.getD j 0 - c*q.getD (j - i) 0 else P.getD j 0:=by
 by_cases b:j<P.length
 ·unfold subK;rw[List.getD_eq_getElem?_getD,List.getElem?_map,List.getElem?_range b]
  rfl
 ·rw[qAq (by rw[qBz];exact b),if_neg (by omega),qAq b]
theorem Sc.step {A B:List Int} {P q:List Rat} {i:Nat} (hA:Sc A P) (hB:Sc B q) (hl:A.length=i+B.length) (hq:q.length=B.length) (hn:B.length≠0) (hb:qAC B≠0) (hP:i+q.length<=P.length):Sc (qCt A B) (subK P q i (divC P q i) q.length):=by
 obtain⟨c,n,hA⟩:=hA;obtain⟨d,p,hB⟩:=hB
 have k:((sizS B:Int):Rat)≠0:=by
  intro b;have f:sizS B=0:=by exact_mod_cast b
  unfold sizS at f;omega
 have f:((qAC A:Int):Rat)=c*P.getD (i+q.length - 1) 0:=by
  have:=hA (A.length - 1);unfold qAC;rw[this,hl,hq]
 have g:((qAC B:Int):Rat)=d*q.getD (q.length - 1) 0:=by
  have:=hB (B.length - 1);unfold qAC;rw[this,hq]
 have m:((topT A B:Int):Rat)*((qAC B:Int):Rat)=((sizS B:Int):Rat)*((qAC A:Int):Rat):=by
  rw[<-Rat.intCast_mul,<-Rat.intCast_mul,qFs]
 have o:q.getD (q.length - 1) 0≠0:=by
  intro b;rw[b,Rat.mul_zero]at g;exact hb (by exact_mod_cast g)
 refine⟨((sizS B:Int):Rat)*c,λb=>(Rat.mul_eq_zero.1 b).elim k n,λj=>?_⟩;rw[qCh hP];unfold qCt;rw[show A.length - B.length=i by omega]
 by_cases l:i<=j/\j - i<q.length
 ·rw[if_pos l];have h:=qD2 (sizS B) (topT A B) i A B B.length (j - i) (by omega) (by omega);rw[show i+(j - i)=j by omega]at h;rw[h,Rat.intCast_sub,Rat.intCast_mul,Rat.intCast_mul,hA j,hB (j - i)];unfold divC;rw[f,g]at m;generalize ((sizS B:Int):Rat)=S at*;generalize ((topT A B:Int):Rat)=T at*;generalize P.getD j 0=x;generalize q.getD (j - i) 0=y;generalize P.getD (i+q.length - 1) 0=u at*;generalize q.getD (q.length - 1) 0=v at*;clear hA hB f g h
  grind
 ·rw[if_neg l,qFI _ _ _ _ _ _ _ (by omega),Rat.intCast_mul,hA j,Rat.mul_assoc]
theorem Sc.of_getD {A:List Int} {r r2:List Rat} (h:Sc A r) (he:∀j,r2.getD j 0=r.getD j 0):Sc A r2:=by
 obtain⟨c,b,h⟩:=h;exact⟨c,b,λj=>by rw[he j];exact h j⟩
theorem qIM {A0 B:List Int} {P q:List Rat} {m:Nat} (hA0:Sc A0 P) (hB:Sc B q) (ht0:TopI A0) (hq:q.length=B.length) (hn:B.length≠0) (hb:qAC B≠0) (hP:P.length=m+B.length) (hq0:q.getD (q.length - 1) 0≠0):
  ∀s,s<=m+1->∃A f,qB4 B f A=qAY A0 B/\A.length<=f/\TopI A/\Sc A (divS P q m s)/\∀j,m+B.length<=j+s->(divS P q m s).getD j 0=0
 | 0,_=>⟨A0,A0.length,rfl,Nat.le_refl _,ht0,hA0,λj hj=>qAq (by show¬j<P.length;omega)⟩
 | s+1,hs=>by
  obtain⟨A,f,h1,h2,h3,h4,h5⟩:=qIM hA0 hB ht0 hq hn hb hP hq0 s (by omega);obtain⟨i,hi⟩:∃i,m - s=i:=⟨_,rfl⟩;have hlen:=qBY P q m s;have hd:divS P q m (s+1)=subK (divS P q m s) q i (divC (divS P q m s) q i) q.length:=by rw[<-hi];rfl
  rw[hd];generalize divS P q m s=R at h4 h5 hlen ⊢;have d:i+q.length<=R.length:=by omega
  by_cases p:R.getD (i+q.length - 1) 0=0
  ·have o:divC R q i=0:=by unfold divC;rw[p,Rat.div_def,Rat.zero_mul]
   have z:∀j,(subK R q i (divC R q i) q.length).getD j 0=R.getD j 0:=λj=>by
    rw[qCh d,o,Rat.zero_mul]
    split
    ·grind
    ·rfl
   refine⟨A,f,h1,h2,h3,h4.of_getD z,λj hj=>?_⟩;rw[z]
   by_cases e:j=i+q.length - 1
   ·rw[e];exact p
   ·exact h5 j (by omega)
  ·have r:A.getD (i+B.length - 1) 0≠0:=by
    obtain⟨c,o,h⟩:=h4;intro y;have:=h (i+B.length - 1);rw[y,<-hq]at this
    rcases Rat.mul_eq_zero.1 this.symm with k|k
    ·exact o k
    ·exact p k
   have t:A.length=i+B.length:=by
    have C:i+B.length - 1<A.length:=Classical.byContradiction λh=>r (qBB h);refine Classical.byContradiction λD=>?_;have y:=h3 (by omega);obtain⟨c,o,h⟩:=h4;have k:=h (A.length - 1);rw[h5 (A.length - 1) (by omega),Rat.mul_zero]at k;exact y (by exact_mod_cast k)
   obtain⟨g,F,x⟩:=qFv (b:=B) (l:=A) (f:=f) (by omega) hn h2;have E:=qDP (a:=A) (b:=B) hn (by omega);refine⟨qBh A B,g,by rw[<-x];exact h1,by omega,qAc _,(Sc.step h4 hB t hq hn hb d).prim,λj hj=>?_⟩;rw[qCh d]
   by_cases n:i<=j/\j - i<q.length
   ·have e:j=i+q.length - 1:=by omega
    rw[if_pos n,e,show i+q.length - 1 - i=q.length - 1 by omega];unfold divC;generalize R.getD (i+q.length - 1) 0=u;generalize q.getD (q.length - 1) 0=v at hq0 ⊢
    grind
   ·rw[if_neg n];exact h5 j (by omega)
theorem Sc.len {A:List Int} {r:List Rat} (h:Sc A r) (hA:TopI A) (hr:qAD r=true):A.length=r.length:=by
 obtain⟨c,g,h⟩:=h;refine Nat.le_antisymm (Classical.byContradiction λf=>?_) (Classical.byContradiction λf=>?_)
 ·have d:=hA (by omega);have b:=h (A.length - 1);rw[qAq (l:=r) (k:=A.length - 1) (by omega),Rat.mul_zero]at b;exact d (by exact_mod_cast b)
 ·have d:=qB1 hr (by omega);have b:=h (r.length - 1);rw[qBB (l:=A) (k:=r.length - 1) (by omega)]at b
  rcases Rat.mul_eq_zero.1 b.symm with h6|h6
  ·exact g h6
  ·exact d h6
theorem qHU {A B:List Int} {P q:List Rat} (hA:Sc A P) (hB:Sc B q) (hta:TopI A) (htb:TopI B) (htp:qAD P=true) (htq:qAD q=true) (hn:B.length≠0):Sc (qAY A B) (qAI P q):=by
 have r:=hA.len hta htp;have s:=hB.len htb htq
 by_cases b:P.length<q.length
 ·have g:qAI P q=P:=by unfold qAI;rw[if_pos b]
  have n:qAY A B=A:=qCu (by omega) _;rw[g,n];exact hA
 ·obtain⟨m,x⟩:∃m,P.length - q.length=m:=⟨_,rfl⟩;have g:qAI P q=cutz (divS P q m (m+1)):=by unfold qAI;rw[if_neg b,x]
  obtain⟨d,f,i,z,o,k,p⟩:=qIM (m:=m) hA hB hta (by omega) hn (htb hn) (by omega) (qB1 htq (by omega)) (m+1) (Nat.le_refl _)
  have v:¬B.length<=d.length:=λt=>by
   have y:=o (by omega);obtain⟨c,C,h⟩:=k;have l:=h (d.length - 1);rw[p (d.length - 1) (by omega),Rat.mul_zero]at l;exact y (by exact_mod_cast l)
  rw[qCu v f]at i;rw[g,<-i];exact k.of_getD λj=>qFH _ j
theorem qIy {p:List Int} {c:Int} (h:qAC p≠0):ratC p c=(c:Rat) / ((qAC p:Int):Rat):=by
 unfold ratC
 by_cases l:c=0
 ·subst l;rw[show(0:Int).natAbs =0 from rfl,qFe];exact(qBm _).symm
 ·by_cases i:qAC p<0
  ·have b:=qFo (-c) (qAC p).natAbs
   have d:(((qAC p).natAbs :Nat):Rat)= - ((qAC p:Int):Rat):=by
    rw[<-Rat.intCast_neg,show - qAC p=(((qAC p).natAbs :Nat):Int)by omega]
    rfl
   have f:(decide (c<0) != decide (qAC p<0))=decide (-c<0):=by
    rw[decide_eq_true i]
    by_cases g:c<0
    ·rw[decide_eq_true g,decide_eq_false (by omega)];rfl
    ·rw[decide_eq_false g,decide_eq_true (by omega)];rfl
   rw[f,show c.natAbs=(-c).natAbs by rw[Int.natAbs_neg],<-b,d,Rat.intCast_neg];have j:((qAC p:Int):Rat)≠0:=λk=>h (by exact_mod_cast k);generalize ((qAC p:Int):Rat)=x at j ⊢
   grind
  ·have b:=qFo c (qAC p).natAbs
   have d:(((qAC p).natAbs :Nat):Rat)=((qAC p:Int):Rat):=by
    conv=>rhs;rw[show qAC p=(((qAC p).natAbs :Nat):Int)by omega]
    rfl
   have f:(decide (c<0) != decide (qAC p<0))=decide (c<0):=by
    rw[decide_eq_false i]
    cases decide (c<0)<;>rfl
   rw[f,<-b,d]
theorem Sc.last {A:List Int} {r:List Rat} {c:Rat} (h:∀j,((A.getD j 0:Int):Rat)=c*r.getD j 0) (hl:A.length=r.length):((qAC A:Int):Rat)=c*qAP r:=by
 unfold qAC qAP;rw[h,hl]
theorem Sc.ratios {A:List Int} {r:List Rat} (h:Sc A r) (hA:TopI A) (hr:qAD r=true):qAv A=qAL r:=by
 have n:=h.len hA hr;obtain⟨c,q,h⟩:=h;have b:=Sc.last h n;refine List.ext_getElem (by unfold qAv qAL;rw[List.length_map,List.length_map,n]) λj d p=>?_;have g:j<A.length:=by unfold qAv at d;rw[List.length_map]at d;exact d
 have i:j<r.length:=by omega
 have o:qAC A≠0:=hA (by omega);have l:(qAv A)[j]=ratC A A[j]:=by simp[qAv]
 have m:(qAL r)[j]=r[j] / qAP r:=by simp[qAL]
 rw[l,m,qIy o,b];clear l m;have f:=h j;rw[List.getD_eq_getElem?_getD,List.getD_eq_getElem?_getD,List.getElem?_eq_getElem g,List.getElem?_eq_getElem i]at f;change ((A[j]:Int):Rat)=c*r[j]at f;rw[f];have k:qAP r≠0:=qB1 hr (by omega);generalize qAP r=x at k ⊢;generalize r[j]=y
 grind
theorem qF7 (r:List Rat) (j:Nat):(qAL r).getD j 0=r.getD j 0 / qAP r:=by
 unfold qAL;rw[List.getD_eq_getElem?_getD,List.getD_eq_getElem?_getD,List.getElem?_map]
 cases r[j]? with
 | none=>exact(qBm _).symm
 | some x=>rfl
theorem Sc.monic {A:List Int} {r:List Rat} (h:Sc A r) (h0:qAP r≠0):Sc A (qAL r):=by
 obtain⟨c,d,h⟩:=h;refine⟨c*qAP r,λb=>(Rat.mul_eq_zero.1 b).elim d h0,λj=>?_⟩;rw[qF7,h j];generalize qAP r=x at h0 ⊢;generalize r.getD j 0=y
 grind
theorem qG5 {d:Nat} {r:Rat} (h:r.den∣d):((qBQ d r:Int):Rat)=(d:Rat)*r:=by
 obtain⟨k,rfl⟩:=h;unfold qBQ;rw[Nat.mul_div_cancel_left _ (qA3 r),Rat.intCast_mul];have b:=qCB r;have c:((r.den:Nat):Rat)≠0:=λi=>r.den_nz (by exact_mod_cast i);have f:(((r.den*k:Nat)):Rat)=((r.den:Nat):Rat)*((k:Nat):Rat):=by exact_mod_cast rfl
 have g:((((k:Nat):Int)):Rat)=((k:Nat):Rat):=rfl;rw[f,g]
 conv=>rhs;arg 2;rw[b]
 generalize ((r.num:Int):Rat)=x;generalize ((r.den:Nat):Rat)=y at c ⊢;generalize ((k:Nat):Rat)=z
 grind
theorem qCi (l:List Rat):Sc (qAG l) l:=by
 unfold qAG;refine Sc.prim ⟨((denI l:Nat):Rat),λh=>?_,λj=>?_⟩
 ·have:=qE4 l l.length;have c:denI l=0:=by exact_mod_cast h
  unfold denI at c;omega
 ·rw[List.getD_eq_getElem?_getD,List.getD_eq_getElem?_getD,List.getElem?_map]
  by_cases b:j<l.length
  ·rw[List.getElem?_eq_getElem b];exact qG5 (qFr (List.getElem_mem b))
  ·rw[List.getElem?_eq_none (by omega)];exact(Rat.mul_zero _).symm
theorem qJ8 (l:List Rat):qAD (cutz l)=true:=by
 have c:∀n,topN l n=0∨l.getD (topN l n - 1) 0≠0:=λn=>by
  induction n with
  | zero=>exact .inl rfl
  | succ n ih=>
   unfold topN
   split
   ·exact ih
   ·rename_i h;exact .inr (by simpa using h)
 have d:(cutz l).length =topN l l.length:=by
  have:=qIr l l.length;unfold cutz;rw[List.length_take];omega
 unfold qAD
 by_cases b:(cutz l).length =0
 ·rw[decide_eq_true b];rfl
 ·rw[decide_eq_false b,Bool.false_or,qFH]
  rcases c l.length with h|h
  ·exact absurd (d.trans h) b
  ·rw[d];simpa using h
theorem qBZ {P q:List Rat} (h:qAD P=true):qAD (qAI P q)=true:=by
 unfold qAI
 split
 ·exact h
 ·exact qJ8 _
theorem qBC (r:List Rat):(qAL r).length =r.length:=by unfold qAL;rw[List.length_map]
theorem qBD {r:List Rat} (h:qAD r=true) (h0:r.length≠0):qAP r≠0:=qB1 h h0
theorem qBE {r:List Rat} (h:qAD r=true):qAD (qAL r)=true:=by
 unfold qAD
 by_cases b:r.length=0
 ·rw[qBC,decide_eq_true b];rfl
 ·have c:=qBD h b;rw[qBC,decide_eq_false b,Bool.false_or,qF7]
  have:r.getD (r.length - 1) 0 / qAP r≠0:=by
   change qAP r / qAP r≠0;generalize qAP r=x at c
   grind
  simpa using this
theorem Sc.monic' {A:List Int} {r:List Rat} (h:Sc A r) (ht:qAD r=true):Sc A (qAL r):=by
 by_cases b:r.length=0
 ·exact h.of_getD λj=>by rw[qAq (l:=r) (by omega),qAq (by rw[qBC];omega)]
 ·exact h.monic (qBD ht b)
def qAw:Nat->List Rat->List Rat->List Rat
 | 0,p,_=>p
 | n+1,p,q=>if q.length=0 then p else qAw n q (qAL (qAI p q))
theorem qIz:∀(f:Nat) (A B:List Int) (p q:List Rat),Sc A p->Sc B q->TopI A->TopI B->qAD p=true->qAD q=true->qAv A=p->qAv B=q->qAv (qAi f A B)=qAw f p q
 | 0,A,B,p,q,_,_,_,_,_,_,h,_=>h
 | f+1,A,B,p,q,hA,hB,ta,tb,tp,tq,ra,rb=>by
  have hl:=hB.len tb tq;unfold qAi qAw
  by_cases h0:B.length=0
  ·rw[if_pos h0,if_pos (by omega)];exact ra
  ·rw[if_neg h0,if_neg (by omega)];have hr:=qHU hA hB ta tb tp tq h0;have tr:=qBZ (q:=q) tp;exact qIz f B (qAY A B) q (qAL (qAI p q)) hB (hr.monic' tr) tb (qBn ta) tq (qBE tr) rb (hr.ratios (qBn ta) tr)
end Go.Proofs.Ytcoajjdhkhgfdaa

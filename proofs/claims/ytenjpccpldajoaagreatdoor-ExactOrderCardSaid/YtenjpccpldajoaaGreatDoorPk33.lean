/- Polynomials, plain law: the program's whole coefficients are multiples of the reference's. Roots, program side: lists of whole polynomials; counter. -/
import Derived.Test.YtenjpccpldajoaaGreatDoorPk32
namespace Go.Proofs.YtenjpccpldajoaaGreatDoor
set_option maxRecDepth 100000
open Go.RowKit Go.Shelf
set_option linter.unusedVariables false
def Sc (A:List Int) (r:List Rat):Prop:=∃c:Rat,c≠0∧∀j,((A.getD j 0:Int):Rat)=c*r.getD j 0
theorem qIc (l:List Rat):∀n j,topN l n≤j→j<n→l.getD j 0=0
 | n+1,j,h,hj=>by
  unfold topN at h
  split at h
  ·rename_i h0
   by_cases e:j=n
   ·subst e;exact h0
   ·exact qIc l n j h (by omega)
  ·omega
theorem qHb (l:List Int):∀n j,qBk l n≤j→j<n→l.getD j 0=0
 | n+1,j,h,hj=>by
  unfold qBk at h
  split at h
  ·rename_i h0
   by_cases e:j=n
   ·subst e;exact h0
   ·exact qHb l n j h (by omega)
  ·omega
theorem qId (l:List Rat) (j:Nat):(cutz l).getD j 0=l.getD j 0:=by
 unfold cutz;rw[List.getD_eq_getElem?_getD,List.getElem?_take]
 by_cases h:j<topN l l.length
 ·rw[if_pos h,←List.getD_eq_getElem?_getD]
 ·rw[if_neg h]
  by_cases hj:j<l.length
  ·rw[qIc l l.length j (by omega) hj];rfl
  ·rw[qBe hj];rfl
theorem qB1 {l:List Int} {k:Nat} (h:¬k<l.length):l.getD k 0=0:=by rw[List.getD_eq_getElem?_getD,List.getElem?_eq_none (by omega)];rfl
theorem qHc (l:List Int) (j:Nat):(qAI l).getD j 0=l.getD j 0:=by
 unfold qAI;rw[List.getD_eq_getElem?_getD,List.getElem?_take]
 by_cases h:j<qBk l l.length
 ·rw[if_pos h,←List.getD_eq_getElem?_getD]
 ·rw[if_neg h]
  by_cases hj:j<l.length
  ·rw[qHb l l.length j (by omega) hj];rfl
  ·rw[qB1 hj];rfl
theorem qD0 (l:List Int) (j:Nat):l.getD j 0=((gcdI (qAI l):Nat):Int)*(qA7 l).getD j 0:=by
 rw[←qHc]
 by_cases hj:j<(qAI l).length
 ·have hm:(qAI l)[j]∈qAI l:=List.getElem_mem hj;have hd:((gcdI (qAI l):Nat):Int)∣(qAI l)[j]:=Int.ofNat_dvd_left.2 (qFM hm);unfold qA7;rw[List.getD_eq_getElem?_getD,List.getD_eq_getElem?_getD,List.getElem?_map,List.getElem?_eq_getElem hj];show(qAI l)[j]=_*(qAI l)[j].tdiv _;rw[Int.mul_tdiv_cancel' hd]
 ·rw[qB1 hj,qB1 (l:=qA7 l) (by unfold qA7;rw[List.length_map];exact hj),Int.mul_zero]
theorem Sc.prim {A:List Int} {r:List Rat} (h:Sc A r):Sc (qA7 A) r:=by
 obtain⟨c,hc,h⟩:=h
 by_cases hg:gcdI (qAI A)=0
 ·have hz:(qAI A).length =0:=Classical.byContradiction fun h0=>qEO (List.getElem_mem (show 0<(qAI A).length by omega)) hg;have hz2:∀j,(qA7 A).getD j 0=0:=fun j=>qB1 (by unfold qA7;rw[List.length_map];omega);refine⟨c,hc,fun j=>?_⟩;rw[hz2,←h j,qD0 A j,hz2,Int.mul_zero]
 ·have hg2:((gcdI (qAI A):Nat):Rat)≠0:=fun h0=>hg (by exact_mod_cast h0);refine⟨c / ((gcdI (qAI A):Nat):Rat),?_,fun j=>?_⟩
  ·intro h0;rw[Rat.div_def]at h0
   rcases Rat.mul_eq_zero.1 h0 with h1|h1
   ·exact hc h1
   ·have:((gcdI (qAI A):Nat):Rat)*((gcdI (qAI A):Nat):Rat)⁻¹ =1:=Rat.mul_inv_cancel _ hg2;rw[h1,Rat.mul_zero]at this;exact absurd this (by decide)
  ·have h1:=h j;rw[qD0 A j]at h1
   have h2:((((gcdI (qAI A):Nat):Int)*(qA7 A).getD j 0:Int):Rat)=((gcdI (qAI A):Nat):Rat)*(((qA7 A).getD j 0:Int):Rat):=by
    rw[Rat.intCast_mul]
    rfl
   rw[h2]at h1;generalize (((qA7 A).getD j 0:Int):Rat)=x at h1 ⊢;generalize ((gcdI (qAI A):Nat):Rat)=g at h1 hg2 ⊢;generalize r.getD j 0=y at h1 ⊢
   grind
theorem qIe (S T:Int) (fr:Nat) (a b:List Int):∀k j,¬(fr≤j∧j<fr+k)→(qAw S T fr a b k).getD j 0=S*a.getD j 0
 | 0,j,_=>qJe j
 | k+1,j,h=>by
  unfold qAw;rw[qEn (by omega)];exact qIe S T fr a b k j (by omega)
theorem qFq {P q:List Rat} {i:Nat} {c:Rat} {k:Nat} (hP:i+k≤P.length) (j:Nat):(subK P q i c k).getD j 0=if i≤j∧j - i<k then P.getD j 0 - c*q.getD (j - i) 0 else P.getD j 0:=by
 by_cases hj:j<P.length
 ·unfold subK;rw[List.getD_eq_getElem?_getD,List.getElem?_map,List.getElem?_range hj]
  rfl
 ·rw[qBe (by rw[qDn];exact hj),if_neg (by omega),qBe hj]
theorem Sc.step {A B:List Int} {P q:List Rat} {i:Nat} (hA:Sc A P) (hB:Sc B q) (hl:A.length=i+B.length) (hq:q.length=B.length) (hn:B.length≠0) (hb:qAH B≠0) (hP:i+q.length≤P.length):Sc (qEK A B) (subK P q i (divC P q i) q.length):=by
 obtain⟨c,hc,hA⟩:=hA;obtain⟨d,hd,hB⟩:=hB
 have hS0:((sizS B:Int):Rat)≠0:=by
  intro h0;have h1:sizS B=0:=by exact_mod_cast h0
  unfold sizS at h1;omega
 have h1:((qAH A:Int):Rat)=c*P.getD (i+q.length - 1) 0:=by
  have:=hA (A.length - 1);unfold qAH;rw[this,hl,hq]
 have h2:((qAH B:Int):Rat)=d*q.getD (q.length - 1) 0:=by
  have:=hB (B.length - 1);unfold qAH;rw[this,hq]
 have h3:((topT A B:Int):Rat)*((qAH B:Int):Rat)=((sizS B:Int):Rat)*((qAH A:Int):Rat):=by
  rw[←Rat.intCast_mul,←Rat.intCast_mul,qJf]
 have hq0:q.getD (q.length - 1) 0≠0:=by
  intro h0;rw[h0,Rat.mul_zero]at h2;exact hb (by exact_mod_cast h2)
 refine⟨((sizS B:Int):Rat)*c,fun h0=>(Rat.mul_eq_zero.1 h0).elim hS0 hc,fun j=>?_⟩;rw[qFq hP];unfold qEK;rw[show A.length - B.length=i by omega]
 by_cases hj:i≤j∧j - i<q.length
 ·rw[if_pos hj];have h4:=qFO (sizS B) (topT A B) i A B B.length (j - i) (by omega) (by omega);rw[show i+(j - i)=j by omega]at h4;rw[h4,Rat.intCast_sub,Rat.intCast_mul,Rat.intCast_mul,hA j,hB (j - i)];unfold divC;rw[h1,h2]at h3;generalize ((sizS B:Int):Rat)=S at*;generalize ((topT A B:Int):Rat)=T at*;generalize P.getD j 0=x;generalize q.getD (j - i) 0=y;generalize P.getD (i+q.length - 1) 0=u at*;generalize q.getD (q.length - 1) 0=v at*;clear hA hB h1 h2 h4
  grind
 ·rw[if_neg hj,qIe _ _ _ _ _ _ _ (by omega),Rat.intCast_mul,hA j,Rat.mul_assoc]
theorem Sc.of_getD {A:List Int} {r r2:List Rat} (h:Sc A r) (he:∀j,r2.getD j 0=r.getD j 0):Sc A r2:=by
 obtain⟨c,hc,h⟩:=h;exact⟨c,hc,fun j=>by rw[he j];exact h j⟩
theorem qJp {A0 B:List Int} {P q:List Rat} {m:Nat} (hA0:Sc A0 P) (hB:Sc B q) (ht0:TopI A0) (hq:q.length=B.length) (hn:B.length≠0) (hb:qAH B≠0) (hP:P.length=m+B.length) (hq0:q.getD (q.length - 1) 0≠0):
  ∀s,s≤m+1→∃A f,qBr B f A=qA3 A0 B∧A.length≤f∧TopI A∧Sc A (divS P q m s)∧∀j,m+B.length≤j+s→(divS P q m s).getD j 0=0
 | 0,_=>⟨A0,A0.length,rfl,Nat.le_refl _,ht0,hA0,fun j hj=>qBe (by show¬j<P.length;omega)⟩
 | s+1,hs=>by
  obtain⟨A,f,h1,h2,h3,h4,h5⟩:=qJp hA0 hB ht0 hq hn hb hP hq0 s (by omega);obtain⟨i,hi⟩:∃i,m - s=i:=⟨_,rfl⟩;have hlen:=qCv P q m s;have hd:divS P q m (s+1)=subK (divS P q m s) q i (divC (divS P q m s) q i) q.length:=by rw[←hi];rfl
  rw[hd];generalize divS P q m s=R at h4 h5 hlen ⊢;have hwin:i+q.length≤R.length:=by omega
  by_cases h0:R.getD (i+q.length - 1) 0=0
  ·have hc:divC R q i=0:=by unfold divC;rw[h0,Rat.div_def,Rat.zero_mul]
   have he:∀j,(subK R q i (divC R q i) q.length).getD j 0=R.getD j 0:=fun j=>by
    rw[qFq hwin,hc,Rat.zero_mul]
    split
    ·grind
    ·rfl
   refine⟨A,f,h1,h2,h3,h4.of_getD he,fun j hj=>?_⟩;rw[he]
   by_cases e:j=i+q.length - 1
   ·rw[e];exact h0
   ·exact h5 j (by omega)
  ·have hAt:A.getD (i+B.length - 1) 0≠0:=by
    obtain⟨c,hc,h⟩:=h4;intro hz;have:=h (i+B.length - 1);rw[hz,←hq]at this
    rcases Rat.mul_eq_zero.1 this.symm with h6|h6
    ·exact hc h6
    ·exact h0 h6
   have hal:A.length=i+B.length:=by
    have hlo:i+B.length - 1<A.length:=Classical.byContradiction fun h=>hAt (qB1 h);refine Classical.byContradiction fun hne=>?_;have hz:=h3 (by omega);obtain⟨c,hc,h⟩:=h4;have h6:=h (A.length - 1);rw[h5 (A.length - 1) (by omega),Rat.mul_zero]at h6;exact hz (by exact_mod_cast h6)
   obtain⟨g,hg,hgo⟩:=qJk (b:=B) (l:=A) (f:=f) (by omega) hn h2;have hsl:=qEg (a:=A) (b:=B) hn (by omega);refine⟨qCR A B,g,by rw[←hgo];exact h1,by omega,qAn _,(Sc.step h4 hB hal hq hn hb hwin).prim,fun j hj=>?_⟩;rw[qFq hwin]
   by_cases hj2:i≤j∧j - i<q.length
   ·have e:j=i+q.length - 1:=by omega
    rw[if_pos hj2,e,show i+q.length - 1 - i=q.length - 1 by omega];unfold divC;generalize R.getD (i+q.length - 1) 0=u;generalize q.getD (q.length - 1) 0=v at hq0 ⊢
    grind
   ·rw[if_neg hj2];exact h5 j (by omega)
theorem Sc.len {A:List Int} {r:List Rat} (h:Sc A r) (hA:TopI A) (hr:qAZ r=true):A.length=r.length:=by
 obtain⟨c,hc,h⟩:=h;refine Nat.le_antisymm (Classical.byContradiction fun h1=>?_) (Classical.byContradiction fun h1=>?_)
 ·have hz:=hA (by omega);have h2:=h (A.length - 1);rw[qBe (l:=r) (k:=A.length - 1) (by omega),Rat.mul_zero]at h2;exact hz (by exact_mod_cast h2)
 ·have hz:=qE1 hr (by omega);have h2:=h (r.length - 1);rw[qB1 (l:=A) (k:=r.length - 1) (by omega)]at h2
  rcases Rat.mul_eq_zero.1 h2.symm with h6|h6
  ·exact hc h6
  ·exact hz h6
theorem qIf {A B:List Int} {P q:List Rat} (hA:Sc A P) (hB:Sc B q) (hta:TopI A) (htb:TopI B) (htp:qAZ P=true) (htq:qAZ q=true) (hn:B.length≠0):Sc (qA3 A B) (qBH P q):=by
 have hAP:=hA.len hta htp;have hBq:=hB.len htb htq
 by_cases hlt:P.length<q.length
 ·have e1:qBH P q=P:=by unfold qBH;rw[if_pos hlt]
  have e2:qA3 A B=A:=qFR (by omega) _;rw[e1,e2];exact hA
 ·obtain⟨m,hm⟩:∃m,P.length - q.length=m:=⟨_,rfl⟩;have e1:qBH P q=cutz (divS P q m (m+1)):=by unfold qBH;rw[if_neg hlt,hm]
  obtain⟨A',f,h1,h2,h3,h4,h5⟩:=qJp (m:=m) hA hB hta (by omega) hn (htb hn) (by omega) (qE1 htq (by omega)) (m+1) (Nat.le_refl _)
  have hl:¬B.length≤A'.length:=fun hge=>by
   have hz:=h3 (by omega);obtain⟨c,hc,h⟩:=h4;have h6:=h (A'.length - 1);rw[h5 (A'.length - 1) (by omega),Rat.mul_zero]at h6;exact hz (by exact_mod_cast h6)
  rw[qFR hl f]at h1;rw[e1,←h1];exact h4.of_getD fun j=>qId _ j
theorem qKq {p:List Int} {c:Int} (h:qAH p≠0):ratC p c=(c:Rat) / ((qAH p:Int):Rat):=by
 unfold ratC
 by_cases hc:c=0
 ·subst hc;rw[show(0:Int).natAbs =0 from rfl,qJF];exact(qDJ _).symm
 ·by_cases hl:qAH p<0
  ·have h1:=qGi (-c) (qAH p).natAbs
   have h2:(((qAH p).natAbs :Nat):Rat)= - ((qAH p:Int):Rat):=by
    rw[←Rat.intCast_neg,show - qAH p=(((qAH p).natAbs :Nat):Int)by omega]
    rfl
   have h3:(decide (c<0) != decide (qAH p<0))=decide (-c<0):=by
    rw[decide_eq_true hl]
    by_cases h4:c<0
    ·rw[decide_eq_true h4,decide_eq_false (by omega)];rfl
    ·rw[decide_eq_false h4,decide_eq_true (by omega)];rfl
   rw[h3,show c.natAbs=(-c).natAbs by rw[Int.natAbs_neg],←h1,h2,Rat.intCast_neg];have h0:((qAH p:Int):Rat)≠0:=fun h9=>h (by exact_mod_cast h9);generalize ((qAH p:Int):Rat)=x at h0 ⊢
   grind
  ·have h1:=qGi c (qAH p).natAbs
   have h2:(((qAH p).natAbs :Nat):Rat)=((qAH p:Int):Rat):=by
    conv=>rhs;rw[show qAH p=(((qAH p).natAbs :Nat):Int)by omega]
    rfl
   have h3:(decide (c<0) != decide (qAH p<0))=decide (c<0):=by
    rw[decide_eq_false hl]
    cases decide (c<0)<;>rfl
   rw[h3,←h1,h2]
theorem Sc.last {A:List Int} {r:List Rat} {c:Rat} (h:∀j,((A.getD j 0:Int):Rat)=c*r.getD j 0) (hl:A.length=r.length):((qAH A:Int):Rat)=c*qBs r:=by
 unfold qAH qBs;rw[h,hl]
theorem Sc.ratios {A:List Int} {r:List Rat} (h:Sc A r) (hA:TopI A) (hr:qAZ r=true):qAz A=qAk r:=by
 have hl:=h.len hA hr;obtain⟨c,hc,h⟩:=h;have hlast:=Sc.last h hl;refine List.ext_getElem (by unfold qAz qAk;rw[List.length_map,List.length_map,hl]) fun j h1 h2=>?_;have hjA:j<A.length:=by unfold qAz at h1;rw[List.length_map]at h1;exact h1
 have hjr:j<r.length:=by omega
 have hz:qAH A≠0:=hA (by omega);have e1:(qAz A)[j]=ratC A A[j]:=by simp[qAz]
 have e2:(qAk r)[j]=r[j] / qBs r:=by simp[qAk]
 rw[e1,e2,qKq hz,hlast];clear e1 e2;have hj:=h j;rw[List.getD_eq_getElem?_getD,List.getD_eq_getElem?_getD,List.getElem?_eq_getElem hjA,List.getElem?_eq_getElem hjr]at hj;change ((A[j]:Int):Rat)=c*r[j]at hj;rw[hj];have hq0:qBs r≠0:=qE1 hr (by omega);generalize qBs r=x at hq0 ⊢;generalize r[j]=y
 grind
theorem qG2 (r:List Rat) (j:Nat):(qAk r).getD j 0=r.getD j 0 / qBs r:=by
 unfold qAk;rw[List.getD_eq_getElem?_getD,List.getD_eq_getElem?_getD,List.getElem?_map]
 cases r[j]? with
 | none=>exact(qDJ _).symm
 | some x=>rfl
theorem Sc.monic {A:List Int} {r:List Rat} (h:Sc A r) (h0:qBs r≠0):Sc A (qAk r):=by
 obtain⟨c,hc,h⟩:=h;refine⟨c*qBs r,fun h1=>(Rat.mul_eq_zero.1 h1).elim hc h0,fun j=>?_⟩;rw[qG2,h j];generalize qBs r=x at h0 ⊢;generalize r.getD j 0=y
 grind
theorem qHd {d:Nat} {r:Rat} (h:r.den∣d):((qB9 d r:Int):Rat)=(d:Rat)*r:=by
 obtain⟨k,rfl⟩:=h;unfold qB9;rw[Nat.mul_div_cancel_left _ (qAU r),Rat.intCast_mul];have h1:=qCw r;have h2:((r.den:Nat):Rat)≠0:=fun h9=>r.den_nz (by exact_mod_cast h9);have h3:(((r.den*k:Nat)):Rat)=((r.den:Nat):Rat)*((k:Nat):Rat):=by exact_mod_cast rfl
 have h4:((((k:Nat):Int)):Rat)=((k:Nat):Rat):=rfl;rw[h3,h4]
 conv=>rhs;arg 2;rw[h1]
 generalize ((r.num:Int):Rat)=x;generalize ((r.den:Nat):Rat)=y at h2 ⊢;generalize ((k:Nat):Rat)=z
 grind
theorem qDN (l:List Rat):Sc (qAG l) l:=by
 unfold qAG;refine Sc.prim ⟨((denI l:Nat):Rat),fun h=>?_,fun j=>?_⟩
 ·have:=qFN l l.length;have h9:denI l=0:=by exact_mod_cast h
  unfold denI at h9;omega
 ·rw[List.getD_eq_getElem?_getD,List.getD_eq_getElem?_getD,List.getElem?_map]
  by_cases hj:j<l.length
  ·rw[List.getElem?_eq_getElem hj];exact qHd (qGt (List.getElem_mem hj))
  ·rw[List.getElem?_eq_none (by omega)];exact(Rat.mul_zero _).symm
theorem qLd (l:List Rat):qAZ (cutz l)=true:=by
 have key:∀n,topN l n=0∨l.getD (topN l n - 1) 0≠0:=fun n=>by
  induction n with
  | zero=>exact .inl rfl
  | succ n ih=>
   unfold topN
   split
   ·exact ih
   ·rename_i h;exact .inr (by simpa using h)
 have hl:(cutz l).length =topN l l.length:=by
  have:=qKj l l.length;unfold cutz;rw[List.length_take];omega
 unfold qAZ
 by_cases h0:(cutz l).length =0
 ·rw[decide_eq_true h0];rfl
 ·rw[decide_eq_false h0,Bool.false_or,qId]
  rcases key l.length with h|h
  ·exact absurd (hl.trans h) h0
  ·rw[hl];simpa using h
theorem qEp {P q:List Rat} (h:qAZ P=true):qAZ (qBH P q)=true:=by
 unfold qBH
 split
 ·exact h
 ·exact qLd _
theorem qCo (r:List Rat):(qAk r).length =r.length:=by unfold qAk;rw[List.length_map]
theorem qE5 {r:List Rat} (h:qAZ r=true) (h0:r.length≠0):qBs r≠0:=qE1 h h0
theorem qCE {r:List Rat} (h:qAZ r=true):qAZ (qAk r)=true:=by
 unfold qAZ
 by_cases h0:r.length=0
 ·rw[qCo,decide_eq_true h0];rfl
 ·have hz:=qE5 h h0;rw[qCo,decide_eq_false h0,Bool.false_or,qG2]
  have:r.getD (r.length - 1) 0 / qBs r≠0:=by
   change qBs r / qBs r≠0;generalize qBs r=x at hz
   grind
  simpa using this
theorem Sc.monic' {A:List Int} {r:List Rat} (h:Sc A r) (ht:qAZ r=true):Sc A (qAk r):=by
 by_cases h0:r.length=0
 ·exact h.of_getD fun j=>by rw[qBe (l:=r) (by omega),qBe (by rw[qCo];omega)]
 ·exact h.monic (qE5 ht h0)
def qCT:Nat→List Rat→List Rat→List Rat
 | 0,p,_=>p
 | n+1,p,q=>if q.length=0 then p else qCT n q (qAk (qBH p q))
theorem qKr:∀(f:Nat) (A B:List Int) (p q:List Rat),Sc A p→Sc B q→TopI A→TopI B→qAZ p=true→qAZ q=true→qAz A=p→qAz B=q→qAz (qAv f A B)=qCT f p q
 | 0,A,B,p,q,_,_,_,_,_,_,h,_=>h
 | f+1,A,B,p,q,hA,hB,ta,tb,tp,tq,ra,rb=>by
  have hl:=hB.len tb tq;unfold qAv qCT
  by_cases h0:B.length=0
  ·rw[if_pos h0,if_pos (by omega)];exact ra
  ·rw[if_neg h0,if_neg (by omega)];have hr:=qIf hA hB ta tb tp tq h0;have tr:=qEp (q:=q) tp;exact qKr f B (qA3 A B) q (qAk (qBH p q)) hB (hr.monic' tr) tb (qCe ta) tq (qCE tr) rb (hr.ratios (qCe ta) tr)
set_option maxHeartbeats 1000000
set_option linter.unusedSimpArgs false
def slK:EK (Option Addr×Nat×Nat) where
 ik:= .u32
 sz:=1
 pos:=by decide
 small:=by decide
 rd w cs x:=cs=[.slice x.1 x.2.1 x.2.2]
 len:=by rintro w cs a rfl;rfl
 one:=by rintro w cs a rfl u hu;simp only[List.mem_cons,List.not_mem_nil,or_false]at hu;subst hu;rfl
 ni:=by rintro w cs a rfl u hu;simp only[List.mem_cons,List.not_mem_nil,or_false]at hu;subst hu;exact qAK _ _ _
 kp:=by rintro w W cs a rfl hk;rfl
def slV (x:Option Addr×Nat×Nat):Value:= .slice x.1 x.2.1 x.2.2
def RowsE {α:Type} (K:EK α) (e e2:TypeId) (base:Nat) (W:World) (vo:Value) (L:List (List α)):Prop:=
 ∃xs:List (Option Addr×Nat×Nat),xs.length=L.length∧RowE slK e2 base W vo xs∧∀i (h1:i<xs.length) (h2:i<L.length),RowE K e 0 W (slV xs[i]) L[i]
theorem RowsE.le {α:Type} {K:EK α} {e e2:TypeId} {base:Nat} {W V:World} {vo:Value} {L:List (List α)} (h:RowsE K e e2 base W vo L) (hb:Le W V):RowsE K e e2 base V vo L:=by
 obtain⟨xs,h1,h2,h3⟩:=h;exact⟨xs,h1,h2.le hb,fun i a b=>(h3 i a b).le hb⟩
theorem RowsE.slice {α:Type} {K:EK α} {e e2:TypeId} {base:Nat} {W:World} {vo:Value} {L:List (List α)} (h:RowsE K e e2 base W vo L):∃A c,vo= .slice A L.length c:=by
 obtain⟨xs,h1,h2,h3⟩:=h;obtain⟨A,c,rfl⟩:=h2.slice;exact⟨A,c,by rw[h1]⟩
theorem RowsE.at {α:Type} {K:EK α} {e e2:TypeId} {base:Nat} {W:World} {vo:Value} {L:List (List α)} (h:RowsE K e e2 base W vo L) {j:Nat} (hj:j<L.length):
  ∃g c A n d,vo= .slice (some ⟨g,0,none⟩) L.length c∧base≤g∧g<W.heap.size∧W.cell? ⟨g,j,none⟩=some (.slice A n d)∧RowE K e 0 W (.slice A n d) L[j]:=by
 obtain⟨xs,h1,h2,h3⟩:=h;have hjx:j<xs.length:=by omega
 obtain⟨g,c,rfl,hb,hg,-,-,cs,hrd,hc⟩:=h2.at hjx;have hrd2:cs=[.slice xs[j].1 xs[j].2.1 xs[j].2.2]:=hrd;subst hrd2;have h9:=hc 0 _ rfl;have e9:j*slK.sz+0=j:=by show j*1+0=j;omega
 rw[e9]at h9;exact⟨g,c,_,_,_,by rw[h1],hb,hg,h9,h3 j hjx hj⟩
theorem RowE.mk1 {α:Type} {K:EK α} {e:TypeId} {base:Nat} {w:World} {g:Nat} {cs:List Value} {a:α} (h:w.heap[g]? =some (.cells cs.toArray e)) (hb:base≤g) (hr:K.rd w cs a):RowE K e base w (.slice (some ⟨g,0,none⟩) 1 1) [a]:=
 ⟨[cs],rfl,⟨by simp[K.len hr],.inr ⟨g,1,cs.toArray,rfl,hb,h,Nat.le_refl _,by decide,by simp[K.len hr],by simp[List.take_of_length_le (Nat.le_of_eq (K.len hr))]⟩⟩,fun g' cur t hg hc u hu=>by
  have e1:g=g':=by simpa[Value.ownBlock]using hg
  subst e1;rw[h]at hc;injection hc with hc;injection hc with hc1 hc2;subst hc1
  exact K.ni hr u (by simpa using hu),fun j hj=>by
  have:j=0:=by simp at hj;omega
  subst this
  exact hr⟩
theorem RowE.tag {α:Type} {K:EK α} {e:TypeId} {base:Nat} {w:World} {v:Value} {xs:List α} (h:RowE K e base w v xs) {g:Nat} (hg:v.ownBlock=some g):∃cur,w.heap[g]? =some (.cells cur e):=by
 obtain⟨css,h1,h2,h3,h4⟩:=h
 rcases h2.2 with⟨rfl,-⟩| ⟨g',cap,cur,rfl,hbg,hg',-⟩
 ·cases hg
 ·have:g'=g:=by simpa[Value.ownBlock]using hg
  subst this;exact⟨cur,hg'⟩
theorem RowsE.mk1 {α:Type} {K:EK α} {e e2:TypeId} {base:Nat} {w:World} {g:Nat} {A:Option Addr} {n c:Nat} {l:List α} (h:w.heap[g]? =some (.cells #[.slice A n c] e2)) (hb:base≤g) (hl:RowE K e 0 w (.slice A n c) l):RowsE K e e2 base w (.slice (some ⟨g,0,none⟩) 1 1) [l]:=
 ⟨[(A,n,c)],rfl,RowE.mk1 (cs:=[.slice A n c]) h hb rfl,fun i h1 h2=>by
  have:i=0:=by simp at h1;omega
  subst this
  exact hl⟩
theorem RowsE.append {α:Type} {K:EK α} (hik:K.ik= .u32) {P:Program} {e e2:TypeId} (hne:e≠e2) {base:Nat} {w:World} {v:Value} {L:List (List α)} (h:RowsE K e e2 base w v L) {ops:Array Oper} {rest:List Oper} {o:Oper} {a:Act} {Q:Exit→Act→World→Prop} (hgd:o.guard=none) (s x:Operand) (t:TypeId)
  (ho:o.op= .call {callee:= .builtin .append,args:=#[s,x],argTypes:=#[t,t]}) (ht:P.underlying t=some (.slice e2)) (hinfo:(P.info? e2).map (fun i=>(i.zero,i.size,i.bytes))=some (some (.slice none 0 0),1,24))
  (hs:a.eval s=v) (B:Nat) (hx:a.eval x= .slice (some ⟨B,0,none⟩) 1 1) {A:Option Addr} {n c:Nat} {l:List α} (hl:RowE K e 0 w (.slice A n c) l) (hc:w.cell? ⟨B,0,none⟩=some (.slice A n c))
  (hlen:L.length≤1000000) (hbase:base≤w.heap.size)
  (hQ:∀v' w',RowsE K e e2 base w' v' (L++[l])→Below base w w'→Kp .u32 w w'→(∀(g:Nat) (cur:Array Value),w.heap[g]? =some (Obj.cells cur e)→w'.heap[g]? =w.heap[g]?)→wpList P ops Q rest (a.put o.dst v') w'):wpList P ops Q (o::rest) a w:=by
 obtain⟨xs,h1,h2,h3⟩:=h;refine RowE.append (K:=slK) h2 hgd s x t ho 24 (.slice none 0 0) (by decide) ht hinfo rfl (fun j hj=>?_) hs B hx (cs:=[.slice A n c]) (y:=(A,n,c)) rfl (fun i u hu=>?_) (by omega) hbase ?_
 ·have:j=0:=by have:slK.sz=1:=rfl;omega
  subst this;exact qAK _ _ _
 ·have hi:i<1:=by simpa using(List.getElem?_eq_some_iff.1 hu).1
  have:i=0:=by omega
  subst this;simpa using hc.trans (by simpa using hu)
 ·intro v' w' q1 q2 q3 q4 q5
  have hst:∀(g:Nat) (cur:Array Value),w.heap[g]? =some (Obj.cells cur e)→w'.heap[g]? =w.heap[g]? :=fun g cur hg=>by
   refine q5.block g (gsl hg) fun hv=>?_;obtain⟨cur2,h9⟩:=h2.tag hv.symm;rw[hg]at h9;injection h9 with h9;injection h9 with h91 h92;exact hne h92
  have hkeep:∀{v9:Value} {l9:List α},RowE K e 0 w v9 l9→RowE K e 0 w' v9 l9:=fun h9=>h9.keep (by rw[hik];exact q3) fun g hg=>by
   obtain⟨cur,h8⟩:=h9.tag hg;exact hst g cur h8
  refine hQ v' w' ⟨xs++[(A,n,c)],by simp[h1],q1,fun i h7 h8=>?_⟩ q2 q3 hst
  by_cases hi:i<xs.length
  ·rw[List.getElem_append_left hi,List.getElem_append_left (by omega)];exact hkeep (h3 i hi (by omega))
  ·have:i=xs.length:=by simp at h7;omega
   subst this;have e9:(L++[l])[xs.length]'h8=l:=by rw[List.getElem_append_right (by omega)];simp[h1]
   rw[e9];simp only[List.getElem_append_right (Nat.le_refl _),Nat.sub_self];exact hkeep hl
def chgK (ss:List Int):Nat→Nat×Int
 | 0=>(0,0)
 | k+1=>let p:=chgK ss k;let s:=ss.getD k 0;(if s*p.2<0 then p.1+1 else p.1,if s=0 then p.2 else s)
def chgN (ss:List Int):Nat:=(chgK ss ss.length).1
theorem qIO (ss:List Int):∀k,(chgK ss k).1≤k
 | 0=>Nat.le_refl _
 | k+1=>by
  have:=qIO ss k;unfold chgK;dsimp only
  split<;>omega
theorem qJq {ss:List Int} (h:∀s∈ss,-1≤s∧s≤1):∀k,-1≤(chgK ss k).2∧(chgK ss k).2≤1
 | 0=>by unfold chgK;decide
 | k+1=>by
  have ih:=qJq h k;unfold chgK;dsimp only
  split
  ·exact ih
  ·rw[List.getD_eq_getElem?_getD]
   cases e:ss[k]? with
   | none=>decide
   | some s=>exact h s (List.mem_of_getElem? e)
theorem qEq (g:FuncId) (cap:Array Value) (sg:List Int→Int) (L:List (List Int)) (vl:Value) (B:Nat) (tB:TypeId) (w:World) (kB:w.heap[B]? =some (.cells #[vl] tB)) (hL:RowsE intK 156 132 0 w vl L) (hl:L.length≤1000) (hg:qAF Tryz.prog g) (hs:∀l∈L,-1≤sg l∧sg l≤1)
  (hf:∀W,Le w W→∀l∈L,∀A n c,RowE intK 156 0 W (.slice A n c) l→Calls Tryz.prog g (#[]++#[.slice A n c]++cap) W (fun e W'=>e= .returned (.int .i64 (sg l))∧Le W W')):
  Calls Tryz.prog 131 #[.func (.func g) #[] cap,.pointer (some ⟨B,0,none⟩)] w fun e w'=>e= .returned (.int .i64 (chgN (L.map sg):Int))∧Le w w':=by
 obtain⟨LA,lc,rfl⟩:=hL.slice;obtain⟨n,hn⟩:∃n,L.length=n:=⟨_,rfl⟩;obtain⟨ss,hss⟩:∃l,L.map sg=l:=⟨_,rfl⟩;have hsl:ss.length=n:=by rw[←hss,List.length_map,hn]
 have hs1:∀s∈ss,-1≤s∧s≤1:=fun s h=>by
  rw[←hss,List.mem_map]at h;obtain⟨l,h1,rfl⟩:=h;exact hs l h1
 rw[hss];rw[hn]at kB hL hl;have hBl:=gsl kB;have b0:w.cell? ⟨B,0,none⟩=some (.slice LA n lc):=cell_of_row w B 0 _ _ _ kB;unfold qAF at hg;have⟨kB',hL',hn',hss',hsl',hs',hs1',hf'⟩:=hyd8 kB hL hn hss hsl hs hs1 hf;clear hf hs1 hs hsl hss hn hL kB;go_enter Tryz.func131,Tryz.ntmps131;go_wp2_with (fail);go_loopw [4,5,11] (fun nn la i wr=>∃k:Nat,i= .int .i64 (k:Int)∧k≤n∧nn= .int .i64 ((chgK ss k).1:Int)∧la= .int .i64 (chgK ss k).2∧Hid (Below w.heap.size w wr)) (fun _ _ i _=>n - (intOf i).toNat)
 case atStart=>exact⟨0,rfl,Nat.zero_le _,rfl,rfl,Lib.hid (Below.refl _ _)⟩
 case round=>
  obtain⟨k,rfl,hk,rfl,rfl,hb⟩:=hrel
  by_cases hlt:k<n
  ·have hkx:k<L.length:=by rw[hn'.out];exact hlt
   obtain⟨gl,c',A,m,d,e1,-,hgl,x0,hrow⟩:=(hL'.out.le hb.out).at hkx;rw[hn'.out]at e1;injection e1 with e1 e2 e3;subst e1 e3;clear e2;have kc:=hf'.out wr hb.out L[k] (List.getElem_mem hkx) A m d hrow;obtain⟨s,hs9⟩:∃s,sg L[k]=s:=⟨_,rfl⟩;rw[hs9]at kc;have hsk:ss.getD k 0=s:=by rw[←hss'.out,List.getD_eq_getElem?_getD,List.getElem?_map,List.getElem?_eq_getElem hkx,Option.map_some,hs9];rfl
   have hsb:=hs'.out L[k] (List.getElem_mem hkx);rw[hs9]at hsb;have hlb:=qJq hs1'.out k;have hcl:=qIO ss k;have hnx:chgK ss (k+1)=(if s*(chgK ss k).2<0 then(chgK ss k).1+1 else(chgK ss k).1,if s=0 then(chgK ss k).2 else s):=by rw[←hsk];rfl
   generalize chgK ss k=cp at hlb hcl hnx ⊢;obtain⟨cn,cl⟩:=cp;dsimp only at hlb hcl hnx ⊢;obtain⟨pr,hpr⟩:∃p,s*cl=p:=⟨_,rfl⟩
   have hpb: -1≤pr∧pr≤1:=by
    rw[←hpr]
    rcases(by omega:s= -1∨s=0∨s=1)with rfl|rfl|rfl<;>rcases(by omega:cl= -1∨cl=0∨cl=1)with h|h|h<;>rw[h]<;>decide
   obtain⟨hp1,hp2⟩:=hpb;obtain⟨hs91,hs92⟩:=hsb;obtain⟨hl91,hl92⟩:=hlb;rw[hpr]at hnx;have j1:(k:Int)<(n:Int):=by omega
   have j2:(0:Int)≤(k:Int):=by omega
   have⟨hrow',kc',hs9',hsk',hnx',hb'⟩:=hyd6 hrow kc hs9 hsk hnx hb;clear hb hnx hsk hs9 kc hrow;go_wp2_with (fail);refine kc'.out.mono ?_;rintro e W1 ⟨rfl,hle⟩;have hb1:Below w.heap.size w W1:=hb'.out.out.trans (hle.mono hb'.out.out.size)
   by_cases hn0:pr<0
   ·have hs0:¬s=0:=fun h=>by rw[h]at hpr;omega
    have hs2:(s==0)=false:=by simpa using hs0
    have hnx2:=hnx'.out;rw[if_pos hn0,if_neg hs0]at hnx2;have⟨hle',hb1',hnx2'⟩:=hyd3 hle hb1 hnx2;clear hnx2 hb1 hle;go_wp2;go_roundw
    case rel=>exact⟨k+1,by go_num,by omega,by rw[hnx2'.out];go_num,by rw[hnx2'.out],hb1'⟩
    case measure=>simp[intOf];omega
   ·by_cases hs0:s=0
    ·have hnx2:=hnx'.out;rw[if_neg hn0,if_pos hs0]at hnx2;subst hs0;have⟨hle',hb1',hnx2'⟩:=hyd3 hle hb1 hnx2;clear hnx2 hb1 hle;go_wp2;go_roundw
     case rel=>exact⟨k+1,by go_num,by omega,by rw[hnx2'.out],by rw[hnx2'.out],hb1'⟩
     case measure=>simp[intOf];omega
    ·have hs2:(s==0)=false:=by simpa using hs0
     have hnx2:=hnx'.out;rw[if_neg hn0,if_neg hs0]at hnx2;have⟨hle',hb1',hnx2'⟩:=hyd3 hle hb1 hnx2;clear hnx2 hb1 hle;go_wp2;go_roundw
     case rel=>exact⟨k+1,by go_num,by omega,by rw[hnx2'.out],by rw[hnx2'.out],hb1'⟩
     case measure=>simp[intOf];omega
  ·obtain rfl:k=n:=by omega
   have j1:¬(k:Int)<(k:Int):=by omega
   have hfin:(chgK ss k).1=chgN ss:=by unfold chgN;rw[hsl'.out]
   rw[hfin];have hb':=hyd1 hb;clear hb;go_wp2;go_ret;exact⟨rfl,hb'.out.out⟩
end Go.Proofs.YtenjpccpldajoaaGreatDoor

/- Roots, plain law: the program's chain is a positive multiple of the reference's. -/
import Derived.Test.YtcoajjdhkhgfdaaPk42
import Derived.Test.YtcoajjdhkhgfdaaPk44
namespace Go.Proofs.Ytcoajjdhkhgfdaa
set_option maxRecDepth 100000
open Go.RowKit Go.Shelf
set_option linter.unusedVariables false
def Scp (A:List Int) (r:List Rat):Prop:=∃c:Rat,0<c/\∀j,((A.getD j 0:Int):Rat)=c*r.getD j 0
theorem Scp.sc {A:List Int} {r:List Rat} (h:Scp A r):Sc A r:=by
 obtain⟨c,b,h⟩:=h;exact⟨c,Rat.ne_of_gt b,h⟩
theorem Scp.of_getD {A:List Int} {r r2:List Rat} (h:Scp A r) (he:∀j,r2.getD j 0=r.getD j 0):Scp A r2:=by
 obtain⟨c,b,h⟩:=h;exact⟨c,b,λj=>by rw[he j];exact h j⟩
theorem qIT {a b:Rat} (ha:0<a) (hb:0<b):0<a / b:=by
 rw[Rat.div_def];exact Rat.mul_pos ha (Rat.inv_pos.2 hb)
theorem Scp.prim {A:List Int} {r:List Rat} (h:Scp A r):Scp (qA5 A) r:=by
 obtain⟨c,i,h⟩:=h
 by_cases k:gcdI (qAE A)=0
 ·have o:(qAE A).length =0:=Classical.byContradiction λn=>qD7 (List.getElem_mem (show 0<(qAE A).length by omega)) k;have f:∀j,(qA5 A).getD j 0=0:=λj=>qBB (by unfold qA5;rw[List.length_map];omega);refine⟨c,i,λj=>?_⟩;rw[f,<-h j,qCv A j,f,Int.mul_zero]
 ·have b:0<((gcdI (qAE A):Nat):Rat):=Rat.natCast_pos.2 (by omega);refine⟨c / ((gcdI (qAE A):Nat):Rat),qIT i b,λj=>?_⟩;have d:=h j;rw[qCv A j]at d
  have l:((((gcdI (qAE A):Nat):Int)*(qA5 A).getD j 0:Int):Rat)=((gcdI (qAE A):Nat):Rat)*(((qA5 A).getD j 0:Int):Rat):=by
   rw[Rat.intCast_mul]
   rfl
  rw[l]at d;generalize (((qA5 A).getD j 0:Int):Rat)=x at d ⊢;generalize ((gcdI (qAE A):Nat):Rat)=g at d b ⊢;generalize r.getD j 0=y at d ⊢;have m:=Rat.ne_of_gt b;clear b h k
  grind
theorem Scp.step {A B:List Int} {P q:List Rat} {i:Nat} (hA:Scp A P) (hB:Sc B q) (hl:A.length=i+B.length) (hq:q.length=B.length) (hn:B.length≠0) (hb:qAC B≠0) (hP:i+q.length<=P.length):Scp (qCt A B) (subK P q i (divC P q i) q.length):=by
 obtain⟨c,k,hA⟩:=hA;obtain⟨d,p,hB⟩:=hB;have b:0<((sizS B:Int):Rat):=Rat.intCast_pos.2 (by unfold sizS;omega)
 have h:((qAC A:Int):Rat)=c*P.getD (i+q.length - 1) 0:=by
  have:=hA (A.length - 1);unfold qAC;rw[this,hl,hq]
 have f:((qAC B:Int):Rat)=d*q.getD (q.length - 1) 0:=by
  have:=hB (B.length - 1);unfold qAC;rw[this,hq]
 have n:((topT A B:Int):Rat)*((qAC B:Int):Rat)=((sizS B:Int):Rat)*((qAC A:Int):Rat):=by
  rw[<-Rat.intCast_mul,<-Rat.intCast_mul,qFs]
 have o:q.getD (q.length - 1) 0≠0:=by
  intro m;rw[m,Rat.mul_zero]at f;exact hb (by exact_mod_cast f)
 refine⟨((sizS B:Int):Rat)*c,Rat.mul_pos b k,λj=>?_⟩;rw[qCh hP];unfold qCt;rw[show A.length - B.length=i by omega]
 by_cases l:i<=j/\j - i<q.length
 ·rw[if_pos l];have g:=qD2 (sizS B) (topT A B) i A B B.length (j - i) (by omega) (by omega);rw[show i+(j - i)=j by omega]at g;rw[g,Rat.intCast_sub,Rat.intCast_mul,Rat.intCast_mul,hA j,hB (j - i)];unfold divC;rw[h,f]at n;clear b k;generalize ((sizS B:Int):Rat)=S at*;generalize ((topT A B:Int):Rat)=T at*;generalize P.getD j 0=x;generalize q.getD (j - i) 0=y;generalize P.getD (i+q.length - 1) 0=u at*;generalize q.getD (q.length - 1) 0=v at*;clear hA hB h f g
  grind
 ·rw[if_neg l,qFI _ _ _ _ _ _ _ (by omega),Rat.intCast_mul,hA j,Rat.mul_assoc]
theorem qHY {A0 B:List Int} {P q:List Rat} {m:Nat} (hA0:Scp A0 P) (hB:Sc B q) (ht0:TopI A0) (hq:q.length=B.length) (hn:B.length≠0) (hb:qAC B≠0) (hP:P.length=m+B.length) (hq0:q.getD (q.length - 1) 0≠0):
  ∀s,s<=m+1->∃A f,qB4 B f A=qAY A0 B/\A.length<=f/\TopI A/\Scp A (divS P q m s)/\∀j,m+B.length<=j+s->(divS P q m s).getD j 0=0
 | 0,_=>⟨A0,A0.length,rfl,Nat.le_refl _,ht0,hA0,λj hj=>qAq (by show¬j<P.length;omega)⟩
 | s+1,hs=>by
  obtain⟨A,f,h1,h2,h3,h4,h5⟩:=qHY hA0 hB ht0 hq hn hb hP hq0 s (by omega);obtain⟨i,hi⟩:∃i,m - s=i:=⟨_,rfl⟩;have hlen:=qBY P q m s;have hd:divS P q m (s+1)=subK (divS P q m s) q i (divC (divS P q m s) q i) q.length:=by rw[<-hi];rfl
  rw[hd];generalize divS P q m s=R at h4 h5 hlen ⊢;have d:i+q.length<=R.length:=by omega
  by_cases p:R.getD (i+q.length - 1) 0=0
  ·have o:divC R q i=0:=by unfold divC;rw[p,Rat.div_def,Rat.zero_mul]
   have z:∀j,(subK R q i (divC R q i) q.length).getD j 0=R.getD j 0:=λj=>by
    rw[qCh d,o,Rat.zero_mul]
    split
    ·grind
    ·rfl
   refine⟨A,f,h1,h2,h3,h4.of_getD z,λj hj=>?_⟩;rw[z]
   by_cases e:j=i+q.length - 1
   ·rw[e];exact p
   ·exact h5 j (by omega)
  ·have r:A.getD (i+B.length - 1) 0≠0:=by
    obtain⟨c,o,h⟩:=h4;intro y;have:=h (i+B.length - 1);rw[y,<-hq]at this
    rcases Rat.mul_eq_zero.1 this.symm with k|k
    ·exact(Rat.ne_of_gt o) k
    ·exact p k
   have t:A.length=i+B.length:=by
    have C:i+B.length - 1<A.length:=Classical.byContradiction λh=>r (qBB h);refine Classical.byContradiction λD=>?_;have y:=h3 (by omega);obtain⟨c,o,h⟩:=h4;have k:=h (A.length - 1);rw[h5 (A.length - 1) (by omega),Rat.mul_zero]at k;exact y (by exact_mod_cast k)
   obtain⟨g,F,x⟩:=qFv (b:=B) (l:=A) (f:=f) (by omega) hn h2;have E:=qDP (a:=A) (b:=B) hn (by omega);refine⟨qBh A B,g,by rw[<-x];exact h1,by omega,qAc _,(Scp.step h4 hB t hq hn hb d).prim,λj hj=>?_⟩;rw[qCh d]
   by_cases n:i<=j/\j - i<q.length
   ·have e:j=i+q.length - 1:=by omega
    rw[if_pos n,e,show i+q.length - 1 - i=q.length - 1 by omega];unfold divC;generalize R.getD (i+q.length - 1) 0=u;generalize q.getD (q.length - 1) 0=v at hq0 ⊢
    grind
   ·rw[if_neg n];exact h5 j (by omega)
theorem qJf {A B:List Int} {P q:List Rat} (hA:Scp A P) (hB:Sc B q) (hta:TopI A) (htb:TopI B) (htp:qAD P=true) (htq:qAD q=true) (hn:B.length≠0):Scp (qAY A B) (qAI P q):=by
 have r:=hA.sc.len hta htp;have s:=hB.len htb htq
 by_cases b:P.length<q.length
 ·have g:qAI P q=P:=by unfold qAI;rw[if_pos b]
  have n:qAY A B=A:=qCu (by omega) _;rw[g,n];exact hA
 ·obtain⟨m,x⟩:∃m,P.length - q.length=m:=⟨_,rfl⟩;have g:qAI P q=cutz (divS P q m (m+1)):=by unfold qAI;rw[if_neg b,x]
  obtain⟨d,f,i,z,o,k,p⟩:=qHY (m:=m) hA hB hta (by omega) hn (htb hn) (by omega) (qB1 htq (by omega)) (m+1) (Nat.le_refl _)
  have v:¬B.length<=d.length:=λt=>by
   have y:=o (by omega);obtain⟨c,C,h⟩:=k;have l:=h (d.length - 1);rw[p (d.length - 1) (by omega),Rat.mul_zero]at l;exact y (by exact_mod_cast l)
  rw[qCu v f]at i;rw[g,<-i];exact k.of_getD λj=>qFH _ j

theorem qCU (l:List Rat):Scp (qAG l) l:=by
 unfold qAG;refine Scp.prim ⟨((denI l:Nat):Rat),Rat.natCast_pos.2 (qE4 l l.length),λj=>?_⟩
 by_cases b:j<l.length
 ·rw[List.getD_eq_getElem?_getD,List.getD_eq_getElem?_getD,List.getElem?_map,List.getElem?_eq_getElem b];exact qG5 (qFr (List.getElem_mem b))
 ·rw[qBB (by rw[List.length_map];exact b),qAq b,Rat.mul_zero]
  rfl
def derQ (p:List Rat):List Rat:=(List.range (p.length - 1)).map λj=>p.getD (j+1) 0*((j+1:Nat):Rat)
theorem qBs (p:List Rat):(derQ p).length =p.length - 1:=by unfold derQ;rw[List.length_map,List.length_range]
theorem qHZ (p:List Rat) (j:Nat):(derQ p).getD j 0=p.getD (j+1) 0*((j+1:Nat):Rat):=by
 by_cases b:j<p.length - 1
 ·unfold derQ;rw[List.getD_eq_getElem?_getD,List.getElem?_map,List.getElem?_range b]
  rfl
 ·rw[qAq (by rw[qBs];exact b),qAq (by omega),Rat.zero_mul]
theorem qK9 (p:List Int) (j:Nat):(derS p).getD j 0=p.getD (j+1) 0*((j+1:Nat):Int):=by
 by_cases b:j<p.length - 1
 ·unfold derS;rw[List.getD_eq_getElem?_getD,List.getElem?_map,List.getElem?_range b]
  rfl
 ·rw[qBB (by rw[qIO];exact b),qBB (by omega),Int.zero_mul]
theorem Scp.der {A:List Int} {r:List Rat} (h:Scp A r):Scp (derI A) (derQ r):=by
 obtain⟨c,b,h⟩:=h;unfold derI;refine Scp.prim ⟨c,b,λj=>?_⟩;rw[qK9,qHZ,Rat.intCast_mul,h (j+1),Rat.mul_assoc]
 rfl
theorem qC9 {p:List Rat} (h:qAD p=true):qAD (derQ p)=true:=by
 unfold qAD
 by_cases d:p.length<=1
 ·rw[decide_eq_true (by rw[qBs];omega)];rfl
 ·have c:=qB1 h (by omega)
  have e:(derQ p).getD ((derQ p).length - 1) 0≠0:=by
   rw[qHZ,qBs,show p.length - 1 - 1+1=p.length - 1 by omega];intro b
   rcases Rat.mul_eq_zero.1 b with h2|h2
   ·exact c h2
   ·have:(0:Rat)<((p.length - 1:Nat):Rat):=Rat.natCast_pos.2 (by omega);rw[h2]at this;exact absurd this (by decide)
  rw[decide_eq_false e];simp
theorem qCM {p:List Rat} (h:qAD p=true):gcdD p=gcdQ p (derQ p):=by
 have b:=qC9 h;have c:=(qCU p).der;have d:=c.sc.len (qBq _) b;have:=qIz (derI (qAG p)).length (qAG p) (derI (qAG p)) (qAL p) (qAL (derQ p)) ((qCi p).monic' h) (c.sc.monic' b) (qAc _) (qBq _) (qBE h) (qBE b) ((qCi p).ratios (qAc _) h) (c.sc.ratios (qBq _) b);unfold gcdD qBI gcdQ;rw[this,d]
def rabs (r:Rat):Rat:=if r<0 then -r else r
def qAJ (l:List Rat):List Rat:=l.map λr=>r / rabs (qAP l)
def negQ (l:List Rat):List Rat:=l.map λr=> -r
theorem qGA {r:Rat} (h:r≠0):0<rabs r:=by
 unfold rabs
 split
 ·rename_i h1;have:=Rat.neg_lt_neg h1;simpa using this
 ·rename_i h1;exact Rat.lt_of_le_of_ne (Rat.not_lt.1 h1) (Ne.symm h)
theorem qCV (l:List Rat):(qAJ l).length =l.length:=by unfold qAJ;rw[List.length_map]
theorem qF8 (r:List Rat) (j:Nat):(qAJ r).getD j 0=r.getD j 0 / rabs (qAP r):=by
 unfold qAJ;rw[List.getD_eq_getElem?_getD,List.getD_eq_getElem?_getD,List.getElem?_map]
 cases r[j]? with
 | none=>show(0:Rat)=0 / _;rw[qBm]
 | some x=>rfl
theorem qDj (l:List Rat):(negQ l).length =l.length:=by unfold negQ;rw[List.length_map]
theorem qH0 (r:List Rat) (j:Nat):(negQ r).getD j 0= - r.getD j 0:=by
 unfold negQ;rw[List.getD_eq_getElem?_getD,List.getD_eq_getElem?_getD,List.getElem?_map]
 cases r[j]? <;>simp
theorem qIU {l:List Rat} (h:l.length≠0->l.getD (l.length - 1) 0≠0):qAD l=true:=by
 unfold qAD
 by_cases b:l.length=0
 ·rw[decide_eq_true b];rfl
 ·rw[decide_eq_false (h b)];simp
theorem qD3 {l:List Rat} (h:qAD l=true):qAD (qAJ l)=true:=qIU λh0=>by
 rw[qCV]at h0 ⊢;rw[qF8];have hz:=qBD h h0;have hp:=Rat.ne_of_gt (qGA hz);unfold qAP at hz hp ⊢;intro h1;rw[Rat.div_def]at h1
 rcases Rat.mul_eq_zero.1 h1 with h2|h2
 ·exact hz h2
 ·exact hp (by rw[<-Rat.inv_inv (rabs _),h2];exact Rat.inv_zero)
theorem qGB {l:List Rat} (h:qAD l=true):qAD (negQ l)=true:=qIU λh0=>by
 rw[qDj]at h0 ⊢;rw[qH0];have hz:=qB1 h h0;intro h1;exact hz (by rw[<-Rat.neg_neg (l.getD _ 0),h1];rfl)
theorem Scp.scale {A:List Int} {r:List Rat} (h:Scp A r) (ht:qAD r=true):Scp A (qAJ r):=by
 by_cases f:r.length=0
 ·exact h.of_getD λj=>by rw[qAq (l:=qAJ r) (by rw[qCV];omega),qAq (by omega)]
 ·obtain⟨c,d,h⟩:=h;have b:=qGA (qBD ht f);refine⟨c*rabs (qAP r),Rat.mul_pos d b,λj=>?_⟩;rw[h j,qF8];have i:=Rat.ne_of_gt b;generalize rabs (qAP r)=g at i ⊢;generalize r.getD j 0=y;clear h b d
  grind
theorem Scp.neg {A:List Int} {r:List Rat} (h:Scp A r):Scp (negI A) (negQ r):=by
 obtain⟨c,b,h⟩:=h;exact⟨c,b,λj=>by rw[qHV,qH0,Rat.intCast_neg,h j,Rat.mul_neg]⟩
def chQ:Nat->List Rat->List Rat->List (List Rat)->List (List Rat)
 | 0,_,_,L=>L
 | f+1,a,q,L=>if q.length=0 then L else chQ f (qAJ q) (negQ (qAI a (qAJ q))) (L++[qAJ q])
def qBS (p:List Rat):List (List Rat):=chQ p.length p (derQ p) [p]
def ScAll (L:List (List Int)) (Q:List (List Rat)):Prop:=L.length=Q.length/\∀i (h1:i<L.length) (h2:i<Q.length),Scp L[i] Q[i]/\TopI L[i]/\qAD Q[i]=true/\L[i].length =Q[i].length /\Q[i].length ≠0
theorem ScAll.snoc {L:List (List Int)} {Q:List (List Rat)} {a:List Int} {q:List Rat} (h:ScAll L Q) (hs:Scp a q) (ta:TopI a) (tq:qAD q=true) (h0:q.length≠0):ScAll (L++[a]) (Q++[q]):=by
 obtain⟨b,f⟩:=h;refine⟨by simp[b],λi g j=>?_⟩
 by_cases c:i<L.length
 ·rw[List.getElem_append_left c,List.getElem_append_left (by omega)];exact f i c (by omega)
 ·have e:i=L.length:=by simp at g;omega
  subst e;simp only[List.getElem_append_right (Nat.le_refl _),Nat.sub_self,List.getElem_singleton];have d:(Q++[q])[L.length]'j=q:=by rw[List.getElem_append_right (by omega)];simp[b]
  rw[d];exact⟨hs,ta,tq,hs.sc.len ta tq,h0⟩
theorem qKa:∀(f:Nat) (a b:List Int) (u q:List Rat) (L:List (List Int)) (Q:List (List Rat)),Scp a u->Scp b q->TopI a->TopI b->qAD u=true->qAD q=true->ScAll L Q->ScAll (chF f a b L) (chQ f u q Q)
 | 0,_,_,_,_,L,Q,_,_,_,_,_,_,h=>h
 | f+1,a,b,u,q,L,Q,ha,hb,ta,tb,tu,tq,h=>by
  have hl:=hb.sc.len tb tq;unfold chF chQ
  by_cases h0:b.length=0
  ·rw[if_pos h0,if_pos (by omega)];exact h
  ·rw[if_neg h0,if_neg (by omega)];have hs:=hb.scale tq;have ts:=qD3 tq;have hsl:=qCV q;have hr:=qJf ha hs.sc ta tb tu ts h0;have tr:=qBZ (q:=qAJ q) tu;exact qKa f b (negI (qAY a b)) (qAJ q) (negQ (qAI u (qAJ q))) _ _ hs hr.neg tb (qIN (qBn ta)) ts (qGB tr) (h.snoc hs tb ts (by omega))
theorem qKb {p:List Rat} (h:qAD p=true) (h0:p.length≠0):ScAll (qCZ (qAG p)) (qBS p):=by
 have b:=qBr h;unfold qCZ qBS;rw[b]
 exact qKa _ _ _ _ _ _ _ (qCU p) (qCU p).der (qAc _) (qBq _) h (qC9 h) ⟨rfl,λi c d=>by
  have:i=0:=by simp at c;omega
  subst this
  exact⟨qCU p,qAc _,h,b,h0⟩⟩
noncomputable def qAW (p:List Rat):List Rat:=qAj p (gcdQ p (derQ p))
theorem qIh {p:List Rat} (h:qAD p=true) (h0:p.length≠0):qAD (qAW p)=true/\(qAW p).length ≠0:=by
 obtain⟨c,d⟩:=qC8 h h0;have b:=qGw h;unfold qAW;rw[<-qCM h];exact⟨qDH h d b c,by rw[qDQ b];omega⟩
theorem qEc {p:List Rat} (h:qAD p=true) (h0:p.length≠0):ScAll (qBR p) (qBS (qAW p)):=by
 obtain⟨b,c⟩:=qIh h h0;have e:qAj p (gcdD p)=qAW p:=by unfold qAW;rw[qCM h]
 unfold qBR;rw[e];exact qKb b c
end Go.Proofs.Ytcoajjdhkhgfdaa

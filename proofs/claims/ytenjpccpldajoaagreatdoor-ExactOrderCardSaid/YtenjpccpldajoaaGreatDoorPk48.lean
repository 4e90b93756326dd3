/- Roots: how large the program's chains are. Roots: there is room for the program's chains. -/
import Derived.Test.YtenjpccpldajoaaGreatDoorPk47
namespace Go.Proofs.YtenjpccpldajoaaGreatDoor
set_option maxRecDepth 100000
open Go.RowKit
set_option linter.unusedVariables false
theorem qKF {l:List Int} {m:Nat}:∀k,(∀j,j<k→m∣(l.getD j 0).natAbs)→m∣gcdK l k
 | 0,_=>Nat.dvd_zero m
 | k+1,h=>Nat.dvd_gcd (h k (Nat.lt_succ_self k)) (qKF k fun j hj=>h j (Nat.lt_succ_of_lt hj))
theorem qLp {l:List Int} {m:Nat} (h0:(qA7 l).length ≠0) (h:∀j,m∣((qA7 l).getD j 0).natAbs):m=1:=by
 have hl:(qA7 l).length =(qAI l).length :=by unfold qA7;rw[List.length_map]
 have hg:gcdI (qAI l)≠0:=qEO (List.getElem_mem (show 0<(qAI l).length by omega))
 have h1:m*gcdI (qAI l)∣gcdI (qAI l):=by
  have:=qKF (l:=qAI l) (m:=m*gcdI (qAI l)) (qAI l).length fun j hj=>by
   rw[qHc,qD0 l j,Int.natAbs_mul,Int.natAbs_natCast,Nat.mul_comm];exact Nat.mul_dvd_mul_left _ (h j)
  exact this
 obtain⟨q,hq⟩:=h1;have h2:gcdI (qAI l)*1=gcdI (qAI l)*(m*q):=by rw[Nat.mul_one,←Nat.mul_assoc,Nat.mul_comm (gcdI (qAI l)) m];exact hq
 have h3:=Nat.eq_of_mul_eq_mul_left (Nat.pos_of_ne_zero hg) h2;exact Nat.eq_one_of_dvd_one ⟨q,h3⟩
theorem qLq {A:List Int} {N:Nat→Int} {t:Rat} (hp:∀m:Nat,(∀j,m∣(A.getD j 0).natAbs)→m=1) (h:∀j,((N j:Int):Rat)=t*((A.getD j 0:Int):Rat)) (j:Nat) (ht:t≠0):(A.getD j 0).natAbs ≤(N j).natAbs :=by
 have hd:t.den=1:=hp t.den fun i=>by
  have h1:=h i;have hdr:((t.den:Int):Rat)≠0:=by have:=qAU t;exact_mod_cast (show(t.den:Int)≠0 by omega)
  have h2:((N i*(t.den:Int):Int):Rat)=((t.num*A.getD i 0:Int):Rat):=by
   rw[Rat.intCast_mul,Rat.intCast_mul,h1];have h3:t=((t.num:Int):Rat) / ((t.den:Int):Rat):=qCw t
   have h4:t*((t.den:Int):Rat)=((t.num:Int):Rat):=by
    conv=>lhs;arg 1;rw[h3]
    rw[Rat.div_def,Rat.mul_assoc,Rat.inv_mul_cancel _ hdr,Rat.mul_one]
   rw[←h4];generalize ((t.den:Int):Rat)=d;generalize ((A.getD i 0:Int):Rat)=a;clear h1 h3 h4 h hp
   grind
  have h5:N i*(t.den:Int)=t.num*A.getD i 0:=by exact_mod_cast h2
  have h6:t.den∣t.num.natAbs*(A.getD i 0).natAbs :=by
   rw[←Int.natAbs_mul,←h5,Int.natAbs_mul,Int.natAbs_natCast];exact Nat.dvd_mul_left _ _
  exact(Nat.Coprime.dvd_of_dvd_mul_left (Nat.Coprime.symm t.reduced) h6)
 have ht2:t=((t.num:Int):Rat):=by
  have:=qCw t;rw[hd]at this;rw[this,Rat.div_def];show _=((((t.num:Int):Rat) / _:Rat).num :Rat);rw[←this];generalize ((t.num:Int):Rat)=x;show x*(1:Rat)⁻¹ =x
  grind
 have h7:=h j;rw[ht2,←Rat.intCast_mul]at h7;have h8:N j=t.num*A.getD j 0:=by exact_mod_cast h7
 rw[h8,Int.natAbs_mul];have h9:t.num≠0:=fun h0=>ht (Rat.num_eq_zero.1 h0);exact Nat.le_mul_of_pos_left _ (Int.natAbs_pos.2 h9)
def GLd (D n:Nat) (l:List Rat):Prop:=∀r∈l,∃N:Int,r=(N:Rat) / (D:Rat)∧N.natAbs<B9^n
theorem qNL {n:Nat} {l:List Rat} (h:GL n l) (ht:qAZ l=true):∀z∈qAG l,Isz z n:=by
 obtain⟨D,d1,d2,d3⟩:=h;obtain⟨c,hc,hs⟩:=qFY l;have hDp:(0:Rat)<(D:Rat):=Rat.natCast_pos.2 d1;have hDr:(D:Rat)≠0:=Rat.ne_of_gt hDp;have hN:∀j,∃N:Int,l.getD j 0=(N:Rat) / (D:Rat)∧N.natAbs<B9^n:=fun j=>GL.getD d3 j;obtain⟨N,hN⟩:∃N:Nat→Int,∀j,l.getD j 0=(N j:Rat) / (D:Rat)∧(N j).natAbs <B9^n:=⟨fun j=>(hN j).choose,fun j=>(hN j).choose_spec⟩;intro z hz;obtain⟨j,hj,rfl⟩:=qNs hz;have hcn:=Rat.ne_of_gt hc
 have h1:∀i,((N i:Int):Rat)=((D:Rat) / c)*(((qAG l).getD i 0:Int):Rat):=fun i=>by
  rw[hs i,(hN i).1];generalize ((N i:Int):Rat)=x;generalize (D:Rat)=d at hDr;clear hs hN d3 hDp hc
  grind
 have h2:=qLq (A:=qAG l) (N:=N) (fun m hm=>by unfold qAG at hm hj;exact qLp (by omega) hm) h1 j (Rat.ne_of_gt (qKD hDp hc));exact qAb (Nat.lt_of_le_of_lt h2 (hN j).2)
theorem GLd.sub {D E n k:Nat} {P q:List Rat} (hP:GLd D n P) (d1:0<D) (e1:0<E) (hq:GLd E k q) {Qt:Int} {t1 t2:Nat} (qt1:q.getD t2 0=(Qt:Rat) / (E:Rat)) (qt2:Qt.natAbs<B9^k) (hQ0:Qt≠0) (i k':Nat):GLd (D*Qt.natAbs) (n+k+1) (subK P q i (P.getD t1 0 / q.getD t2 0) k'):=by
 obtain⟨Nt,nt1,nt2⟩:=GL.getD hP t1;have hE:(E:Rat)≠0:=by exact_mod_cast Nat.ne_of_gt e1
 have hD:(D:Rat)≠0:=by exact_mod_cast Nat.ne_of_gt d1
 have hQr:(Qt:Rat)≠0:=by exact_mod_cast hQ0
 obtain⟨sg9,hs1,hs2⟩:∃s:Int,(s=1∨s= -1)∧(Qt.natAbs:Int)=s*Qt:=by
  rcases Int.natAbs_eq Qt with h|h
  ·exact⟨1,.inl rfl,by omega⟩
  ·exact⟨-1,.inr rfl,by omega⟩
 have hsr:((Qt.natAbs:Nat):Rat)=(sg9:Rat)*(Qt:Rat):=by
  rw[←Rat.intCast_mul,←hs2];rfl
 have hb:∀N:Int,(sg9*N).natAbs =N.natAbs:=fun N=>by rcases hs1 with rfl|rfl<;>simp
 have hlt2:B9^(n+k)*2≤B9^(n+k+1):=by rw[Nat.pow_succ];exact Nat.mul_le_mul_left _ (by rw[qAO];decide)
 intro r hr;simp only[subK,List.mem_map,List.mem_range]at hr;obtain⟨j,hj,rfl⟩:=hr;obtain⟨Nj,nj1,nj2⟩:=GL.getD hP j;obtain⟨Qk,qk1,qk2⟩:=GL.getD hq (j - i);have eD:((D*Qt.natAbs:Nat):Rat)=(D:Rat)*((sg9:Rat)*(Qt:Rat)):=by rw[Rat.natCast_mul,hsr]
 have hs0:(sg9:Rat)≠0:=by rcases hs1 with rfl|rfl<;>decide+kernel
 have b1:=qBm nj2 qt2;have b2:=qBm nt2 qk2
 split
 ·refine⟨sg9*(Nj*Qt - Nt*Qk),?_,?_⟩
  ·rw[nj1,nt1,qt1,qk1,eD]
   have e5:((sg9*(Nj*Qt - Nt*Qk):Int):Rat)=(sg9:Rat)*((Nj:Rat)*(Qt:Rat) - (Nt:Rat)*(Qk:Rat)):=by
    rw[Rat.intCast_mul,Rat.intCast_sub,Rat.intCast_mul,Rat.intCast_mul]
   rw[e5];exact fe1 _ _ _ _ _ _ _ hD hQr hE hs0
  ·rw[hb];omega
 ·refine⟨sg9*(Nj*Qt),?_,?_⟩
  ·rw[nj1,eD]
   have e5:((sg9*(Nj*Qt):Int):Rat)=(sg9:Rat)*((Nj:Rat)*(Qt:Rat)):=by
    rw[Rat.intCast_mul,Rat.intCast_mul]
   rw[e5];exact fe2 _ _ _ _ hD hQr hs0
  ·rw[hb];omega
theorem qKG {D E n k:Nat} {P q:List Rat} (hP:GLd D n P) (d1:0<D) (e1:0<E) (hq:GLd E k q) {Qt:Int} (qt1:q.getD (q.length - 1) 0=(Qt:Rat) / (E:Rat)) (qt2:Qt.natAbs<B9^k) (hQ0:Qt≠0) (m:Nat):∀s,GLd (D*Qt.natAbs^s) (n+s*(k+1)) (divS P q m s)
 | 0=>by simpa[divS]using hP
 | s+1=>by
  have ih:=qKG hP d1 e1 hq qt1 qt2 hQ0 m s;have hp:0<D*Qt.natAbs^s:=Nat.mul_pos d1 (Nat.pow_pos (Int.natAbs_pos.2 hQ0));have:=GLd.sub ih hp e1 hq (t1:=m - s+q.length - 1) qt1 qt2 hQ0 (m - s) q.length;rw[Nat.pow_succ,←Nat.mul_assoc,show n+(s+1)*(k+1)=n+s*(k+1)+k+1 by rw[Nat.add_mul];omega];exact this
theorem fe6 (u D s N Q E w:Rat) (hD:D≠0) (hQ:Q≠0) (hE:E≠0) (hs0:s≠0) (hu:u≠0) (hw:w≠0):N / (D*u) / (Q / E)=(s*N*E*w) / (D*(u*(s*Q)*w)):=by grind
theorem qON {n k:Nat} {P q:List Rat} (hP:GL n P) (hq:GL k q) (h0:q.getD (q.length - 1) 0≠0) (hl:q.length≤P.length):GL (n+(P.length - q.length+1)*(k+1)) (qBS P q):=by
 obtain⟨D,d1,d2,d3⟩:=hP;obtain⟨E,e1,e2,e3⟩:=hq;obtain⟨Qt,qt1,qt2⟩:=GL.getD e3 (q.length - 1);have hE:(E:Rat)≠0:=by exact_mod_cast Nat.ne_of_gt e1
 have hD:(D:Rat)≠0:=by exact_mod_cast Nat.ne_of_gt d1
 have hQ0:Qt≠0:=fun h=>h0 (by rw[qt1,h,Rat.intCast_zero,qDJ]);have hQr:(Qt:Rat)≠0:=by exact_mod_cast hQ0
 have hup:0<Qt.natAbs:=Int.natAbs_pos.2 hQ0;obtain⟨m,hm⟩:∃m,P.length - q.length=m:=⟨_,rfl⟩
 obtain⟨sg9,hs1,hs2⟩:∃s:Int,(s=1∨s= -1)∧(Qt.natAbs:Int)=s*Qt:=by
  rcases Int.natAbs_eq Qt with h|h
  ·exact⟨1,.inl rfl,by omega⟩
  ·exact⟨-1,.inr rfl,by omega⟩
 have hsr:((Qt.natAbs:Nat):Rat)=(sg9:Rat)*(Qt:Rat):=by
  rw[←Rat.intCast_mul,←hs2];rfl
 have hb:∀N:Int,(sg9*N).natAbs =N.natAbs:=fun N=>by rcases hs1 with rfl|rfl<;>simp
 have hs0:(sg9:Rat)≠0:=by rcases hs1 with rfl|rfl<;>decide+kernel
 have hpw:∀s,Qt.natAbs^s≤B9^(k*s):=fun s=>by rw[Nat.pow_mul];exact Nat.pow_le_pow_left (Nat.le_of_lt qt2) s
 rw[hm];refine⟨D*Qt.natAbs^(m+1),Nat.mul_pos d1 (Nat.pow_pos hup),?_,fun r hr=>?_⟩
 ·have h1:=hpw (m+1)
  have h2:D*Qt.natAbs^(m+1)<B9^n*B9^(k*(m+1)):=by
   refine Nat.lt_of_lt_of_le (Nat.mul_lt_mul_of_pos_right d2 (Nat.pow_pos hup)) (Nat.mul_le_mul_left _ h1)
  rw[←Nat.pow_add]at h2;refine Nat.lt_of_lt_of_le h2 (qDe ?_);rw[Nat.mul_add (m+1) k 1,Nat.mul_comm (m+1) k];omega
 ·unfold qBS at hr;rw[if_neg (by omega),List.mem_map,hm]at hr;obtain⟨j,hj,rfl⟩:=hr;rw[List.mem_range]at hj;obtain⟨s,hs⟩:∃s,m - j=s:=⟨_,rfl⟩;rw[hs];have hg:=qKG (P:=P) (q:=q) d3 d1 e1 e3 qt1 qt2 hQ0 m s;obtain⟨N,n1,n2⟩:=GL.getD hg (j+q.length - 1);unfold divC;rw[n1,qt1];refine⟨sg9*N*(E:Int)*((Qt.natAbs^(m - s):Nat):Int),?_,?_⟩
  ·have e9:Qt.natAbs^(m+1)=Qt.natAbs^s*Qt.natAbs*Qt.natAbs^(m - s):=by
    rw[←Nat.pow_succ,←Nat.pow_add,show s+1+(m - s)=m+1 by omega]
   have hu:((Qt.natAbs^s:Nat):Rat)≠0:=Rat.ne_of_gt (Rat.natCast_pos.2 (Nat.pow_pos hup));have hw:((Qt.natAbs^(m - s):Nat):Rat)≠0:=Rat.ne_of_gt (Rat.natCast_pos.2 (Nat.pow_pos hup));rw[e9,Rat.natCast_mul,Rat.natCast_mul,Rat.natCast_mul,Rat.natCast_mul,hsr,Rat.intCast_mul,Rat.intCast_mul,Rat.intCast_mul];exact fe6 _ _ _ _ _ _ _ hD hQr hE hs0 hu hw
  ·rw[Int.natAbs_mul,Int.natAbs_mul,hb,Int.natAbs_natCast,Int.natAbs_natCast];have h1:=hpw (m - s);have h2:N.natAbs*E<B9^(n+s*(k+1))*B9^k:=Nat.mul_lt_mul'' n2 e2
   have h3:N.natAbs*E*Qt.natAbs^(m - s)<B9^(n+s*(k+1))*B9^k*B9^(k*(m - s)):=
    Nat.lt_of_lt_of_le (Nat.mul_lt_mul_of_pos_right h2 (Nat.pow_pos hup)) (Nat.mul_le_mul_left _ h1)
   rw[←Nat.pow_add,←Nat.pow_add]at h3;refine Nat.lt_of_lt_of_le h3 (qDe ?_);have e1:k*(m - s)+s*k=m*k:=by rw[Nat.mul_comm s k,←Nat.mul_add,show m - s+s=m by omega,Nat.mul_comm]
   rw[Nat.mul_add s k 1,Nat.mul_add (m+1) k 1,Nat.add_mul m 1 k];omega
def gB (tab:Nat→Nat):Nat→Nat→Nat→Nat→Nat→Bool
 | 0,la,_,Ma,_=>decide (Ma≤tab la)
 | f+1,la,lb,Ma,Mb=>if lb=0 then decide (Ma≤tab la)else(List.range lb).all fun r=>gB tab f lb r Mb (Ma+(la+1 - lb)*(Mb+1))
theorem qOY {tab:Nat→Nat}:∀(f:Nat) (p q:List Rat) (Ma Mb:Nat),GL Ma p→GL Mb q→qAZ p=true→qAZ q=true→q.length≤f→gB tab f p.length q.length Ma Mb=true→GL (tab (qCT f p q).length) (qCT f p q)∧((qCT f p q).length =p.length∧q.length=0∨(qCT f p q).length ≤q.length∧q.length≠0)
 | 0,p,q,Ma,Mb,hp,hq,tp,tq,hf,h=>by
  unfold gB at h;have e:qCT 0 p q=p:=rfl;rw[e];exact⟨hp.up (by simpa using h),.inl ⟨rfl,by omega⟩⟩
 | f+1,p,q,Ma,Mb,hp,hq,tp,tq,hf,h=>by
  unfold gB at h
  by_cases h0:q.length=0
  ·rw[if_pos h0]at h;have e:qCT (f+1) p q=p:=by unfold qCT;rw[if_pos h0]
   rw[e];exact⟨hp.up (by simpa using h),.inl ⟨rfl,h0⟩⟩
  ·rw[if_neg h0]at h;have e:qCT (f+1) p q=qCT f q (qAk (qBH p q)):=by rw[qCT,if_neg h0]
   rw[e];have hl:=qOL tp tq h0;have hr:=qEp (q:=q) tp;have hml:=qCo (qBH p q);have hg:=qOK hp hq (qE1 tq h0)
   have hgm:GL (Ma+(p.length+1 - q.length)*(Mb+1)) (qAk (qBH p q)):=by
    by_cases hz:(qBH p q).length =0
    ·have:qBH p q=[]:=List.eq_nil_of_length_eq_zero hz;rw[this]at hg ⊢;exact hg
    ·exact hg.monic (qE5 hr hz)
   have h1:=List.all_eq_true.1 h (qBH p q).length (List.mem_range.2 hl);rw[←hml]at h1;obtain⟨g1,g2⟩:=qOY f q (qAk (qBH p q)) Mb _ hq hgm tq (qCE hr) (by omega) h1;exact⟨g1,.inr ⟨by omega,h0⟩⟩
def chB:Nat→Nat→Nat→Nat→Nat→Bool
 | 0,_,_,_,_=>true
 | f+1,la,lb,Ma,Mb=>decide (lb=0)||(decide (max Ma Mb+(la+1 - lb)*(max Ma Mb+1)≤4000000)&&(List.range lb).all fun r=>chB f lb r Mb (Ma+(la+1 - lb)*(Mb+1)))
theorem qNM:∀(f:Nat) (a b:List Int) (Ma Mb:Nat),(∀x∈a,Isz x Ma)→(∀x∈b,Isz x Mb)→chB f a.length b.length Ma Mb=true→ChRoom f a b
 | 0,a,b,_,_,_,_,_=> .zero a b
 | f+1,a,b,Ma,Mb,ha,hb,h=>by
  unfold chB at h
  by_cases h0:b.length=0
  ·exact .fin f a b h0
  ·rw[decide_eq_false h0,Bool.false_or,Bool.and_eq_true]at h;obtain⟨h1,h2⟩:=h;have hl:=qCA (a:=a) h0;have hs:=qGv hb h0 a.length a Ma ha;have h3:=List.all_eq_true.1 h2 (qA3 a b).length (List.mem_range.2 hl);rw[←qFT (qA3 a b)]at h3;exact .step f a b (max Ma Mb) (fun x hx=>(ha x hx).up (by omega)) (fun x hx=>(hb x hx).up (by omega)) (by simpa using h1) (qNM f b (negI (qA3 a b)) Mb _ hb (qOo hs) h3)
def tabG:Nat→Nat
 | 1=>4470
 | 2=>1851
 | 3=>766
 | 4=>317
 | 5=>130
 | 6=>55
 | _=>18
theorem qP2:∀n,n<9→2≤n→gB tabG (n - 1) n (n - 1) 17 18=true:=by decide+kernel
def tabQ (g:Nat):Nat:=if g=1 then 1 else tabG g
def qB (n g:Nat):Nat:=17+(n - g+1)*(tabQ g+1)
theorem qPC:∀n,n<9→∀g,g<n→1≤g→chB (n - g+1) (n - g+1) (n - g) (qB n g) (qB n g+1)=true:=by decide+kernel
theorem qP3:∀n,n<9→∀g,g<n→1≤g→70*qB n g≤4000000∧qB n g+(n - g+2)*(tabQ g+1)≤400000∧tabQ g≤400000:=by decide+kernel
theorem qPD {n:Nat} {l:List Rat} (h:GL n l) (hl:l.length≤1000):GL (n+1) (derQ l):=by
 obtain⟨D,d1,d2,d3⟩:=h;have hB:B9^(n+1)=B9^n*B9:=Nat.pow_succ _ _;have hb:=qAO;refine⟨D,d1,Nat.lt_of_lt_of_le d2 (qDe (by omega)),fun r hr=>?_⟩;unfold derQ at hr;rw[List.mem_map]at hr;obtain⟨j,hj,rfl⟩:=hr;rw[List.mem_range]at hj;obtain⟨N,e,hN⟩:=GL.getD d3 (j+1);refine⟨N*((j+1:Nat):Int),?_,?_⟩
 ·rw[e,Rat.intCast_mul];show _=((N:Rat)*(((j+1:Nat):Int):Rat)) / (D:Rat);rw[Rat.div_def,Rat.div_def,Rat.mul_assoc,Rat.mul_assoc,Rat.mul_comm (D:Rat)⁻¹]
  rfl
 ·rw[Int.natAbs_mul,Int.natAbs_natCast,hB];exact Nat.mul_lt_mul'' hN (by rw[hb];omega)
theorem qKz {p:List Int} {M:Nat} (h:∀x∈p,Isz x M) (hl:p.length≤1000):∀x∈derI p,Isz x (M+1):=by
 unfold derI;refine qFP fun x hx=>?_;unfold derS at hx;rw[List.mem_map]at hx;obtain⟨j,hj,rfl⟩:=hx;rw[List.mem_range]at hj;have h2:Isz ((j+1:Nat):Int) 1:=by unfold Isz;rw[Int.natAbs_natCast];exact qFS (by omega)
 exact qBn (qDg h (j+1)) h2
theorem qOO {p:List Rat} (ht:qAZ p=true) (h0:p.length≠0) (h1:(gcdD p).length =1):gcdD p=[1]:=by
 have hl:=qCp ht;have hs1:(qAt (qAG p) (derI (qAG p))).length ≠0:=qEr _ _ _ (by omega) (Nat.le_refl _);have hs2:TopI (qAt (qAG p) (derI (qAG p))):=qEs _ _ _ (qAn _) (qCf _);have:=qFr hs2 hs1;change (gcdD p).getD ((gcdD p).length - 1) 0=1 at this;rw[h1]at this
 match hg:gcdD p,h1 with
 | [x],_=>rw[hg]at this;have e:x=1:=this;rw[e]
theorem qK3 {x:List Rat} (ht:qAZ x=true) (h2:2≤x.length) (h8:x.length≤8) (hs:∀r∈x,Rsz r 2):
  GL 17 x∧GL (tabQ (gcdD x).length) (gcdD x)∧1≤(gcdD x).length ∧(gcdD x).length <x.length:=by
 have hgl:GL 17 x:=(GL.of x hs).up (by omega);have hd:=qGz ht;have hdl:=qE6 x;have hml:=qCo x;have hml2:=qCo (derQ x);have hg1:=qP2 x.length (by omega) h2;have hm1:GL 17 (qAk x):=hgl.monic (qE5 ht (by omega));have hm2:GL 18 (qAk (derQ x)):=(qPD hgl (by omega)).monic (qE5 hd (by omega));obtain⟨g1,g2⟩:=qOY (tab:=tabG) (derQ x).length (qAk x) (qAk (derQ x)) 17 18 hm1 hm2 (qCE ht) (qCE hd) (by omega) (by rw[hml,hml2,hdl];exact hg1);have e:gcdD x=qCT (derQ x).length (qAk x) (qAk (derQ x)):=qOM ht;rw[←e]at g1 g2;have hp:=(qFU ht (by omega)).1;refine⟨hgl,?_,by omega,?_⟩
 ·unfold tabQ
  by_cases h1:(gcdD x).length =1
  ·rw[if_pos h1,qOO ht (by omega) h1];refine⟨1,by decide,by rw[qAO];decide,fun r hr=>⟨1,?_,by rw[qAO];decide⟩⟩
   obtain rfl:r=1:=by simpa using hr
   decide+kernel
  ·rw[if_neg h1];exact g1
 ·rcases g2 with⟨-,g2⟩| ⟨g2,-⟩<;>omega
theorem qLr {x:List Rat} (ht:qAZ x=true) (h2:2≤x.length) (h8:x.length≤8) (hs:∀r∈x,Rsz r 2):ChainOk x:=by
 obtain⟨c1,c2,c3,c4⟩:=qK3 ht h2 h8 hs;obtain⟨g1,g2⟩:=qFU ht (by omega);obtain⟨b1,b2,b3⟩:=qP3 x.length (by omega) (gcdD x).length c4 c3;have hch:=qPC x.length (by omega) (gcdD x).length c4 c3;have hpz:=qFy h8 hs;have hql:=qFs (p:=x) (g:=gcdD x) (by omega);have hqt:=qG3 ht g2 (by omega) g1;have hq:=qON c1 c2 g2 (by omega);have hpl:=qNL hq hqt;have hqn:=qCp hqt;have hdn:=(qFY (qBS x (gcdD x))).der.sc.len (qCf _) (qGz hqt);rw[qE6]at hdn;have hqb:qB x.length (gcdD x).length =17+(x.length - (gcdD x).length +1)*(tabQ (gcdD x).length +1):=rfl;refine⟨by omega,by omega,ht,fun r hr=>qDC (hs r hr) (by decide),⟨20,fun z hz=>(hpz z hz).up (by decide),qKz hpz (by have:=qCS x;omega),?_⟩,fun r hr=>qDC (c2.sz r hr) (by omega),?_,⟨qB x.length (gcdD x).length,by omega,b1,fun r hr=>qDC (hq.sz r hr) (by omega)⟩,?_⟩
 ·have h1:=qCS x;have h4:=qDE (qAG x);have h3:=qOX (qAG x).length (by omega) (derI (qAG x)).length (by omega);unfold Room;rw[←Nat.mul_assoc];exact Nat.le_trans (Nat.mul_le_mul_right _ h3) (by decide)
 ·intro s hs9 r hr;have h1:=(qIJ c1 c2 g2 (x.length - (gcdD x).length) s).sz r hr;have h3:=Nat.mul_le_mul_right (tabQ (gcdD x).length +1) hs9;exact qDC h1 (by omega)
 ·refine qNM _ _ _ (qB x.length (gcdD x).length) (qB x.length (gcdD x).length +1) (fun z hz=>(hpl z hz).up (by omega)) (qKz (fun z hz=>(hpl z hz).up (by omega)) (by omega)) ?_;rw[hqn,hdn,hql,Nat.add_sub_cancel];exact hch
theorem qFz {l:List FracA} (hg:qDM l 8 2=false):qEB l:=fun x hx h2=>by
 obtain⟨h8,hs⟩:=qFZ hg hx;exact qLr (qCD hx).2.2 h2 h8 hs
end Go.Proofs.YtenjpccpldajoaaGreatDoor

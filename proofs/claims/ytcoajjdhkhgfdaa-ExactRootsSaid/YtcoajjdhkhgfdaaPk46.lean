/- Roots, plain law: signs and their changes. Polynomials that are not great: how large they are. Roots: how large the program's chains are. -/
import Derived.Test.YtcoajjdhkhgfdaaPk45
namespace Go.Proofs.Ytcoajjdhkhgfdaa
set_option maxRecDepth 100000
open Go.RowKit Go.Shelf
set_option linter.unusedVariables false
theorem qLp (x:Rat):x<0∨x=0∨0<x:=by
 by_cases h:x<0
 ·exact .inl h
 ·by_cases b:x=0
  ·exact .inr (.inl b)
  ·exact .inr (.inr (Rat.lt_of_le_of_ne (Rat.not_lt.1 h) (Ne.symm b)))
theorem qGC {x:Rat} (h:0<x):rsgn x=1:=by
 unfold rsgn;have c:0<=x.num:=Rat.num_nonneg.2 (Rat.le_of_lt h);have d:x.num≠0:=λb=>(Rat.ne_of_gt h) (Rat.num_eq_zero.1 b);exact Int.sign_eq_one_of_pos (by omega)
theorem qFL {x:Rat} (h:x<0):rsgn x= -1:=by
 unfold rsgn;have b:¬0<=x.num:=λb=>absurd (Rat.num_nonneg.1 b) (Rat.not_le.2 h);exact Int.sign_eq_neg_one_of_neg (by omega)
theorem qEd {c x:Rat} (h:0<c):rsgn (c*x)=rsgn x:=by
 rcases qLp x with h1|h1|h1
 ·rw[qFL h1,qFL ((Rat.mul_neg_iff_of_pos_left h).2 h1)]
 ·rw[h1,Rat.mul_zero]
 ·rw[qGC h1,qGC (Rat.mul_pos h h1)]
theorem qIV (z:Int):rsgn (z:Rat)=z.sign:=by
 unfold rsgn
 rfl
theorem qGy (r:Rat): -1<=rsgn r/\rsgn r<=1:=qEK _
theorem Scp.sign {A:List Int} {r:List Rat} (h:Scp A r) (j:Nat):(A.getD j 0).sign =rsgn (r.getD j 0):=by
 obtain⟨c,b,h⟩:=h;rw[<-qIV,h j,qEd b]
def begS (low:Bool) (r:List Rat):Int:=if (low&&decide (r.length%2=0))=true then - rsgn (qAP r)else rsgn (qAP r)
theorem qIW {A:List Int} {r:List Rat} (h:Scp A r) (hl:A.length=r.length):qC3 A=begS false r:=by
 unfold qC3 begS qAC qAP;rw[h.sign,hl]
 rfl
theorem qLq {A:List Int} {r:List Rat} (h:Scp A r) (hl:A.length=r.length):lowS A=begS true r:=by
 have c:=qIW h hl;unfold begS at c;simp only[Bool.false_and,Bool.false_eq_true,if_false]at c;unfold lowS begS;rw[c,hl]
 by_cases b:r.length%2=0
 ·rw[if_pos b,if_pos (by simp[b])]
 ·rw[if_neg b,if_neg (by simp[b])]
theorem qGD {A:List Int} {r:List Rat} {c:Rat} {num den:Int} (hd:den≠0) (hl:A.length=r.length) (h:∀j,((A.getD j 0:Int):Rat)=c*r.getD j 0):∀k,((qBV A num den k:Int):Rat)*(den:Rat)=c*((den^k:Int):Rat)*valK r ((num:Rat) / (den:Rat)) k
 | 0=>by
  unfold qBV valK;rw[Rat.mul_zero];show(0:Rat)*_=0;rw[Rat.zero_mul]
 | k+1=>by
  have ih:=qGD hd hl h k (num:=num);have hdr:(den:Rat)≠0:=by exact_mod_cast hd
  unfold qBV valK;rw[Rat.intCast_add,Rat.intCast_mul,Rat.intCast_mul,h (A.length - 1 - k),hl,Int.pow_succ,Rat.intCast_mul];generalize ((qBV A num den k:Int):Rat)=H at ih ⊢;generalize ((den^k:Int):Rat)=P at ih ⊢;generalize valK r ((num:Rat) / (den:Rat)) k=v at ih ⊢;generalize r.getD (r.length - 1 - k) 0=y;generalize (den:Rat)=d at ih hdr ⊢;generalize (num:Rat)=n at ih ⊢;clear h
  grind
theorem qLV {A:List Int} {r:List Rat} (x:Rat) (h:Scp A r) (hl:A.length=r.length):qDq x A=rsgn (valL r x):=by
 obtain⟨c,i,h⟩:=h;have b:(0:Int)<(x.den:Int):=by have:=qA3 x;omega
 have d:(0:Rat)<((x.den:Int):Rat):=Rat.intCast_pos.2 b;have f:=qGD (num:=x.num) (den:=(x.den:Int)) (by omega) hl h A.length;have k:((x.num:Int):Rat) / ((x.den:Int):Rat)=x:=(qCB x).symm;rw[k]at f;have j:(0:Rat)<(((x.den:Int)^A.length:Int):Rat):=Rat.intCast_pos.2 (Int.pow_pos b)
 have g:rsgn (((qBV A x.num (x.den:Int) A.length:Int):Rat))=rsgn (valK r x A.length):=by
  rw[<-qEd (c:=((x.den:Int):Rat)) d,Rat.mul_comm,f,qEd (Rat.mul_pos i j)]
 rw[qIV]at g;unfold qDq;rw[g,hl]
 rfl
def chgR (ss:List Int):Nat->Nat×Int
 | 0=>(0,0)
 | k+1=>let p:=chgR ss k;let s:=ss.getD k 0;if s=0 then p else(if p.2≠0/\s≠p.2 then p.1+1 else p.1,s)
theorem qJB {ss:List Int} (h:∀s∈ss,-1<=s/\s<=1):∀k,chgR ss k=chgK ss k
 | 0=>rfl
 | k+1=>by
  have ih:=qJB h k;have hl:=qFx h k
  have hs: -1<=ss.getD k 0/\ss.getD k 0<=1:=by
   rw[List.getD_eq_getElem?_getD]
   cases e:ss[k]? with
   | none=>decide
   | some s=>exact h s (List.mem_of_getElem? e)
  unfold chgR chgK;rw[ih];generalize chgK ss k=p at hl;obtain⟨n,l⟩:=p;dsimp only at hl ⊢;generalize ss.getD k 0=s at hs ⊢;obtain⟨d,f⟩:=hs;obtain⟨b,c⟩:=hl
  rcases(by omega:s= -1∨s=0∨s=1)with rfl|rfl|rfl<;>rcases(by omega:l= -1∨l=0∨l=1)with rfl|rfl|rfl<;>simp
def qDr (ss:List Int):Nat:=(chgR ss ss.length).1
theorem qGE {ss:List Int} (h:∀s∈ss,-1<=s/\s<=1):qDr ss=chgN ss:=by
 unfold qDr chgN;rw[qJB h]
theorem ScAll.map {L:List (List Int)} {Q:List (List Rat)} {f:List Int->Int} {g:List Rat->Int} (h:ScAll L Q) (hf:∀A r,Scp A r->A.length=r.length->f A=g r):L.map f=Q.map g:=by
 obtain⟨b,c⟩:=h;refine List.ext_getElem (by simp[b]) λi d j=>?_;rw[List.getElem_map,List.getElem_map];have:=c i (by simpa using d) (by simpa using j);exact hf _ _ this.1 this.2.2.2.1
theorem qLr (b:Bool) (r:List Rat): -1<=begS b r/\begS b r<=1:=by
 have:=qGy (qAP r);unfold begS
 split<;>omega
def bey (low:Bool) (Q:List (List Rat)):Int:=(qDr (Q.map (begS low)):Int)
def atQ (x:Rat) (Q:List (List Rat)):Int:=(qDr (Q.map λr=>rsgn (valL r x)):Int)
theorem qME {L:List (List Int)} {Q:List (List Rat)} (h:ScAll L Q):bey true Q=cntL L/\bey false Q=cntH L:=by
 unfold bey cntL cntH;rw[h.map (g:=begS true) (λA r c d=>qLq c d),h.map (g:=begS false) (λA r c d=>qIW c d)]
 have f:∀b,∀s∈Q.map (begS b),-1<=s/\s<=1:=λb s i=>by
  rw[List.mem_map]at i;obtain⟨r,-,rfl⟩:=i;exact qLr b r
 rw[qGE (f true),qGE (f false)];exact⟨rfl,rfl⟩
theorem qKc {L:List (List Int)} {Q:List (List Rat)} (h:ScAll L Q) (x:Rat):atQ x Q=cntA x L:=by
 unfold atQ cntA;rw[h.map (g:=λr=>rsgn (valL r x)) (λA r c d=>qLV x c d)]
 rw[qGE λs b=>by
  rw[List.mem_map]at b;obtain⟨r,-,rfl⟩:=b
  exact qGy _]
set_option linter.unusedSimpArgs false
theorem qH1 {x:FracA} {r:Rat} (h:inE x= .ok r) (hg:qAg x 2=false):Rsz r 2:=by
 have b:=qKO h;unfold inE at h
 cases hr:x.rat? with
 | none=>rw[hr]at h;cases h
 | some r'=>
  rw[hr]at h;injection h with h;subst h;have c:=FracA.val hr;unfold Rsz at b ⊢;rw[c.num,c.den]at b ⊢;unfold qAg bigB at hg;simp at hg;omega
theorem qJg {l:List FracA} (h:qBk l 8 2=false):(l.length<=8∨l.length=66)/\∀x∈l,qAg x 2=false:=by
 unfold qBk at h;rw[Bool.or_eq_false_iff]at h;refine⟨?_,λx c=>by have:=List.any_eq_false.1 h.2 x c;simpa using this⟩;have b:=h.1;simp at b;omega
theorem qGb {l:List FracA} {xs:List Rat} (hg:qBk l 8 2=false) (h:qA7 l= .ok xs):xs.length<=8/\∀r∈xs,Rsz r 2:=by
 obtain⟨g,b⟩:=qJg hg;have i:=(qBA h).1;unfold qA7 at h
 split at h
 ·cases h
 ·cases hm:mapE inE l with
  | error z=>rw[hm]at h;cases h
  | ok rs=>
   rw[hm]at h;dsimp only at h
   split at h
   ·injection h with h;subst h;have j:=qDF hm;refine⟨by omega,λr d=>?_⟩;obtain⟨x,f,c⟩:=qFn hm r d;exact qH1 c (b x f)
   ·cases h
theorem qMS:∀p,p<9->∀q,q<9->(max p q - min p q+2)*3^min p q<=13122:=by decide
theorem qKd {xs:List Rat} (h8:xs.length<=8) (hs:∀r∈xs,Rsz r 2):∀z∈qAG xs,Isz z 19:=by
 unfold qAG;refine qE5 λz b=>?_;rw[List.mem_map]at b;obtain⟨r,c,rfl⟩:=b;have d:=qFV hs (by decide) xs.length;exact(qFA (hs r c) (N:=17) (by unfold denI;omega)).up (by decide)
open Go.RowKit
theorem qIX {l:List Int} {m:Nat}:∀k,(∀j,j<k->m∣(l.getD j 0).natAbs)->m∣gcdK l k
 | 0,_=>Nat.dvd_zero m
 | k+1,h=>Nat.dvd_gcd (h k (Nat.lt_succ_self k)) (qIX k λj hj=>h j (Nat.lt_succ_of_lt hj))
theorem qJh {l:List Int} {m:Nat} (h0:(qA5 l).length ≠0) (h:∀j,m∣((qA5 l).getD j 0).natAbs):m=1:=by
 have i:(qA5 l).length =(qAE l).length :=by unfold qA5;rw[List.length_map]
 have f:gcdI (qAE l)≠0:=qD7 (List.getElem_mem (show 0<(qAE l).length by omega))
 have b:m*gcdI (qAE l)∣gcdI (qAE l):=by
  have:=qIX (l:=qAE l) (m:=m*gcdI (qAE l)) (qAE l).length λj g=>by
   rw[qG4,qCv l j,Int.natAbs_mul,Int.natAbs_natCast,Nat.mul_comm];exact Nat.mul_dvd_mul_left _ (h j)
  exact this
 obtain⟨q,hq⟩:=b;have c:gcdI (qAE l)*1=gcdI (qAE l)*(m*q):=by rw[Nat.mul_one,<-Nat.mul_assoc,Nat.mul_comm (gcdI (qAE l)) m];exact hq
 have d:=Nat.eq_of_mul_eq_mul_left (Nat.pos_of_ne_zero f) c;exact Nat.eq_one_of_dvd_one ⟨q,d⟩
theorem qJi {A:List Int} {N:Nat->Int} {t:Rat} (hp:∀m:Nat,(∀j,m∣(A.getD j 0).natAbs)->m=1) (h:∀j,((N j:Int):Rat)=t*((A.getD j 0:Int):Rat)) (j:Nat) (ht:t≠0):(A.getD j 0).natAbs <=(N j).natAbs :=by
 have v:t.den=1:=hp t.den λi=>by
  have f:=h i;have b:((t.den:Int):Rat)≠0:=by have:=qA3 t;exact_mod_cast (show(t.den:Int)≠0 by omega)
  have o:((N i*(t.den:Int):Int):Rat)=((t.num*A.getD i 0:Int):Rat):=by
   rw[Rat.intCast_mul,Rat.intCast_mul,f];have g:t=((t.num:Int):Rat) / ((t.den:Int):Rat):=qCB t
   have k:t*((t.den:Int):Rat)=((t.num:Int):Rat):=by
    conv=>lhs;arg 1;rw[g]
    rw[Rat.div_def,Rat.mul_assoc,Rat.inv_mul_cancel _ b,Rat.mul_one]
   rw[<-k];generalize ((t.den:Int):Rat)=d;generalize ((A.getD i 0:Int):Rat)=a;clear f g k h hp
   grind
  have p:N i*(t.den:Int)=t.num*A.getD i 0:=by exact_mod_cast o
  have q:t.den∣t.num.natAbs*(A.getD i 0).natAbs :=by
   rw[<-Int.natAbs_mul,<-p,Int.natAbs_mul,Int.natAbs_natCast];exact Nat.dvd_mul_left _ _
  exact(Nat.Coprime.dvd_of_dvd_mul_left (Nat.Coprime.symm t.reduced) q)
 have c:t=((t.num:Int):Rat):=by
  have:=qCB t;rw[v]at this;rw[this,Rat.div_def];show _=((((t.num:Int):Rat) / _:Rat).num :Rat);rw[<-this];generalize ((t.num:Int):Rat)=x;show x*(1:Rat)⁻¹ =x
  grind
 have l:=h j;rw[c,<-Rat.intCast_mul]at l;have r:N j=t.num*A.getD j 0:=by exact_mod_cast l
 rw[r,Int.natAbs_mul];have s:t.num≠0:=λn=>ht (Rat.num_eq_zero.1 n);exact Nat.le_mul_of_pos_left _ (Int.natAbs_pos.2 s)
def GLd (D n:Nat) (l:List Rat):Prop:=∀r∈l,∃N:Int,r=(N:Rat) / (D:Rat)/\N.natAbs<B9^n
theorem qKe {n:Nat} {l:List Rat} (h:GL n l) (ht:qAD l=true):∀z∈qAG l,Isz z n:=by
 obtain⟨D,r,C,o⟩:=h;obtain⟨c,k,q⟩:=qCU l;have b:(0:Rat)<(D:Rat):=Rat.natCast_pos.2 r;have g:(D:Rat)≠0:=Rat.ne_of_gt b;have f:∀j,∃N:Int,l.getD j 0=(N:Rat) / (D:Rat)/\N.natAbs<B9^n:=λj=>GL.getD o j;obtain⟨N,f⟩:∃N:Nat->Int,∀j,l.getD j 0=(N j:Rat) / (D:Rat)/\(N j).natAbs <B9^n:=⟨λj=>(f j).choose,λj=>(f j).choose_spec⟩;intro z B;obtain⟨j,y,rfl⟩:=qLP B;have v:=Rat.ne_of_gt k
 have s:∀i,((N i:Int):Rat)=((D:Rat) / c)*(((qAG l).getD i 0:Int):Rat):=λi=>by
  rw[q i,(f i).1];generalize ((N i:Int):Rat)=x;generalize (D:Rat)=d at g;clear q f o b k
  grind
 have t:=qJi (A:=qAG l) (N:=N) (λm p=>by unfold qAG at p y;exact qJh (by omega) p) s j (Rat.ne_of_gt (qIT b k));exact qAl (Nat.lt_of_le_of_lt t (f j).2)
theorem GLd.sub {D E n k:Nat} {P q:List Rat} (hP:GLd D n P) (d1:0<D) (e1:0<E) (hq:GLd E k q) {Qt:Int} {t1 t2:Nat} (qt1:q.getD t2 0=(Qt:Rat) / (E:Rat)) (qt2:Qt.natAbs<B9^k) (hQ0:Qt≠0) (i k':Nat):GLd (D*Qt.natAbs) (n+k+1) (subK P q i (P.getD t1 0 / q.getD t2 0) k'):=by
 obtain⟨m,y,z⟩:=GL.getD hP t1;have J:(E:Rat)≠0:=by exact_mod_cast Nat.ne_of_gt e1
 have F:(D:Rat)≠0:=by exact_mod_cast Nat.ne_of_gt d1
 have d:(Qt:Rat)≠0:=by exact_mod_cast hQ0
 obtain⟨b,g,t⟩:∃s:Int,(s=1∨s= -1)/\(Qt.natAbs:Int)=s*Qt:=by
  rcases Int.natAbs_eq Qt with h|h
  ·exact⟨1,.inl rfl,by omega⟩
  ·exact⟨-1,.inr rfl,by omega⟩
 have v:((Qt.natAbs:Nat):Rat)=(b:Rat)*(Qt:Rat):=by
  rw[<-Rat.intCast_mul,<-t];rfl
 have G:∀N:Int,(b*N).natAbs =N.natAbs:=λN=>by rcases g with rfl|rfl<;>simp
 have H:B9^(n+k)*2<=B9^(n+k+1):=by rw[Nat.pow_succ];exact Nat.mul_le_mul_left _ (by rw[qAM];decide)
 intro r I;simp only[subK,List.mem_map,List.mem_range]at I;obtain⟨j,O,rfl⟩:=I;obtain⟨c,l,x⟩:=GL.getD hP j;obtain⟨o,A,B⟩:=GL.getD hq (j - i);have C:((D*Qt.natAbs:Nat):Rat)=(D:Rat)*((b:Rat)*(Qt:Rat)):=by rw[Rat.natCast_mul,v]
 have f:(b:Rat)≠0:=by rcases g with rfl|rfl<;>decide+kernel
 have L:=qBP x qt2;have M:=qBP z B
 split
 ·refine⟨b*(c*Qt - m*o),?_,?_⟩
  ·rw[l,y,qt1,A,C]
   have p:((b*(c*Qt - m*o):Int):Rat)=(b:Rat)*((c:Rat)*(Qt:Rat) - (m:Rat)*(o:Rat)):=by
    rw[Rat.intCast_mul,Rat.intCast_sub,Rat.intCast_mul,Rat.intCast_mul]
   rw[p];exact fe1 _ _ _ _ _ _ _ F d J f
  ·rw[G];omega
 ·refine⟨b*(c*Qt),?_,?_⟩
  ·rw[l,C]
   have p:((b*(c*Qt):Int):Rat)=(b:Rat)*((c:Rat)*(Qt:Rat)):=by
    rw[Rat.intCast_mul,Rat.intCast_mul]
   rw[p];exact fe2 _ _ _ _ F d f
  ·rw[G];omega
theorem qIY {D E n k:Nat} {P q:List Rat} (hP:GLd D n P) (d1:0<D) (e1:0<E) (hq:GLd E k q) {Qt:Int} (qt1:q.getD (q.length - 1) 0=(Qt:Rat) / (E:Rat)) (qt2:Qt.natAbs<B9^k) (hQ0:Qt≠0) (m:Nat):∀s,GLd (D*Qt.natAbs^s) (n+s*(k+1)) (divS P q m s)
 | 0=>by simpa[divS]using hP
 | s+1=>by
  have ih:=qIY hP d1 e1 hq qt1 qt2 hQ0 m s;have hp:0<D*Qt.natAbs^s:=Nat.mul_pos d1 (Nat.pow_pos (Int.natAbs_pos.2 hQ0));have:=GLd.sub ih hp e1 hq (t1:=m - s+q.length - 1) qt1 qt2 hQ0 (m - s) q.length;rw[Nat.pow_succ,<-Nat.mul_assoc,show n+(s+1)*(k+1)=n+s*(k+1)+k+1 by rw[Nat.add_mul];omega];exact this
theorem fe6 (u D s N Q E w:Rat) (hD:D≠0) (hQ:Q≠0) (hE:E≠0) (hs0:s≠0) (hu:u≠0) (hw:w≠0):N / (D*u) / (Q / E)=(s*N*E*w) / (D*(u*(s*Q)*w)):=by grind
theorem qIZ {n k:Nat} {P q:List Rat} (hP:GL n P) (hq:GL k q) (h0:q.getD (q.length - 1) 0≠0) (hl:q.length<=P.length):GL (n+(P.length - q.length+1)*(k+1)) (qAj P q):=by
 obtain⟨D,t,I,J⟩:=hP;obtain⟨E,v,L,F⟩:=hq;obtain⟨b,g,o⟩:=GL.getD F (q.length - 1);have Q:(E:Rat)≠0:=by exact_mod_cast Nat.ne_of_gt v
 have O:(D:Rat)≠0:=by exact_mod_cast Nat.ne_of_gt t
 have f:b≠0:=λh=>h0 (by rw[g,h,Rat.intCast_zero,qBm]);have y:(b:Rat)≠0:=by exact_mod_cast f
 have c:0<b.natAbs:=Int.natAbs_pos.2 f;obtain⟨m,H⟩:∃m,P.length - q.length=m:=⟨_,rfl⟩
 obtain⟨d,l,B⟩:∃s:Int,(s=1∨s= -1)/\(b.natAbs:Int)=s*b:=by
  rcases Int.natAbs_eq b with h|h
  ·exact⟨1,.inl rfl,by omega⟩
  ·exact⟨-1,.inr rfl,by omega⟩
 have C:((b.natAbs:Nat):Rat)=(d:Rat)*(b:Rat):=by
  rw[<-Rat.intCast_mul,<-B];rfl
 have R:∀N:Int,(d*N).natAbs =N.natAbs:=λN=>by rcases l with rfl|rfl<;>simp
 have A:(d:Rat)≠0:=by rcases l with rfl|rfl<;>decide+kernel
 have i:∀s,b.natAbs^s<=B9^(k*s):=λs=>by rw[Nat.pow_mul];exact Nat.pow_le_pow_left (Nat.le_of_lt o) s
 rw[H];refine⟨D*b.natAbs^(m+1),Nat.mul_pos t (Nat.pow_pos c),?_,λr z=>?_⟩
 ·have x:=i (m+1)
  have p:D*b.natAbs^(m+1)<B9^n*B9^(k*(m+1)):=by
   refine Nat.lt_of_lt_of_le (Nat.mul_lt_mul_of_pos_right I (Nat.pow_pos c)) (Nat.mul_le_mul_left _ x)
  rw[<-Nat.pow_add]at p;refine Nat.lt_of_lt_of_le p (qCA ?_);rw[Nat.mul_add (m+1) k 1,Nat.mul_comm (m+1) k];omega
 ·unfold qAj at z;rw[if_neg (by omega),List.mem_map,H]at z;obtain⟨j,T,rfl⟩:=z;rw[List.mem_range]at T;obtain⟨s,U⟩:∃s,m - j=s:=⟨_,rfl⟩;rw[U];have S:=qIY (P:=P) (q:=q) J t v F g o f m s;obtain⟨N,Y,Z⟩:=GL.getD S (j+q.length - 1);unfold divC;rw[Y,g];refine⟨d*N*(E:Int)*((b.natAbs^(m - s):Nat):Int),?_,?_⟩
  ·have M:b.natAbs^(m+1)=b.natAbs^s*b.natAbs*b.natAbs^(m - s):=by
    rw[<-Nat.pow_succ,<-Nat.pow_add,show s+1+(m - s)=m+1 by omega]
   have V:((b.natAbs^s:Nat):Rat)≠0:=Rat.ne_of_gt (Rat.natCast_pos.2 (Nat.pow_pos c));have X:((b.natAbs^(m - s):Nat):Rat)≠0:=Rat.ne_of_gt (Rat.natCast_pos.2 (Nat.pow_pos c));rw[M,Rat.natCast_mul,Rat.natCast_mul,Rat.natCast_mul,Rat.natCast_mul,C,Rat.intCast_mul,Rat.intCast_mul,Rat.intCast_mul];exact fe6 _ _ _ _ _ _ _ O y Q A V X
  ·rw[Int.natAbs_mul,Int.natAbs_mul,R,Int.natAbs_natCast,Int.natAbs_natCast];have x:=i (m - s);have p:N.natAbs*E<B9^(n+s*(k+1))*B9^k:=Nat.mul_lt_mul'' Z L
   have G:N.natAbs*E*b.natAbs^(m - s)<B9^(n+s*(k+1))*B9^k*B9^(k*(m - s)):=
    Nat.lt_of_lt_of_le (Nat.mul_lt_mul_of_pos_right p (Nat.pow_pos c)) (Nat.mul_le_mul_left _ x)
   rw[<-Nat.pow_add,<-Nat.pow_add]at G;refine Nat.lt_of_lt_of_le G (qCA ?_);have v:k*(m - s)+s*k=m*k:=by rw[Nat.mul_comm s k,<-Nat.mul_add,show m - s+s=m by omega,Nat.mul_comm]
   rw[Nat.mul_add s k 1,Nat.mul_add (m+1) k 1,Nat.add_mul m 1 k];omega
end Go.Proofs.Ytcoajjdhkhgfdaa

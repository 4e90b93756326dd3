/- qAh laws of numbers in groups: what a list of groups is worth; the list of a number. qAh laws of numbers in groups: comparing from the top; adding, taking off, .. -/
import Derived.Test.YtfmfefibadpobaaGreatDoorPk01
namespace Go.Proofs.YtfmfefibadpobaaGreatDoor
set_option maxRecDepth 100000
set_option linter.unusedVariables false
theorem B9_ex:∃n:Nat,n=1000000000:=⟨_,rfl⟩
noncomputable def B9:Nat:=B9_ex.choose
theorem qAD:B9=1000000000:=B9_ex.choose_spec
noncomputable def nv:List Nat->Nat
 | []=>0
 | g::l=>g+B9*nv l
theorem qAq (a b:List Nat):nv (a++b)=nv a+B9^a.length*nv b:=by
 induction a with
 | nil=>simp[nv]
 | cons g l ih=>
  rw[List.cons_append,nv,nv,ih,List.length_cons,Nat.pow_succ,Nat.mul_add,<-Nat.mul_assoc,Nat.mul_comm (B9^l.length) B9];omega
def Low (l:List Nat):Prop:=∀g∈l,g<B9
theorem Low.cons {g:Nat} {l:List Nat} (h:Low (g::l)):g<B9/\Low l:=⟨h g (by simp),λx hx=>h x (by simp[hx])⟩
theorem qCT {l:List Nat} (h:Low l):nv l<B9^l.length:=by
 induction l with
 | nil=>simp[nv]
 | cons g l ih=>
  obtain⟨d,b⟩:=h.cons;have c:=ih b;rw[nv,List.length_cons,Nat.pow_succ,Nat.mul_comm (B9^l.length) B9]
  have f:B9*nv l+B9<=B9*B9^l.length:=by
   have:=Nat.mul_le_mul_left B9 (show nv l+1<=B9^l.length from c)
   rwa[Nat.mul_add,Nat.mul_one]at this
  omega
noncomputable def dg (n:Nat):List Nat:=if h:n=0 then[]else(n%B9)::dg (n / B9)
termination_by n
decreasing_by exact Nat.div_lt_self (by omega) (by have:=qAD;omega)
theorem qAI:dg 0=[]:=by unfold dg;simp
theorem qB8 {n:Nat} (h:n≠0):dg n=(n%B9)::dg (n / B9):=by rw[dg];simp[h]
theorem qAT (n:Nat):nv (dg n)=n:=by
 induction n using Nat.strongRecOn with
 | ind n ih=>
  by_cases h:n=0
  ·subst h;rw[qAI];rfl
  ·rw[qB8 h,nv,ih _ (Nat.div_lt_self (by omega) (by have:=qAD;omega))];exact Nat.mod_add_div n B9
theorem qAO (n:Nat):Low (dg n):=by
 induction n using Nat.strongRecOn with
 | ind n ih=>
  by_cases h:n=0
  ·subst h;rw[qAI];intro g b;simp at b
  ·rw[qB8 h];intro g b
   rcases List.mem_cons.1 b with rfl|b
   ·exact Nat.mod_lt _ (by have:=qAD;omega)
   ·exact ih _ (Nat.div_lt_self (by omega) (by have:=qAD;omega)) g b
def Norm (l:List Nat):Prop:=Low l/\l.getLast?≠some 0
theorem qGo:Norm []:=⟨λg hg=>by simp at hg,by simp⟩
theorem qDn {l:List Nat} (h:l.getLast?≠some 0) (h0:l≠[]):0<nv l:=by
 induction l with
 | nil=>exact absurd rfl h0
 | cons g l ih=>
  rw[nv]
  cases l with
  | nil=>
   have:g≠0:=λe=>h (by simp[e]);omega
  | cons g' l'=>
   have:=ih (by simpa using h) (by simp);have b:0<B9*nv (g'::l'):=Nat.mul_pos (by have:=qAD;omega) this;omega
theorem qCh {l:List Nat} (h:Norm l):dg (nv l)=l:=by
 induction l with
 | nil=>exact qAI
 | cons g l ih=>
  obtain⟨b,c⟩:=h.1.cons;have i:=qDn h.2 (by simp);have d:(g+B9*nv l)%B9=g:=by rw[Nat.add_mul_mod_self_left,Nat.mod_eq_of_lt b]
  have f:(g+B9*nv l) / B9=nv l:=by rw[Nat.add_mul_div_left _ _ (by have:=qAD;omega),Nat.div_eq_of_lt b,Nat.zero_add]
  rw[nv]at i;rw[nv,qB8 (by omega),d,f]
  cases l with
  | nil=>rw[nv,qAI]
  | cons g' l'=>rw[ih ⟨c,by simpa using h.2⟩]
theorem qC7 (n:Nat):Norm (dg n):=by
 refine⟨qAO n,?_⟩
 induction n using Nat.strongRecOn with
 | ind n ih=>
  by_cases h:n=0
  ·subst h;rw[qAI];simp
  ·rw[qB8 h];have d:=Nat.div_lt_self (show 0<n by omega) (show 1<B9 by have:=qAD;omega)
   by_cases b:n / B9=0
   ·rw[b,qAI];have:=Nat.mod_add_div n B9;rw[b]at this;simp;omega
   ·have c:=qB8 b;have:=ih _ d;rw[c]at this ⊢;simpa using this
theorem qDB (l:List Nat):nv (l++[0])=nv l:=by rw[qAq];simp[nv]
def qAG (l:List Nat):List Nat:=(l.reverse.dropWhile (· ==0)).reverse
theorem qBN (l:List Nat):qAG (l++[0])=qAG l:=by unfold qAG;simp
theorem qB9 {l:List Nat} {g:Nat} (h:g≠0):qAG (l++[g])=l++[g]:=by unfold qAG;simp[h]
theorem qDa {P:List Nat->Prop} (h0:P []) (hs:∀l g,P l->P (l++[g])):∀l,P l:=by
 intro l;rw[<-List.reverse_reverse l]
 induction l.reverse with
 | nil=>exact h0
 | cons g l ih=>rw[List.reverse_cons];exact hs _ _ ih
theorem qGp (l:List Nat):nv (qAG l)=nv l:=by
 refine qDa (P:=λl=>nv (qAG l)=nv l) rfl (λl g ih=>?_) l
 by_cases h:g=0
 ·subst h;rw[qBN,qDB,ih]
 ·rw[qB9 h]
theorem qFu {l:List Nat} (h:Low l):Norm (qAG l):=by
 revert h
 refine qDa (P:=λl=>Low l->Norm (qAG l)) (λ_=>qGo) (λl g ih h=>?_) l
 by_cases b:g=0
 ·subst b;rw[qBN];exact ih λx c=>h x (by simp[c])
 ·rw[qB9 b];exact⟨h,by simpa using b⟩
theorem qEx {l:List Nat} (h:Low l):qAG l=dg (nv l):=by rw[<-qGp l,qCh (qFu h)]
theorem qDC {a b:List Nat} (ha:Low a) (hb:Norm b) (h:a.length<b.length):nv a<nv b:=by
 have c:=qCT ha
 have d:B9^a.length<=nv b:=by
  obtain⟨l,g,rfl⟩:∃l g,b=l++[g]:=⟨b.dropLast,b.getLast (by intro e;simp[e]at h),(List.dropLast_concat_getLast _).symm⟩;have j:g≠0:=by have:=hb.2;simpa using this
  rw[qAq];have f:B9^a.length<=B9^l.length:=Nat.pow_le_pow_right (by have:=qAD;omega) (by simp at h;omega);have i:B9^l.length*1<=B9^l.length*nv [g]:=Nat.mul_le_mul_left _ (by simp[nv];omega);omega
 omega
theorem qAk:0<B9:=by have:=qAD;omega
theorem qCi (n:Nat):0<B9^n:=Nat.pow_pos qAk
theorem qBA (l:List Nat) (i:Nat) (h:i<=l.length):nv l=nv (l.take i)+B9^i*nv (l.drop i):=by
 have e:=qAq (l.take i) (l.drop i);rw[List.take_append_drop,List.length_take,Nat.min_eq_left h]at e;exact e
theorem qBS (l:List Nat) (i:Nat) (h:i<l.length):nv (l.take (i+1))=nv (l.take i)+B9^i*l[i]:=by
 rw[List.take_succ_eq_append_getElem h,qAq,List.length_take,Nat.min_eq_left (Nat.le_of_lt h)];simp[nv]
theorem qBI (l:List Nat) (i:Nat) (h:i<l.length):nv (l.drop i)=l[i]+B9*nv (l.drop (i+1)):=by
 rw[List.drop_eq_getElem_cons h,nv]
theorem qCD (l:List Nat) (g:Nat):nv (l++[g])=nv l+B9^l.length*g:=by rw[qAq];simp[nv]
theorem qAw (l:List Nat) (i:Nat) (h:i<l.length):nv l=nv (l.take i)+B9^i*(l[i]+B9*nv (l.drop (i+1))):=by
 rw[qBA l i (Nat.le_of_lt h),qBI l i h]
theorem Low.take {l:List Nat} (h:Low l) (i:Nat):Low (l.take i):=λg hg=>h g (List.mem_of_mem_take hg)
theorem Low.drop {l:List Nat} (h:Low l) (i:Nat):Low (l.drop i):=λg hg=>h g (List.mem_of_mem_drop hg)
theorem Low.append {a b:List Nat} (h:Low a) (k:Low b):Low (a++b):=λg hg=>(List.mem_append.1 hg).elim (h g) (k g)
theorem Low.snoc {a:List Nat} {g:Nat} (h:Low a) (k:g<B9):Low (a++[g]):=h.append λx hx=>by simp at hx;omega
theorem Low.get {l:List Nat} (h:Low l) (i:Nat) (hi:i<l.length):l[i]<B9:=h _ (List.getElem_mem hi)
theorem Low.set {l:List Nat} (h:Low l) (i g:Nat) (hg:g<B9):Low (l.set i g):=λx hx=>by
 rcases List.mem_or_eq_of_mem_set hx with h1|h1
 ·exact h x h1
 ·omega
theorem qAr {l:List Nat} (h:Low l) (i:Nat) (hi:i<=l.length):nv (l.take i)<B9^i:=by
 have:=qCT (h.take i)
 rwa[List.length_take,Nat.min_eq_left hi]at this
theorem qGQ {a b:List Nat} (ha:Low a) (hl:a.length=b.length) (i:Nat) (hi:i<a.length) (hd:a.drop (i+1)=b.drop (i+1)) (h:a[i]<b[i]'(by omega)):nv a<nv b:=by
 rw[qAw a i hi,qAw b i (by omega),hd];have c:=qAr ha i (by omega)
 have d:B9^i*(a[i]+B9*nv (b.drop (i+1)))+B9^i<=B9^i*(b[i]'(by omega)+B9*nv (b.drop (i+1))):=by
  have:=Nat.mul_le_mul_left (B9^i) (show a[i]+B9*nv (b.drop (i+1))+1<=b[i]'(by omega)+B9*nv (b.drop (i+1))by omega)
  rwa[Nat.mul_add,Nat.mul_one]at this
 omega
theorem qDD (n:Nat):nv (List.replicate n 0)=0:=by
 induction n with
 | zero=>rfl
 | succ n ih=>rw[List.replicate_succ,nv,ih,Nat.mul_zero]
theorem qAm (n:Nat):Low (List.replicate n 0):=λg hg=>by
 have:=List.eq_of_mem_replicate hg;have:=qAk;omega
theorem qGR (l:List Nat) (i g:Nat) (h:i<l.length):nv (l.set i g)+B9^i*l[i]=nv l+B9^i*g:=by
 have c:=qAw l i h;have b:=qAw (l.set i g) i (by simpa using h);rw[List.take_set_of_le (Nat.le_refl i),List.drop_set_of_lt (by omega),List.getElem_set_self]at b;rw[c,b];simp only[Nat.mul_add];omega
theorem qAf {n k:Nat} (h:n<B9^k):(dg n).length <=k:=by
 refine Nat.le_of_not_lt λb=>?_;have j:=qDC (qAm k) (qC7 n) (by simpa using b)
 have c:Low (List.replicate k (B9 - 1)):=λg i=>by
  have:=List.eq_of_mem_replicate i;have:=qAk;omega
 have d:=qDC c (qC7 n) (by simpa using b)
 have f:∀k,nv (List.replicate k (B9 - 1))+1=B9^k:=by
  intro k
  induction k with
  | zero=>rfl
  | succ k ih=>
   rw[List.replicate_succ,nv,Nat.pow_succ,<-ih,Nat.mul_comm (_+1) B9,Nat.mul_add];have:=qAk;omega
 have:=f k;rw[qAT]at d;omega
theorem qA1 (n:Nat):n<B9^(dg n).length :=by
 have:=qCT (qAO n)
 rwa[qAT]at this
theorem qAK {m n:Nat} (h:m<=n):(dg m).length <=(dg n).length :=qAf (Nat.lt_of_le_of_lt h (qA1 n))
theorem dg_eq_nil {n:Nat}:dg n=[]↔n=0:=by
 constructor
 ·intro h;have:=qAT n;rw[h]at this;exact this.symm
 ·rintro rfl;exact qAI
theorem dg_length_pos {n:Nat}:0<(dg n).length ↔n≠0:=by
 rw[List.length_pos_iff,Ne,dg_eq_nil]
theorem qHf:dg 1=[1]:=by
 rw[qB8 (by omega),Nat.div_eq_of_lt (by have:=qAD;omega),qAI,Nat.mod_eq_of_lt (by have:=qAD;omega)]
theorem dg_inj {m n:Nat}:dg m=dg n↔m=n:=⟨λh=>by rw[<-qAT m,h,qAT],λh=>by rw[h]⟩
theorem qCj {g:Nat} (h:g<B9) (h0:g≠0):dg g=[g]:=by
 rw[qB8 h0,Nat.div_eq_of_lt h,qAI,Nat.mod_eq_of_lt h]
theorem qAS (n i:Nat) (h:i<(dg n).length):(dg n)[i]<B9:=(qAO n).get i h
theorem qBn {n:Nat} (h:0<(dg n).length):0<(dg n)[(dg n).length - 1]'(by omega):=by
 have b:=(qC7 n).2;rw[List.getLast?_eq_getElem?,List.getElem?_eq_getElem (by omega)]at b;have:(dg n)[(dg n).length - 1]'(by omega)≠0:=λe=>b (by rw[e]);omega
theorem qB0 {m n:Nat} (h:(dg m).length <(dg n).length):m<n:=by
 have:=qDC (qAO m) (qC7 n) h
 rwa[qAT,qAT]at this
theorem qBv (m n:Nat):(dg (m*n)).length <=(dg m).length +(dg n).length :=by
 refine qAf ?_;rw[Nat.pow_add];exact Nat.mul_lt_mul'' (qA1 m) (qA1 n)
theorem qGS {n:Nat} (h:0<(dg n).length):B9^((dg n).length - 1)<=n:=by
 refine Nat.le_of_not_lt λb=>?_;have:=qAf b;omega
theorem qGT (P U' V' u2 T v1 v2 g l:Nat) (hP:0<P) (hU:U'<P) (hT:T=g*v1+l) (h:l*B9+u2<g*v2):U'+P*(u2+B9*T)<g*(V'+P*(v2+B9*v1)):=by
 have c:g*(V'+P*(v2+B9*v1))=g*V'+P*(g*v2+B9*(g*v1)):=by
  grind
 have b:P*(u2+B9*T+1)<=P*(g*v2+B9*(g*v1)):=Nat.mul_le_mul_left P (by rw[hT,Nat.mul_add,Nat.mul_comm B9 l];omega);rw[Nat.mul_add,Nat.mul_one]at b;omega
theorem qFv (P U' V' u2 T v1 v2 g l:Nat) (hP:0<P) (hV:V'<P) (hT:T=g*v1+l) (hg:g<B9) (h1:0<v1) (h:g*v2<=l*B9+u2):g*(V'+P*(v2+B9*v1))<U'+P*(u2+B9*T)+(V'+P*(v2+B9*v1)):=by
 have c:g*(V'+P*(v2+B9*v1))=g*V'+P*(g*v2+B9*(g*v1)):=by
  grind
 have d:P*(g*v2+B9*(g*v1))<=P*(u2+B9*T):=Nat.mul_le_mul_left P (by rw[hT,Nat.mul_add,Nat.mul_comm B9 l];omega);have f:g*V'<=g*P:=Nat.mul_le_mul_left g (Nat.le_of_lt hV);have i:g*P<B9*P:=Nat.mul_lt_mul_of_pos_right hg hP;have b:P*B9<=P*(v2+B9*v1):=Nat.mul_le_mul_left P (by have:=Nat.mul_le_mul_left B9 (show 1<=v1 from h1);omega);rw[Nat.mul_comm P B9]at b;omega
theorem qBa {U V g:Nat} (hV:0<V) (h:U<g*V):U / V<g:=(Nat.div_lt_iff_lt_mul hV).2 h
theorem qEy {U V g:Nat} (hV:0<V) (h:g*V<U+V):g<=U / V+1:=by
 refine Nat.le_of_lt_succ ?_
 have c:U<(U / V+1)*V:=by
  have:=Nat.div_add_mod U V;have d:=Nat.mod_lt U hV;rw[Nat.add_mul,Nat.one_mul,Nat.mul_comm (U / V)];omega
 have b:g*V<(U / V+2)*V:=by
  rw[show U / V+2=U / V+1+1 by omega,Nat.add_mul (U / V+1) 1 V,Nat.one_mul];omega
 exact Nat.lt_of_mul_lt_mul_right b
theorem qDS {us:List Nat} {m:Nat} (h:us.length=m+3):nv us=nv (us.take m)+B9^m*(us[m]+B9*(us[m+1]+B9*us[m+2])):=by
 rw[qAw us m (by omega),qBI us (m+1) (by omega),qBI us (m+1+1) (by omega),List.drop_eq_nil_of_le (show us.length<=m+1+1+1 by omega)];simp[nv]
theorem qDT {vs:List Nat} {m:Nat} (h:vs.length=m+2):nv vs=nv (vs.take m)+B9^m*(vs[m]+B9*vs[m+1]):=by
 rw[qAw vs m (by omega),qBI vs (m+1) (by omega),List.drop_eq_nil_of_le (show vs.length<=m+1+1 by omega)];simp[nv]
structure Guess (us vs:List Nat) (m g l:Nat) (hu:us.length=m+3) (hv:vs.length=m+2):Prop where
 eq:us[m+2]*B9+us[m+1]=g*vs[m+1]+l
 low:nv us<nv vs*B9->nv us / nv vs<=g
theorem Guess.start {us vs:List Nat} {m:Nat} (hu:us.length=m+3) (hv:vs.length=m+2) (h1:0<vs[m+1]) (lu:Low us):Guess us vs m ((us[m+2]*B9+us[m+1]) / vs[m+1]) ((us[m+2]*B9+us[m+1])%vs[m+1]) hu hv:=by
 refine⟨(Nat.div_add_mod' _ _).symm,λ_=>?_⟩;have f:=qCi m;have k:=qAr lu m (by omega);rw[qDS hu,qDT hv]
 have e:us[m]+B9*(us[m+1]+B9*us[m+2])=us[m]+B9*(us[m+2]*B9+us[m+1]):=by
  rw[Nat.add_comm us[m+1],Nat.mul_comm B9 us[m+2]]
 rw[e];have i:=lu.get m (by omega);generalize us[m+2]*B9+us[m+1]=T;generalize us[m]=u2 at*;generalize nv (us.take m)=U' at*;generalize vs[m+1]=v1 at*;generalize nv (vs.take m)=V';generalize vs[m]=v2;suffices h:U'+B9^m*(u2+B9*T)<(T / v1+1)*(V'+B9^m*(v2+B9*v1))from
  Nat.le_of_lt_succ (qBa (Nat.add_pos_right _ (Nat.mul_pos f (Nat.add_pos_right _ (Nat.mul_pos qAk h1)))) h)
 have c:T+1<=(T / v1+1)*v1:=by
  have:=Nat.div_add_mod T v1;have b:=Nat.mod_lt T h1;rw[Nat.add_mul,Nat.one_mul,Nat.mul_comm (T / v1)];omega
 have b:B9*(T+1)<=B9*((T / v1+1)*v1):=Nat.mul_le_mul_left _ c;have d:B9^m*(u2+B9*T+1)<=B9^m*(B9*((T / v1+1)*v1)):=Nat.mul_le_mul_left _ (by rw[Nat.mul_add]at b;omega)
 have j:(T / v1+1)*(V'+B9^m*(v2+B9*v1))=(T / v1+1)*V'+B9^m*((T / v1+1)*v2)+B9^m*(B9*((T / v1+1)*v1)):=by
  generalize T / v1+1=g;generalize B9^m=p
  grind
 rw[Nat.mul_add,Nat.mul_one]at d;omega
theorem Guess.less {us vs:List Nat} {m g l:Nat} {hu:us.length=m+3} {hv:vs.length=m+2} (h:Guess us vs m g l hu hv) (lu:Low us) (h1:0<vs[m+1]) (hc:B9<=g∨l*B9+us[m]<g*vs[m]):
  0<g/\Guess us vs m (g - 1) (l+vs[m+1]) hu hv:=by
 have i:0<g:=by
  rcases hc with hc|hc
  ·have:=qAk;omega
  ·refine Nat.pos_of_ne_zero λe=>?_;rw[e,Nat.zero_mul]at hc;omega
 refine⟨i,?_,λb=>?_⟩
 ·rw[h.eq]
  have:g*vs[m+1]=(g - 1)*vs[m+1]+vs[m+1]:=by
   conv=>lhs;rw[show g=g - 1+1 by omega,Nat.add_mul,Nat.one_mul]
  omega
 ·have j:=h.low b
  have d:0<nv vs:=by
   refine Nat.pos_of_ne_zero λe=>?_;rw[e]at b;omega
  rcases hc with hc|hc
  ·have:=qBa (g:=B9) d (by rw[Nat.mul_comm];exact b);omega
  ·have f:=qAr lu m (by omega)
   have e:us[m]+B9*(us[m+1]+B9*us[m+2])=us[m]+B9*(us[m+2]*B9+us[m+1]):=by
    rw[Nat.add_comm us[m+1],Nat.mul_comm B9 us[m+2]]
   have c:=qGT (B9^m) (nv (us.take m)) (nv (vs.take m)) us[m] (us[m+2]*B9+us[m+1]) vs[m+1] vs[m] g l (qCi m) f h.eq hc;rw[<-e,<-qDS hu,<-qDT hv]at c;have:=qBa d c;omega
theorem Guess.high {us vs:List Nat} {m g l:Nat} {hu:us.length=m+3} {hv:vs.length=m+2} (h:Guess us vs m g l hu hv) (lu:Low us) (lv:Low vs) (h1:0<vs[m+1]) (hlt:nv us<nv vs*B9)
  (hc:g<B9/\g*vs[m]<=l*B9+us[m]∨B9<=l):nv us / nv vs<=g/\g<=nv us / nv vs+1/\g<B9:=by
 have t:0<nv vs:=by
  refine Nat.pos_of_ne_zero λe=>?_;rw[e]at hlt;omega
 have b:g<B9:=by
  rcases hc with hc|hc
  ·exact hc.1
  ·refine Nat.lt_of_not_le λd=>?_
   have i:us[m+2]<=vs[m+1]:=by
    refine Nat.le_of_not_lt λf=>?_;have r:=qDS hu;have s:=qDT hv;have c:=qAr lv m (by omega);have v:=lv.get m (by omega);have n:B9^m*(B9*(B9*(vs[m+1]+1)))<=B9^m*(B9*(B9*us[m+2])):=Nat.mul_le_mul_left _ (Nat.mul_le_mul_left _ (Nat.mul_le_mul_left _ f))
    have j:nv vs+1<=B9^m*(B9*(vs[m+1]+1)):=by
     rw[s];have o:B9^m*(vs[m]+B9*vs[m+1]+1)<=B9^m*(B9*(vs[m+1]+1)):=Nat.mul_le_mul_left _ (by rw[Nat.mul_add];omega);rw[Nat.mul_add,Nat.mul_one]at o;omega
    have p:=Nat.mul_le_mul_left B9 j;have q:B9*(B9^m*(B9*(vs[m+1]+1)))=B9^m*(B9*(B9*(vs[m+1]+1))):=by rw[Nat.mul_left_comm]
    have x:B9^m*(B9*(B9*us[m+2]))<=nv us:=by
     rw[r];have:B9^m*(B9*(B9*us[m+2]))<=B9^m*(us[m]+B9*(us[m+1]+B9*us[m+2])):=Nat.mul_le_mul_left _ (by rw[Nat.mul_add];omega);omega
    rw[Nat.mul_add,Nat.mul_comm B9 (nv vs)]at p;omega
   have n:=Nat.mul_le_mul d i;have j:=Nat.mul_le_mul_right vs[m+1] d;have o:=Nat.mul_le_mul_left B9 i;have p:=lu.get (m+1) (by omega);have q:=h.eq;rw[Nat.mul_comm us[m+2]]at q;omega
 refine⟨h.low hlt,?_,b⟩
 have hq:g*vs[m]<=l*B9+us[m]:=by
  rcases hc with hc|hc
  ·exact hc.2
  ·have n:=Nat.mul_le_mul (Nat.le_of_lt b) (Nat.le_of_lt (lv.get m (by omega)));have j:=Nat.mul_le_mul_right B9 hc;omega
 have c:=qAr lv m (by omega);have k:=qFv (B9^m) (nv (us.take m)) (nv (vs.take m)) us[m] (us[m+2]*B9+us[m+1]) vs[m+1] vs[m] g l (qCi m) c h.eq b h1 hq
 have e:us[m]+B9*(us[m+1]+B9*us[m+2])=us[m]+B9*(us[m+2]*B9+us[m+1]):=by
  rw[Nat.add_comm us[m+1],Nat.mul_comm B9 us[m+2]]
 rw[<-e,<-qDS hu,<-qDT hv]at k;exact qEy t k
theorem qGq {p u:Nat} (hu:u<B9):(u+B9 - p%B9)%B9<B9/\(u+B9 - p%B9)%B9+p=u+B9*(p / B9+if u+B9 - p%B9<B9 then 1 else 0):=by
 have c:=Nat.div_add_mod p B9;have d:=Nat.mod_lt p qAk;have b:=qAk;refine⟨Nat.mod_lt _ b,?_⟩
 by_cases h:u+B9 - p%B9<B9
 ·rw[if_pos h,Nat.mod_eq_of_lt h,Nat.mul_add,Nat.mul_one];omega
 ·rw[if_neg h,show u+B9 - p%B9=(u - p%B9)+B9 by omega,Nat.add_mod_right,Nat.mod_eq_of_lt (by omega),Nat.add_zero];omega
structure Taking (us vs:List Nat) (g i c:Nat) (pre:List Nat):Prop where
 len:pre.length=i
 low:Low pre
 eq:nv pre+g*nv (vs.take i)=nv (us.take i)+B9^i*c
 bound:c<=5000000000
theorem Taking.start (us vs:List Nat) (g:Nat):Taking us vs g 0 0 []:=⟨rfl,λx hx=>by simp at hx,by simp[nv],by omega⟩
theorem Taking.next {us vs:List Nat} {g i c:Nat} {pre:List Nat} (h:Taking us vs g i c pre) (hi:i<us.length) (lu:Low us) (lv:Low vs) (hl:us.length=vs.length+1) (hg:g<=4000000000) (p:Nat) (hp:p=c+g*vs.getD i 0):
  Taking us vs g (i+1) (p / B9+if us[i]+B9 - p%B9<B9 then 1 else 0) (pre++[(us[i]+B9 - p%B9)%B9])/\p<=4000000005000000000:=by
 obtain⟨m,n⟩:=qGq (p:=p) (lu.get i hi)
 have k:vs.getD i 0<B9/\nv (vs.take (i+1))=nv (vs.take i)+B9^i*vs.getD i 0:=by
  by_cases b:i<vs.length
  ·rw[qBS vs i b];simp[b];exact lv.get i b
  ·simp[Nat.not_lt.1 b];rw[List.take_of_length_le (by omega),List.take_of_length_le (by omega)];exact⟨qAk,rfl⟩
 obtain⟨q,j⟩:=k;have s:=h.bound;have o:g*vs.getD i 0<=4000000000*1000000000:=Nat.mul_le_mul hg (by have:=qAD;omega);have f:p<=4000000005000000000:=by omega
 refine⟨⟨by simp[h.len],h.low.snoc m,?_,?_⟩,f⟩
 ·rw[qCD,h.len,qBS us i hi,j,Nat.mul_add,Nat.pow_succ];have r:=h.eq;have l:B9^i*((us[i]+B9 - p%B9)%B9+p)=B9^i*(us[i]+B9*(p / B9+if us[i]+B9 - p%B9<B9 then 1 else 0)):=by rw[n]
  generalize (p / B9+if us[i]+B9 - p%B9<B9 then 1 else 0)=c' at*;generalize (us[i]+B9 - p%B9)%B9=d at*;generalize us[i]=u at*;rw[Nat.mul_add,Nat.mul_add,hp,Nat.mul_add,<-Nat.mul_assoc (B9^i) B9 c']at l;rw[show g*(B9^i*vs.getD i 0)=B9^i*(g*vs.getD i 0)from Nat.mul_left_comm _ _ _];omega
 ·have:p / B9<=4000000005000000000 / B9:=Nat.div_le_div_right f;have e:4000000005000000000 / B9=4000000005:=by rw[qAD]
  split<;>omega
theorem qAn {l:List Nat} (h:Low l) (i:Nat):l.getD i 0<B9:=by
 by_cases b:i<l.length
 ·simp[b];exact h.get i b
 ·simp[Nat.not_lt.1 b];exact qAk
structure Adding (us vs:List Nat) (i c:Nat) (pre:List Nat):Prop where
 len:pre.length=i
 low:Low pre
 eq:nv pre+B9^i*c=nv (us.take i)+nv (vs.take i)
 bound:c<=1
theorem Adding.start (us vs:List Nat):Adding us vs 0 0 []:=⟨rfl,λx hx=>by simp at hx,by simp[nv],by omega⟩
theorem qBB (vs:List Nat) (i:Nat):nv (vs.take (i+1))=nv (vs.take i)+B9^i*vs.getD i 0:=by
 by_cases b:i<vs.length
 ·rw[qBS vs i b];simp[b]
 ·simp[Nat.not_lt.1 b];rw[List.take_of_length_le (by omega),List.take_of_length_le (by omega)]
theorem Adding.next {us vs:List Nat} {i c:Nat} {pre:List Nat} (h:Adding us vs i c pre) (lu:Low us) (lv:Low vs) (d:Nat) (hd:d=us.getD i 0+c+vs.getD i 0):
  Adding us vs (i+1) (d / B9) (pre++[d%B9])/\d<2*B9:=by
 have k:=qAn lu i;have l:=qAn lv i;have m:=h.bound;have b:d<2*B9:=by omega
 have f:=Nat.div_add_mod d B9;refine⟨⟨by simp[h.len],h.low.snoc (Nat.mod_lt _ qAk),?_,Nat.le_of_lt_succ ((Nat.div_lt_iff_lt_mul qAk).2 b)⟩,b⟩;rw[qCD,h.len,qBB,qBB,Nat.pow_succ];have j:=h.eq;have g:B9^i*(B9*(d / B9)+d%B9)=B9^i*(us.getD i 0+c+vs.getD i 0):=by rw[f,hd]
 simp only[Nat.mul_add]at g;rw[Nat.mul_assoc];omega
theorem Adding.done {us vs:List Nat} {i c:Nat} {pre:List Nat} (h:Adding us vs i c pre) (h1:us.length<=i) (h2:vs.length<=i):nv (pre++[c])=nv us+nv vs/\Low (pre++[c]):=by
 have e:=h.eq;rw[List.take_of_length_le h1,List.take_of_length_le h2]at e;have:=h.bound;refine⟨by rw[qCD,h.len];exact e,h.low.snoc (by have:=qAD;omega)⟩
structure Lessing (us vs:List Nat) (i c:Nat) (pre:List Nat):Prop where
 len:pre.length=i
 low:Low pre
 eq:nv pre+nv (vs.take i)=nv (us.take i)+B9^i*c
 bound:c<=1
theorem Lessing.start (us vs:List Nat):Lessing us vs 0 0 []:=⟨rfl,λx hx=>by simp at hx,by simp[nv],by omega⟩
theorem Lessing.next {us vs:List Nat} {i c:Nat} {pre:List Nat} (h:Lessing us vs i c pre) (lu:Low us) (lv:Low vs) (d:Int) (hd:d=(us.getD i 0:Int) - (c:Int) - (vs.getD i 0:Int)):
  (d<0->∃g:Nat,d+1000000000=(g:Int)/\g<B9/\Lessing us vs (i+1) 1 (pre++[g]))/\(¬d<0->∃g:Nat,d=(g:Int)/\g<B9/\Lessing us vs (i+1) 0 (pre++[g])):=by
 have l:=qAn lu i;have m:=qAn lv i;have n:=h.bound;have k:=h.eq;have o:=qAD;constructor
 ·intro f;refine⟨(d+1000000000).toNat,by omega,by omega,by simp[h.len],h.low.snoc (by omega),?_,by omega⟩;rw[qCD,h.len,qBB,qBB,Nat.pow_succ];have b:B9^i*((d+1000000000).toNat +c+vs.getD i 0)=B9^i*(us.getD i 0+B9):=by congr 1;omega
  simp only[Nat.mul_add]at b;omega
 ·intro j;refine⟨d.toNat,by omega,by omega,by simp[h.len],h.low.snoc (by omega),?_,by omega⟩;rw[qCD,h.len,qBB,qBB];have b:B9^i*(d.toNat+c+vs.getD i 0)=B9^i*us.getD i 0:=by congr 1;omega
  simp only[Nat.mul_add]at b;omega
theorem Lessing.done {us vs:List Nat} {c:Nat} {pre:List Nat} (h:Lessing us vs us.length c pre) (lv:Low vs) (hle:nv vs<=nv us) (hl:vs.length<=us.length):nv pre=nv us - nv vs:=by
 have e:=h.eq;rw[List.take_of_length_le (Nat.le_refl _),List.take_of_length_le hl]at e;have d:=qCT h.low;rw[h.len]at d
 have b:c=0:=by
  refine Nat.eq_zero_of_not_pos λb=>?_;have:B9^us.length*1<=B9^us.length*c:=Nat.mul_le_mul_left _ b;omega
 rw[b,Nat.mul_zero]at e;omega
structure MulRow (x:Nat) (b:List Nat) (i k carry:Nat) (out0 out:List Nat):Prop where
 len:out.length=out0.length
 low:Low out
 eq:nv out+B9^(i+k)*carry=nv out0+B9^i*(x*nv (b.take k))
 keep:out.drop (i+k)=out0.drop (i+k)
 bound:carry<B9
theorem MulRow.start (x:Nat) (b:List Nat) (i:Nat) (out0:List Nat) (h:Low out0):MulRow x b i 0 0 out0 out0:=⟨rfl,h,by simp[nv],rfl,qAk⟩
theorem MulRow.next {x:Nat} {b:List Nat} {i k carry:Nat} {out0 out:List Nat} (h:MulRow x b i k carry out0 out) (hx:x<B9) (lb:Low b) (hk:k<b.length) (hl:i+k<out.length) (d:Nat) (hd:d=x*b[k]+out[i+k]+carry):
  MulRow x b i (k+1) (d / B9) out0 (out.set (i+k) (d%B9))/\d<B9*B9:=by
 have o:=lb.get k hk;have p:=h.low.get (i+k) hl;have q:=h.bound;have s:=qAD;have r:x*b[k]<=999999999*999999999:=Nat.mul_le_mul (by omega) (by omega);have l:B9*B9=1000000000000000000:=by rw[qAD]
 have c:d<B9*B9:=by omega
 have f:=Nat.div_add_mod d B9;refine⟨⟨by simp[h.len],h.low.set _ _ (Nat.mod_lt _ qAk),?_,?_,(Nat.div_lt_iff_lt_mul qAk).2 c⟩,c⟩
 ·have m:=qGR out (i+k) (d%B9) hl;have g:B9^(i+k)*(B9*(d / B9)+d%B9)=B9^(i+k)*(x*b[k]+out[i+k]+carry):=by rw[f,hd]
  have n:=h.eq
  have j:B9^i*(x*(nv (b.take k)+B9^k*b[k]))=B9^i*(x*nv (b.take k))+B9^(i+k)*(x*b[k]):=by
   rw[Nat.mul_add,Nat.mul_add,Nat.pow_add,Nat.mul_assoc (B9^i) (B9^k),Nat.mul_left_comm x]
  rw[qBS b k hk,j,show i+(k+1)=i+k+1 by omega,Nat.pow_succ,Nat.mul_assoc];simp only[Nat.mul_add]at g;omega
 ·have e:=congrArg (List.drop 1) h.keep;rw[List.drop_drop,List.drop_drop]at e;rw[show i+(k+1)=i+k+1 by omega,List.drop_set_of_lt (by omega)];exact e
structure Mul (a b:List Nat) (i:Nat) (out:List Nat):Prop where
 low:Low out
 eq:nv out=nv (a.take i)*nv b
 zero:∀j,i+b.length<=j->out.getD j 0=0
theorem Mul.start (a b:List Nat) (n:Nat):Mul a b 0 (List.replicate n 0):=⟨qAm _,by rw[qDD];simp[nv],λj _=>by simp[List.getElem?_replicate];split<;>rfl⟩
theorem Mul.next {a b:List Nat} {i carry:Nat} {out0 out:List Nat} (h:Mul a b i out0) (hi:i<a.length) (hr:MulRow a[i] b i b.length carry out0 out) (hl:i+b.length<out.length):Mul a b (i+1) (out.set (i+b.length) carry):=by
 have g:∀j,i+b.length<=j->out.getD j 0=0:=λj f=>by
  have e:=congrArg (λl=>l.getD (j - (i+b.length)) 0) hr.keep;simp only[List.getD_eq_getElem?_getD,List.getElem?_drop,show i+b.length+(j - (i+b.length))=j by omega]at e;rw[List.getD_eq_getElem?_getD,e,<-List.getD_eq_getElem?_getD];exact h.zero j f
 have c:out[i+b.length]=0:=by
  have:=g (i+b.length) (Nat.le_refl _);simpa[hl]using this
 refine⟨hr.low.set _ _ hr.bound,?_,λj f=>?_⟩
 ·have d:=qGR out (i+b.length) carry hl;have k:=hr.eq;rw[c,Nat.mul_zero,Nat.add_zero]at d;rw[List.take_of_length_le (Nat.le_refl _),h.eq]at k;rw[d,qBS a i hi,Nat.add_mul,Nat.mul_assoc (B9^i)];omega
 ·rw[List.getD_eq_getElem?_getD,List.getElem?_set_ne (by omega),<-List.getD_eq_getElem?_getD];exact g j (by omega)
theorem Mul.nil {a:List Nat} {i:Nat} {out:List Nat} (h:Mul a [] i out):Mul a [] (i+1) out:=⟨h.low,by rw[h.eq];simp[nv],λj hj=>h.zero j (by omega)⟩
theorem Mul.done {a b out:List Nat} (h:Mul a b a.length out):nv out=nv a*nv b:=by rw[h.eq,List.take_of_length_le (Nat.le_refl _)]
theorem qCk {us vs pre:List Nat} {g c:Nat} (h:Taking us vs g us.length c pre) (hl:us.length=vs.length+1) (lu:Low us) (lv:Low vs) (hlt:nv us<nv vs*B9)
  (hg1:nv us / nv vs<=g) (hg2:g<=nv us / nv vs+1):(c=0->g=nv us / nv vs/\nv pre=nv us%nv vs)∧
   (c≠0->∀pre',Adding pre vs us.length 1 pre'∨Adding pre vs us.length 0 pre'->g - 1=nv us / nv vs/\nv pre'=nv us%nv vs/\0<g):=by
 have e:=h.eq;rw[List.take_of_length_le (by omega),List.take_of_length_le (Nat.le_refl _)]at e
 have r:0<nv vs:=by
  refine Nat.pos_of_ne_zero λp=>?_;rw[p]at hlt;omega
 have s:=Nat.div_add_mod (nv us) (nv vs);have y:=Nat.mod_lt (nv us) r;have n:=qCT h.low;rw[h.len]at n;have t:=qCT lv;have o:B9^vs.length<B9^us.length:=by rw[hl];exact Nat.pow_lt_pow_right (by have:=qAD;omega) (by omega)
 have l:c≠0->B9^us.length<=B9^us.length*c:=λj=>Nat.le_mul_of_pos_right _ (by omega)
 rcases Nat.lt_or_eq_of_le hg2 with hg3|hg3
 ·have b:g=nv us / nv vs:=by omega
  have f:c=0:=by
   refine Nat.eq_zero_of_not_pos λj=>?_;have:=l (by omega);rw[b,Nat.mul_comm]at e;omega
  refine⟨λ_=>⟨b,?_⟩,λj=>absurd f j⟩;rw[f,Nat.mul_zero,b,Nat.mul_comm]at e;omega
 ·have v:g*nv vs=nv vs*(nv us / nv vs)+nv vs:=by rw[hg3,Nat.add_mul,Nat.one_mul,Nat.mul_comm]
  have m:c=1:=by
   have x:c≠0:=by
    rintro rfl;rw[Nat.mul_zero]at e;omega
   refine Nat.le_antisymm (Nat.le_of_lt_succ (Nat.lt_of_not_le λq=>?_)) (by omega);have:=Nat.mul_le_mul_left (B9^us.length) q;omega
  refine⟨λj=>by omega,λ_ pre' d=>?_⟩;rw[m,Nat.mul_one]at e
  have i:nv pre'=nv us%nv vs:=by
   rcases d with d|d
   ·have k:=d.eq;rw[Nat.mul_one,List.take_of_length_le (by rw[h.len];omega),List.take_of_length_le (by omega)]at k;omega
   ·have k:=d.eq;rw[Nat.mul_zero,List.take_of_length_le (by rw[h.len];omega),List.take_of_length_le (by omega)]at k;have:=qCT d.low;rw[d.len]at this;omega
  exact⟨by rw[hg3];exact Nat.add_sub_cancel _ _,i,by rw[hg3];exact Nat.succ_pos _⟩
theorem qEb {b1:Nat} (h1:0<b1) (h2:b1<B9):0<B9 / (b1+1)/\B9 / (b1+1)<B9/\B9<4*(b1*(B9 / (b1+1))):=by
 have c:=Nat.div_add_mod B9 (b1+1);have h:=Nat.mod_lt B9 (show 0<b1+1 by omega);have b:0<B9 / (b1+1):=Nat.div_pos (by omega) (by omega);generalize B9 / (b1+1)=d at*;rw[Nat.add_mul,Nat.one_mul]at c;have f:b1*1<=b1*d:=Nat.mul_le_mul_left _ b;have g:1*d<=b1*d:=Nat.mul_le_mul_right _ h1;refine⟨b,?_,?_⟩<;>omega
theorem qFw {n s b:Nat} (hn:0<(dg b).length) (hs:s=B9 / ((dg b)[(dg b).length - 1]'(by omega)+1)) (hlen:(dg b).length =n):
  ∃h:(dg (b*s)).length =n,B9<4*((dg (b*s))[n - 1]'(by omega)+1):=by
 have f:=qBn hn;have g:=qAS b ((dg b).length - 1) (by omega);have c:=qAT b;rw[qAw (dg b) ((dg b).length - 1) (by omega),List.drop_eq_nil_of_le (by omega)]at c;have x:=qAr (qAO b) ((dg b).length - 1) (by omega);subst hlen;generalize hb1e:(dg b)[(dg b).length - 1]'(by omega)=b1 at*;obtain⟨k,z,A⟩:=qEb f g;rw[<-hs]at k z A;have t:s*(b1+1)<=B9:=by rw[hs];exact Nat.div_mul_le_self _ _
 have i:B9^(dg b).length =B9^((dg b).length - 1)*B9:=by rw[<-Nat.pow_succ];congr 1;omega
 have v:=qCi ((dg b).length - 1)
 have j:b*s<B9^(dg b).length :=by
  have l:b<B9^((dg b).length - 1)*(b1+1):=by simp only[nv,Nat.mul_zero,Nat.add_zero]at c;rw[Nat.mul_add,Nat.mul_one];omega
  have B:=Nat.mul_lt_mul_of_pos_right l k;have C:B9^((dg b).length - 1)*(b1+1)*s<=B9^(dg b).length :=by rw[i,Nat.mul_assoc,Nat.mul_comm (b1+1)];exact Nat.mul_le_mul_left _ t
  omega
 have q:=qAf j;have r:(dg b).length <=(dg (b*s)).length :=qAK (Nat.le_mul_of_pos_right _ k);have p:(dg (b*s)).length =(dg b).length :=by omega
 refine⟨p,?_⟩;have d:=qAT (b*s);rw[qAw (dg (b*s)) ((dg b).length - 1) (by omega),List.drop_eq_nil_of_le (by omega)]at d;have y:=qAr (qAO (b*s)) ((dg b).length - 1) (by omega);generalize (dg (b*s))[(dg b).length - 1]'(by omega)=t1 at*
 have D:b1*s<t1+1:=by
  refine Nat.lt_of_mul_lt_mul_left (a:=B9^((dg b).length - 1)) ?_;have m:B9^((dg b).length - 1)*b1<=b:=by simp only[nv,Nat.mul_zero,Nat.add_zero]at c;omega
  have o:=Nat.mul_le_mul_right s m;rw[Nat.mul_assoc]at o;simp only[nv,Nat.mul_zero,Nat.add_zero]at d;rw[Nat.mul_add,Nat.mul_one];omega
 omega
structure Dividing (T V n m k:Nat) (ul ql:List Nat):Prop where
 ulen:ul.length=m+1+n
 ulow:Low ul
 qlen:ql.length=m+1
 qlow:Low ql
 eq:nv ul+V*(B9^k*nv (ql.drop k))=T
 less:nv (ul.drop k)<V
theorem qGU {u x y p V T:Nat} (e:u=x+p*y) (h3:u=T) (h4:T<V*p):y<V:=by
 refine Nat.lt_of_not_le λb=>?_;have:=Nat.mul_le_mul_left p b;rw[Nat.mul_comm V]at h4;omega
theorem Dividing.start {T V n m:Nat} {ul:List Nat} (h1:ul.length=m+1+n) (h2:Low ul) (h3:nv ul=T) (h4:T<V*B9^(m+1)):Dividing T V n m (m+1) ul (List.replicate (m+1) 0):=by
 refine⟨h1,h2,by simp,qAm _,?_,?_⟩
 ·rw[List.drop_eq_nil_of_le (by simp),nv,Nat.mul_zero,Nat.mul_zero,Nat.add_zero];exact h3
 ·exact qGU (qBA ul (m+1) (by omega)) h3 h4
theorem Dividing.window {T V n m j:Nat} {ul ql:List Nat} (h:Dividing T V n m (j+1) ul ql) (hj:j<=m):((ul.drop j).take (n+1)).length =n+1/\Low ((ul.drop j).take (n+1))/\nv ((ul.drop j).take (n+1))<V*B9:=by
 have g:=h.ulen;refine⟨by simp;omega,(h.ulow.drop j).take _,?_⟩;have c:=qBI ul j (by omega);have d:=qBA (ul.drop j) (n+1) (by simp;omega);have f:=h.ulow.get j (by omega);have b:=Nat.mul_le_mul_left B9 (show nv (ul.drop (j+1))+1<=V from h.less);rw[Nat.mul_add,Nat.mul_one]at b;rw[Nat.mul_comm V];omega
theorem Dividing.next {T V n m j:Nat} {ul ql us':List Nat} (h:Dividing T V n m (j+1) ul ql) (hj:j<=m) (hV:V<=B9^n) (hl':us'.length=n+1) (hlow:Low us') (hV0:0<V)
  (hr:nv us'=nv ((ul.drop j).take (n+1))%V):Dividing T V n m j (ul.take j++us'++ul.drop (j+n+1)) (ql.set j (nv ((ul.drop j).take (n+1)) / V)):=by
 obtain⟨C,D,t⟩:=h.window hj;have x:=h.ulen;have hq:=h.qlen;have c:=Nat.div_add_mod (nv ((ul.drop j).take (n+1))) V;have r:=Nat.mod_lt (nv ((ul.drop j).take (n+1))) hV0;have d:nv ((ul.drop j).take (n+1)) / V<B9:=qBa hV0 (by rw[Nat.mul_comm];exact t);have g:=qBA ul j (by omega);have f:=qBA (ul.drop j) (n+1) (by simp;omega);rw[List.drop_drop,<-Nat.add_assoc]at f
 have b:nv (ul.drop (j+n+1))=0:=by
  refine Nat.eq_zero_of_not_pos λb=>?_;have y:=qBI ul j (by omega);have z:=h.ulow.get j (by omega);have s:=Nat.mul_le_mul_left B9 (show nv (ul.drop (j+1))+1<=V from h.less);rw[Nat.mul_add,Nat.mul_one]at s;have A:B9*V<=B9^(n+1):=by rw[Nat.pow_succ,Nat.mul_comm];exact Nat.mul_le_mul_right _ hV
  have B:=Nat.mul_le_mul_left (B9^(n+1)) b;omega
 have i:nv (ul.take j++us'++ul.drop (j+n+1))=nv (ul.take j)+B9^j*nv us':=by
  rw[List.append_assoc,qAq,qAq,b,Nat.mul_zero,Nat.add_zero,List.length_take,Nat.min_eq_left (by omega)]
 refine⟨by simp[hl'];omega,((h.ulow.take j).append hlow).append (h.ulow.drop _),by simpa using hq,h.qlow.set _ _ d,?_,?_⟩
 ·rw[i]
  have k:nv ((ql.set j (nv ((ul.drop j).take (n+1)) / V)).drop j)=nv ((ul.drop j).take (n+1)) / V+B9*nv (ql.drop (j+1)):=by
   rw[qBI _ j (by simp;omega),List.getElem_set_self,List.drop_set_of_lt (by omega)]
  rw[k];have l:=h.eq;rw[g,f,b,Nat.mul_zero,Nat.add_zero]at l;generalize nv ((ul.drop j).take (n+1))=U at*;rw[hr];generalize hqq:U / V=q at*
  have o:V*(B9^j*(q+B9*nv (ql.drop (j+1))))=B9^j*(V*q)+V*(B9^(j+1)*nv (ql.drop (j+1))):=by
   rw[Nat.pow_succ,Nat.mul_add,Nat.mul_add,Nat.mul_left_comm V (B9^j) q,<-Nat.mul_assoc (B9^j) B9]
  rw[o];have v:B9^j*U=B9^j*(V*q)+B9^j*(U%V):=by rw[<-Nat.mul_add,c]
  omega
 ·have p:(ul.take j++us'++ul.drop (j+n+1)).drop j=us'++ul.drop (j+n+1):=by
   rw[List.append_assoc,List.drop_append,List.drop_eq_nil_of_le (List.length_take_le _ _),List.length_take,Nat.min_eq_left (by omega)];simp
  rw[p,qAq,b,hr];simpa using r
theorem Dividing.done {a b s n m:Nat} {ul ql:List Nat} (h:Dividing (a*s) (b*s) n m 0 ul ql) (hs:0<s) (hb:0<b) (hV:b*s<=B9^n):nv ql=a / b/\nv (ul.take n)=a%b*s:=by
 have e:=h.eq;have d:=h.less;rw[List.drop_zero,Nat.pow_zero,Nat.one_mul]at e;rw[List.drop_zero]at d;have c:0<b*s:=Nat.mul_pos hb hs
 have f:nv ql=a*s / (b*s):=by
  rw[<-e,Nat.add_mul_div_left _ _ c,Nat.div_eq_of_lt d,Nat.zero_add]
 have g:nv ul=a*s%(b*s):=by
  rw[<-e,Nat.add_mul_mod_self_left,Nat.mod_eq_of_lt d]
 rw[Nat.mul_div_mul_right _ _ hs]at f;rw[Nat.mul_mod_mul_right]at g;refine⟨f,?_⟩;have i:=qBA ul n (by rw[h.ulen];omega)
 have j:nv (ul.drop n)=0:=by
  refine Nat.eq_zero_of_not_pos λk=>?_;have:=Nat.mul_le_mul_left (B9^n) k;omega
 rw[j,Nat.mul_zero,Nat.add_zero]at i;omega
theorem qDE {b r g:Nat} (hb:0<b) (hr:r<b) (hg:g<B9):(r*B9+g) / b<B9/\(r*B9+g)%b<b/\(r*B9+g) / b*b+(r*B9+g)%b=r*B9+g:=by
 refine⟨(Nat.div_lt_iff_lt_mul hb).2 ?_,Nat.mod_lt _ hb,by rw[Nat.mul_comm];exact Nat.div_add_mod _ _⟩;have:=Nat.mul_le_mul_right B9 (show r+1<=b from hr);rw[Nat.add_mul,Nat.one_mul]at this;rw[Nat.mul_comm B9 b];omega
theorem qCl {n:Nat} (h:0<(dg n).length):B9^((dg n).length - 1)*(dg n)[(dg n).length - 1]'(by omega)<=n/\n<B9^((dg n).length - 1)*((dg n)[(dg n).length - 1]'(by omega)+1):=by
 have e:=qAT n;rw[qAw (dg n) ((dg n).length - 1) (by omega),List.drop_eq_nil_of_le (by omega)]at e;have b:=qAr (qAO n) ((dg n).length - 1) (by omega);simp only[nv,Nat.mul_zero,Nat.add_zero]at e;rw[Nat.mul_add,Nat.mul_one];omega
theorem qHY {n:Nat} (h:1<(dg n).length):B9^((dg n).length - 2)*((dg n)[(dg n).length - 1]'(by omega)*B9+(dg n)[(dg n).length - 2]'(by omega))<=n:=by
 have e:=qAT n;rw[qAw (dg n) ((dg n).length - 2) (by omega),qBI (dg n) ((dg n).length - 2+1) (by omega),List.drop_eq_nil_of_le (by omega)]at e;simp only[nv,Nat.mul_zero,Nat.add_zero]at e;have b:(dg n)[(dg n).length - 2+1]'(by omega)=(dg n)[(dg n).length - 1]'(by omega):=by congr 1;omega
 rw[b]at e;rw[Nat.mul_comm _ B9,Nat.add_comm (B9*_)];omega
theorem qEc {a b t b1 top M k s n':Nat} (hb:b<B9^n'*(b1+1)) (hM:n'+s=M) (ht:t*(b1+1)<=top) (ha:B9^M*top<=a):b*B9^s*t<=a:=by
 have c:b*B9^s<=B9^n'*(b1+1)*B9^s:=Nat.mul_le_mul_right _ (Nat.le_of_lt hb);have d:=Nat.mul_le_mul_right t c
 have e:B9^n'*(b1+1)*B9^s*t=B9^M*(t*(b1+1)):=by
  rw[<-hM,Nat.pow_add];simp only[Nat.mul_comm,Nat.mul_left_comm,Nat.mul_assoc]
 have f:=Nat.mul_le_mul_left (B9^M) ht;omega
theorem qGV {a b:Nat} (hb:0<b) (hab:b<=a) (hla:0<(dg a).length) (hlb:0<(dg b).length) (hc:¬((dg a)[(dg a).length - 1]'(by omega)<=(dg b)[(dg b).length - 1]'(by omega)/\(dg b).length <(dg a).length)):
  ∀t,t=max ((dg a)[(dg a).length - 1]'(by omega) / ((dg b)[(dg b).length - 1]'(by omega)+1)) 1→
  0<t/\t<B9/\b*B9^((dg a).length - (dg b).length)*t<=a:=by
 intro t l;have c:(dg b).length <=(dg a).length :=qAK hab;obtain⟨f,m⟩:=qCl hla;obtain⟨n,g⟩:=qCl hlb;have q:=qAS a ((dg a).length - 1) (by omega);generalize hA:(dg a)[(dg a).length - 1]'(by omega)=A at*;generalize hB:(dg b)[(dg b).length - 1]'(by omega)=C at*;have p:A / (C+1)<=A:=Nat.div_le_self _ _;have o:1<B9:=by have:=qAD;omega
 refine⟨by omega,by omega,?_⟩
 by_cases i:1<=A / (C+1)
 ·have d:t=A / (C+1):=by omega
  rw[d];exact qEc (k:=0) g (by omega) (Nat.div_mul_le_self _ _) f
 ·have d:t=1:=by omega
  have j:A<C+1:=by
   refine Nat.lt_of_not_le λh=>i (Nat.div_pos h (by omega))
  have:(dg b).length =(dg a).length :=by
   refine Nat.le_antisymm c (Nat.le_of_not_lt λh=>hc ⟨by omega,h⟩)
  rw[d,this,Nat.sub_self,Nat.pow_zero,Nat.mul_one,Nat.mul_one];exact hab
theorem qGW {a b:Nat} (hb:0<b) (hab:b<=a) (hla:1<(dg a).length) (hlb:0<(dg b).length) (hc1:(dg a)[(dg a).length - 1]'(by omega)<=(dg b)[(dg b).length - 1]'(by omega)) (hc2:(dg b).length <(dg a).length):
  ∀t,t=max (((dg a)[(dg a).length - 1]'(by omega)*B9+(dg a)[(dg a).length - 2]'(by omega)) / ((dg b)[(dg b).length - 1]'(by omega)+1)) 1→
  0<t/\t<B9/\b*B9^((dg a).length - (dg b).length - 1)*t<=a:=by
 intro t h;have c:=qHY hla;obtain⟨j,d⟩:=qCl hlb;have q:=qAS a ((dg a).length - 2) (by omega);have r:=qAS b ((dg b).length - 1) (by omega);have i:=qBn (n:=a) (by omega);generalize hA:(dg a)[(dg a).length - 1]'(by omega)=A at*;generalize hA2:(dg a)[(dg a).length - 2]'(by omega)=A2 at*;generalize hB:(dg b)[(dg b).length - 1]'(by omega)=C at*;have o:A*B9<=C*B9:=Nat.mul_le_mul_right _ hc1;have p:1*B9<=A*B9:=Nat.mul_le_mul_right _ i;have m:1<B9:=by have:=qAD;omega
 have f:(A*B9+A2) / (C+1)<B9:=(Nat.div_lt_iff_lt_mul (by omega)).2 (by rw[Nat.mul_add,Nat.mul_one,Nat.mul_comm B9];omega);have l:1<=(A*B9+A2) / (C+1):=Nat.div_pos (by omega) (by omega);have g:t=(A*B9+A2) / (C+1):=by omega
 refine⟨by omega,by omega,?_⟩;rw[g];exact qEc (k:=0) d (by omega) (Nat.div_mul_le_self _ _) c
structure ByGroup (a:List Nat) (b k rest:Nat) (out:List Nat):Prop where
 len:out.length=a.length
 low:Low out
 eq:nv (out.drop k)*b+rest=nv (a.drop k)
 less:rest<b
theorem ByGroup.start (a:List Nat) (b:Nat) (hb:0<b):ByGroup a b a.length 0 (List.replicate a.length 0):=
 ⟨by simp,qAm _,by rw[List.drop_eq_nil_of_le (by simp),List.drop_eq_nil_of_le (Nat.le_refl _)];simp[nv],hb⟩
theorem ByGroup.next {a:List Nat} {b k rest:Nat} {out:List Nat} (h:ByGroup a b (k+1) rest out) (la:Low a) (hk:k<a.length) (d:Nat) (hd:d=rest*B9+a[k]):
  ByGroup a b k (d%b) (out.set k (d / b))/\d / b<B9:=by
 have m:0<b:=Nat.lt_of_le_of_lt (Nat.zero_le _) h.less;obtain⟨c,g,l⟩:=qDE m h.less (la.get k hk);rw[<-hd]at c g l;have n:=h.len;refine⟨⟨by simp[n],h.low.set _ _ c,?_,g⟩,c⟩
 have i:nv ((out.set k (d / b)).drop k)=d / b+B9*nv (out.drop (k+1)):=by
  rw[qBI _ k (by simp;omega),List.getElem_set_self,List.drop_set_of_lt (by omega)]
 rw[i,qBI a k hk,Nat.add_mul,Nat.mul_assoc];have j:=h.eq;have f:=congrArg (B9* ·) j;simp only[Nat.mul_add]at f;rw[Nat.mul_comm B9 rest]at f;omega
theorem ByGroup.done {a:List Nat} {b rest:Nat} {out:List Nat} (h:ByGroup a b 0 rest out):nv out=nv a / b/\rest=nv a%b:=by
 have f:0<b:=Nat.lt_of_le_of_lt (Nat.zero_le _) h.less;have e:=h.eq;rw[List.drop_zero,List.drop_zero,Nat.mul_comm]at e;have c:nv a / b=nv out:=by rw[<-e,Nat.mul_add_div f,Nat.div_eq_of_lt h.less,Nat.add_zero]
 have d:nv a%b=rest:=by rw[<-e,Nat.mul_add_mod,Nat.mod_eq_of_lt h.less]
 exact⟨c.symm,d.symm⟩
theorem qEd {a b:List Nat} (hl:a.length=b.length) (k:Nat) (hk:k<a.length) (hd:a.drop (k+1)=b.drop (k+1)) (he:a[k]=b[k]'(by omega)):a.drop k=b.drop k:=by
 rw[List.drop_eq_getElem_cons hk,List.drop_eq_getElem_cons (l:=b) (i:=k) (by omega),hd,he]
theorem qCU {a b:Nat} (hl:(dg a).length =(dg b).length) (k:Nat) (hk:k<(dg a).length) (hd:(dg a).drop (k+1)=(dg b).drop (k+1)) (h:(dg a)[k]<(dg b)[k]'(by omega)):a<b:=by
 have:=qGQ (qAO a) hl k hk hd h
 rwa[qAT,qAT]at this
theorem qEe {a b:Nat} (hd:(dg a).drop 0=(dg b).drop 0):a=b:=by
 rw[List.drop_zero,List.drop_zero]at hd;exact dg_inj.1 hd
theorem MulRow.zero {a b:List Nat} {i carry:Nat} {out0 out:List Nat} (h:Mul a b i out0) (x:Nat) (hr:MulRow x b i b.length carry out0 out) (hl:i+b.length<out.length):out[i+b.length]=0:=by
 have c:out.getD (i+b.length) 0=0:=by
  have e:=congrArg (λl=>l.getD 0 0) hr.keep;simp only[List.getD_eq_getElem?_getD,List.getElem?_drop,Nat.add_zero]at e;rw[List.getD_eq_getElem?_getD,e,<-List.getD_eq_getElem?_getD];exact h.zero (i+b.length) (Nat.le_refl _)
 simpa[hl]using c
theorem Mul.nil_eq {a:List Nat} {b:List Nat} {i:Nat} {out:List Nat} (hb:b=[]) (h:Mul a b i out):Mul a b (i+1) out:=by subst hb;exact h.nil
theorem qEz (a b:Nat):Nat.gcd b (a%b)=Nat.gcd a b:=by
 rw[Nat.gcd_comm a b,Nat.gcd_rec b a,Nat.gcd_comm]
theorem qFe (a b:Nat) (h:a≠0∨b≠0):(dg (Nat.gcd a b)).length <=max (dg a).length (dg b).length :=by
 by_cases c:a=0
 ·subst c;rw[Nat.gcd_zero_left];omega
 ·have:=qAK (Nat.le_of_dvd (by omega) (Nat.gcd_dvd_left a b));omega
def Parting (a b q r:Nat):Prop:=q*b+r=a
theorem Parting.start (a b:Nat):Parting a b 0 a:=by unfold Parting;omega
theorem Parting.next {a b q r m:Nat} (h:Parting a b q r) (hm:b*m<=r):Parting a b (q+m) (r - b*m):=by
 unfold Parting at*;rw[Nat.add_mul,Nat.mul_comm m b];omega
theorem Parting.done {a b q r:Nat} (h:Parting a b q r) (hr:r<b):q=a / b/\r=a%b:=by
 unfold Parting at h;have f:0<b:=by omega
 rw[Nat.mul_comm]at h;have c:a / b=q:=by rw[<-h,Nat.mul_add_div f,Nat.div_eq_of_lt hr,Nat.add_zero]
 have d:a%b=r:=by rw[<-h,Nat.mul_add_mod,Nat.mod_eq_of_lt hr]
 exact⟨c.symm,d.symm⟩
def qAM (ul:List Nat) (j:Nat) (pre:List Nat):List Nat:=ul.take j++pre++ul.drop (j+pre.length)
theorem qFx (ul:List Nat) (j:Nat):qAM ul j []=ul:=by unfold qAM;simp
theorem qCm {ul pre:List Nat} {j:Nat} (h:j+pre.length<=ul.length):(qAM ul j pre).length =ul.length:=by unfold qAM;simp;omega
theorem qDo {ul pre:List Nat} {j:Nat} (h:j+pre.length<ul.length) (y:Nat):(qAM ul j pre).set (j+pre.length) y=qAM ul j (pre++[y]):=by
 unfold qAM;have b:(ul.take j++pre).length =j+pre.length:=by simp;omega
 rw[List.set_append_right _ _ (by omega),b,Nat.sub_self,List.drop_eq_getElem_cons h,List.set_cons_zero,List.length_append];simp[Nat.add_assoc]
theorem qFy {ul pre:List Nat} {j i:Nat} (h:j+i<ul.length) (hi:pre.length<=i):(qAM ul j pre)[j+i]? =some (ul[j+i]):=by
 unfold qAM;have b:(ul.take j++pre).length =j+pre.length:=by simp;omega
 rw[List.getElem?_append_right (by omega),b,List.getElem?_drop,show j+pre.length+(j+i - (j+pre.length))=j+i by omega,List.getElem?_eq_getElem h]
theorem qGX {ul pre:List Nat} {j i:Nat} (h:j+pre.length<=ul.length) (hi:i<pre.length):(qAM ul j pre)[j+i]? =some pre[i]:=by
 unfold qAM;have b:(ul.take j).length =j:=by simp;omega
 rw[List.append_assoc,List.getElem?_append_right (by omega),b,show j+i - j=i by omega,List.getElem?_append_left hi,List.getElem?_eq_getElem hi]
theorem qDp {ul X:List Nat} {j k:Nat} (h:j+X.length<=ul.length) (hk:k<X.length) (y:Nat):(qAM ul j X).set (j+k) y=qAM ul j (X.set k y):=by
 unfold qAM;have b:(ul.take j).length =j:=by simp;omega
 rw[List.append_assoc,List.set_append_right _ _ (by omega),b,show j+k - j=k by omega,List.set_append_left _ _ hk,List.length_set,List.append_assoc]
theorem qFf {pre pre2:List Nat} {k:Nat} (h:pre2.length=k) (hk:k<pre.length) (y:Nat):(pre2++pre.drop k).set k y=(pre2++[y])++pre.drop (k+1):=by
 subst h;rw[List.set_append_right _ _ (Nat.le_refl _),Nat.sub_self,List.drop_eq_getElem_cons hk,List.set_cons_zero,List.append_assoc]
 rfl
theorem qHZ {pre pre2:List Nat} {k:Nat} (h:pre2.length=k) (hk:k<pre.length):(pre2++pre.drop k)[k]? =some pre[k]:=by
 subst h;rw[List.getElem?_append_right (Nat.le_refl _),Nat.sub_self,List.getElem?_drop,Nat.add_zero,List.getElem?_eq_getElem hk]
theorem Taking.zero {us vs:List Nat} {i c:Nat} {pre:List Nat} (h:Taking us vs 0 i c pre) (lu:Low us) (hi:i<=us.length):c=0:=by
 have e:=h.eq;have b:=qCT h.low;rw[h.len]at b;rw[Nat.zero_mul,Nat.add_zero]at e;refine Nat.eq_zero_of_not_pos λd=>?_;have:B9^i*1<=B9^i*c:=Nat.mul_le_mul_left _ d;omega
def sg (neg:Bool) (n:Nat):Int:=if neg then -(n:Int)else(n:Int)
theorem qEf (neg:Bool) (n:Nat):(sg neg n).natAbs =n:=by unfold sg;split<;>simp
theorem qH0 (neg:Bool):sg neg 0=0:=by unfold sg;split<;>simp
def rneg (r:Rat):Bool:=decide (r.num<0)
def rnum (r:Rat):Nat:=r.num.natAbs
theorem qGr (r:Rat):0<r.den:=Nat.pos_of_ne_zero r.den_nz
theorem qHg (r:Rat):Nat.gcd (rnum r) r.den=1:=r.reduced
def mkR (neg:Bool) (n d:Nat):Rat:=mkRat (sg neg n) d
theorem qC8 (neg:Bool) (n d:Nat) (h:d≠0):rnum (mkR neg n d)=n / Nat.gcd n d:=by
 unfold rnum mkR;rw[Rat.num_mkRat,if_neg h];have e:(d.gcd (sg neg n).natAbs)=n.gcd d:=by rw[qEf,Nat.gcd_comm]
 rw[e];unfold sg
 split
 ·rw[show(-(n:Int))=(n:Int)*(-1)by omega];have b:((n.gcd d:Nat):Int)∣(n:Int):=Int.natCast_dvd_natCast.2 (Nat.gcd_dvd_left n d);rw[Int.mul_comm,Int.mul_ediv_assoc _ b];rw[Int.natAbs_mul];simp;rw[<-Int.natCast_ediv,Int.natAbs_natCast]
 ·rw[<-Int.natCast_ediv,Int.natAbs_natCast]
theorem qDU (neg:Bool) (n d:Nat) (h:d≠0):(mkR neg n d).den =d / Nat.gcd n d:=by
 unfold mkR;rw[Rat.den_mkRat,if_neg h,qEf,Nat.gcd_comm]
theorem qFA (neg:Bool) (d:Nat):mkR neg 0 d=0:=by unfold mkR;rw[qH0,Rat.zero_mkRat]
theorem qEV (neg:Bool) (n d:Nat) (h:d≠0):rneg (mkR neg n d)=(neg&&decide (0<n)):=by
 by_cases f:n=0
 ·subst f;rw[qFA];simp;rfl
 ·have g:=qC8 neg n d h;have c:0<n.gcd d:=Nat.gcd_pos_of_pos_left _ (by omega);have i:0<n / n.gcd d:=Nat.div_pos (Nat.le_of_dvd (by omega) (Nat.gcd_dvd_left n d)) c
  have b:0<=mkR neg n d↔neg=false:=by
   unfold mkR;rw[<-Rat.divInt_ofNat,Rat.divInt_nonneg_iff_of_pos_right (by omega)];unfold sg
   cases neg<;>simp<;>omega
  rw[<-Rat.num_nonneg]at b;unfold rneg
  cases neg with
  | true=>
   have:¬0<=(mkR true n d).num :=by rw[b];simp
   simp;omega
  | false=>
   have:0<=(mkR false n d).num :=by rw[b]
   rw[Bool.false_and,decide_eq_false_iff_not];omega
end Go.Proofs.YtfmfefibadpobaaGreatDoor

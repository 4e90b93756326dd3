/- qAF laws of numbers in groups: what a list of groups is worth; the list of a number. qAF laws of numbers in groups: comparing from the top; adding, taking off, .. -/
import Derived.Test.YtenjpccpldajoaaGreatDoorPk01
namespace Go.Proofs.YtenjpccpldajoaaGreatDoor
set_option maxRecDepth 100000
set_option linter.unusedVariables false
theorem B9_ex:∃n:Nat,n=1000000000:=⟨_,rfl⟩
noncomputable def B9:Nat:=B9_ex.choose
theorem qAO:B9=1000000000:=B9_ex.choose_spec
noncomputable def nv:List Nat→Nat
 | []=>0
 | g::l=>g+B9*nv l
theorem qCH (a b:List Nat):nv (a++b)=nv a+B9^a.length*nv b:=by
 induction a with
 | nil=>simp[nv]
 | cons g l ih=>
  rw[List.cons_append,nv,nv,ih,List.length_cons,Nat.pow_succ,Nat.mul_add,←Nat.mul_assoc,Nat.mul_comm (B9^l.length) B9];omega
def Low (l:List Nat):Prop:=∀g∈l,g<B9
theorem Low.cons {g:Nat} {l:List Nat} (h:Low (g::l)):g<B9∧Low l:=⟨h g (by simp),fun x hx=>h x (by simp[hx])⟩
theorem qE7 {l:List Nat} (h:Low l):nv l<B9^l.length:=by
 induction l with
 | nil=>simp[nv]
 | cons g l ih=>
  obtain⟨h1,h2⟩:=h.cons;have h3:=ih h2;rw[nv,List.length_cons,Nat.pow_succ,Nat.mul_comm (B9^l.length) B9]
  have h4:B9*nv l+B9≤B9*B9^l.length:=by
   have:=Nat.mul_le_mul_left B9 (show nv l+1≤B9^l.length from h3)
   rwa[Nat.mul_add,Nat.mul_one]at this
  omega
noncomputable def dg (n:Nat):List Nat:=if h:n=0 then[]else(n%B9)::dg (n / B9)
termination_by n
decreasing_by exact Nat.div_lt_self (by omega) (by have:=qAO;omega)
theorem qA4:dg 0=[]:=by unfold dg;simp
theorem qDR {n:Nat} (h:n≠0):dg n=(n%B9)::dg (n / B9):=by rw[dg];simp[h]
theorem qAl (n:Nat):nv (dg n)=n:=by
 induction n using Nat.strongRecOn with
 | ind n ih=>
  by_cases h:n=0
  ·subst h;rw[qA4];rfl
  ·rw[qDR h,nv,ih _ (Nat.div_lt_self (by omega) (by have:=qAO;omega))];exact Nat.mod_add_div n B9
theorem qAq (n:Nat):Low (dg n):=by
 induction n using Nat.strongRecOn with
 | ind n ih=>
  by_cases h:n=0
  ·subst h;rw[qA4];intro g hg;simp at hg
  ·rw[qDR h];intro g hg
   rcases List.mem_cons.1 hg with rfl|hg
   ·exact Nat.mod_lt _ (by have:=qAO;omega)
   ·exact ih _ (Nat.div_lt_self (by omega) (by have:=qAO;omega)) g hg
def Norm (l:List Nat):Prop:=Low l∧l.getLast?≠some 0
theorem qNS:Norm []:=⟨fun g hg=>by simp at hg,by simp⟩
theorem qHD {l:List Nat} (h:l.getLast?≠some 0) (h0:l≠[]):0<nv l:=by
 induction l with
 | nil=>exact absurd rfl h0
 | cons g l ih=>
  rw[nv]
  cases l with
  | nil=>
   have:g≠0:=fun e=>h (by simp[e]);omega
  | cons g' l'=>
   have:=ih (by simpa using h) (by simp);have h2:0<B9*nv (g'::l'):=Nat.mul_pos (by have:=qAO;omega) this;omega
theorem qGA {l:List Nat} (h:Norm l):dg (nv l)=l:=by
 induction l with
 | nil=>exact qA4
 | cons g l ih=>
  obtain⟨h1,h2⟩:=h.1.cons;have hp:=qHD h.2 (by simp);have h3:(g+B9*nv l)%B9=g:=by rw[Nat.add_mul_mod_self_left,Nat.mod_eq_of_lt h1]
  have h4:(g+B9*nv l) / B9=nv l:=by rw[Nat.add_mul_div_left _ _ (by have:=qAO;omega),Nat.div_eq_of_lt h1,Nat.zero_add]
  rw[nv]at hp;rw[nv,qDR (by omega),h3,h4]
  cases l with
  | nil=>rw[nv,qA4]
  | cons g' l'=>rw[ih ⟨h2,by simpa using h.2⟩]
theorem qGB (n:Nat):Norm (dg n):=by
 refine⟨qAq n,?_⟩
 induction n using Nat.strongRecOn with
 | ind n ih=>
  by_cases h:n=0
  ·subst h;rw[qA4];simp
  ·rw[qDR h];have hl:=Nat.div_lt_self (show 0<n by omega) (show 1<B9 by have:=qAO;omega)
   by_cases h2:n / B9=0
   ·rw[h2,qA4];have:=Nat.mod_add_div n B9;rw[h2]at this;simp;omega
   ·have hd:=qDR h2;have:=ih _ hl;rw[hd]at this ⊢;simpa using this
theorem qF7 (l:List Nat):nv (l++[0])=nv l:=by rw[qCH];simp[nv]
def qA5 (l:List Nat):List Nat:=(l.reverse.dropWhile (· ==0)).reverse
theorem qC2 (l:List Nat):qA5 (l++[0])=qA5 l:=by unfold qA5;simp
theorem qEG {l:List Nat} {g:Nat} (h:g≠0):qA5 (l++[g])=l++[g]:=by unfold qA5;simp[h]
theorem qG5 {P:List Nat→Prop} (h0:P []) (hs:∀l g,P l→P (l++[g])):∀l,P l:=by
 intro l;rw[←List.reverse_reverse l]
 induction l.reverse with
 | nil=>exact h0
 | cons g l ih=>rw[List.reverse_cons];exact hs _ _ ih
theorem qNT (l:List Nat):nv (qA5 l)=nv l:=by
 refine qG5 (P:=fun l=>nv (qA5 l)=nv l) rfl (fun l g ih=>?_) l
 by_cases h:g=0
 ·subst h;rw[qC2,qF7,ih]
 ·rw[qEG h]
theorem qLC {l:List Nat} (h:Low l):Norm (qA5 l):=by
 revert h
 refine qG5 (P:=fun l=>Low l→Norm (qA5 l)) (fun _=>qNS) (fun l g ih h=>?_) l
 by_cases h0:g=0
 ·subst h0;rw[qC2];exact ih fun x hx=>h x (by simp[hx])
 ·rw[qEG h0];exact⟨h,by simpa using h0⟩
theorem qJC {l:List Nat} (h:Low l):qA5 l=dg (nv l):=by rw[←qNT l,qGA (qLC h)]
theorem qF8 {a b:List Nat} (ha:Low a) (hb:Norm b) (h:a.length<b.length):nv a<nv b:=by
 have h1:=qE7 ha
 have h2:B9^a.length≤nv b:=by
  obtain⟨l,g,rfl⟩:∃l g,b=l++[g]:=⟨b.dropLast,b.getLast (by intro e;simp[e]at h),(List.dropLast_concat_getLast _).symm⟩;have hg:g≠0:=by have:=hb.2;simpa using this
  rw[qCH];have h3:B9^a.length≤B9^l.length:=Nat.pow_le_pow_right (by have:=qAO;omega) (by simp at h;omega);have h4:B9^l.length*1≤B9^l.length*nv [g]:=Nat.mul_le_mul_left _ (by simp[nv];omega);omega
 omega
theorem qB2:0<B9:=by have:=qAO;omega
theorem qES (n:Nat):0<B9^n:=Nat.pow_pos qB2
theorem qBf (l:List Nat) (i:Nat) (h:i≤l.length):nv l=nv (l.take i)+B9^i*nv (l.drop i):=by
 have e:=qCH (l.take i) (l.drop i);rw[List.take_append_drop,List.length_take,Nat.min_eq_left h]at e;exact e
theorem qC7 (l:List Nat) (i:Nat) (h:i<l.length):nv (l.take (i+1))=nv (l.take i)+B9^i*l[i]:=by
 rw[List.take_succ_eq_append_getElem h,qCH,List.length_take,Nat.min_eq_left (Nat.le_of_lt h)];simp[nv]
theorem qCY (l:List Nat) (i:Nat) (h:i<l.length):nv (l.drop i)=l[i]+B9*nv (l.drop (i+1)):=by
 rw[List.drop_eq_getElem_cons h,nv]
theorem qEL (l:List Nat) (g:Nat):nv (l++[g])=nv l+B9^l.length*g:=by rw[qCH];simp[nv]
theorem qC8 (l:List Nat) (i:Nat) (h:i<l.length):nv l=nv (l.take i)+B9^i*(l[i]+B9*nv (l.drop (i+1))):=by
 rw[qBf l i (Nat.le_of_lt h),qCY l i h]
theorem Low.take {l:List Nat} (h:Low l) (i:Nat):Low (l.take i):=fun g hg=>h g (List.mem_of_mem_take hg)
theorem Low.drop {l:List Nat} (h:Low l) (i:Nat):Low (l.drop i):=fun g hg=>h g (List.mem_of_mem_drop hg)
theorem Low.append {a b:List Nat} (h:Low a) (k:Low b):Low (a++b):=fun g hg=>(List.mem_append.1 hg).elim (h g) (k g)
theorem Low.snoc {a:List Nat} {g:Nat} (h:Low a) (k:g<B9):Low (a++[g]):=h.append fun x hx=>by simp at hx;omega
theorem Low.get {l:List Nat} (h:Low l) (i:Nat) (hi:i<l.length):l[i]<B9:=h _ (List.getElem_mem hi)
theorem Low.set {l:List Nat} (h:Low l) (i g:Nat) (hg:g<B9):Low (l.set i g):=fun x hx=>by
 rcases List.mem_or_eq_of_mem_set hx with h1|h1
 ·exact h x h1
 ·omega
theorem qCN {l:List Nat} (h:Low l) (i:Nat) (hi:i≤l.length):nv (l.take i)<B9^i:=by
 have:=qE7 (h.take i)
 rwa[List.length_take,Nat.min_eq_left hi]at this
theorem qMB {a b:List Nat} (ha:Low a) (hl:a.length=b.length) (i:Nat) (hi:i<a.length) (hd:a.drop (i+1)=b.drop (i+1)) (h:a[i]<b[i]'(by omega)):nv a<nv b:=by
 rw[qC8 a i hi,qC8 b i (by omega),hd];have h1:=qCN ha i (by omega)
 have h2:B9^i*(a[i]+B9*nv (b.drop (i+1)))+B9^i≤B9^i*(b[i]'(by omega)+B9*nv (b.drop (i+1))):=by
  have:=Nat.mul_le_mul_left (B9^i) (show a[i]+B9*nv (b.drop (i+1))+1≤b[i]'(by omega)+B9*nv (b.drop (i+1))by omega)
  rwa[Nat.mul_add,Nat.mul_one]at this
 omega
theorem qJD (n:Nat):nv (List.replicate n 0)=0:=by
 induction n with
 | zero=>rfl
 | succ n ih=>rw[List.replicate_succ,nv,ih,Nat.mul_zero]
theorem qCU (n:Nat):Low (List.replicate n 0):=fun g hg=>by
 have:=List.eq_of_mem_replicate hg;have:=qB2;omega
theorem qMC (l:List Nat) (i g:Nat) (h:i<l.length):nv (l.set i g)+B9^i*l[i]=nv l+B9^i*g:=by
 have e1:=qC8 l i h;have e2:=qC8 (l.set i g) i (by simpa using h);rw[List.take_set_of_le (Nat.le_refl i),List.drop_set_of_lt (by omega),List.getElem_set_self]at e2;rw[e1,e2];simp only[Nat.mul_add];omega
theorem qAb {n k:Nat} (h:n<B9^k):(dg n).length ≤k:=by
 refine Nat.le_of_not_lt fun hk=>?_;have h1:=qF8 (qCU k) (qGB n) (by simpa using hk)
 have h2:Low (List.replicate k (B9 - 1)):=fun g hg=>by
  have:=List.eq_of_mem_replicate hg;have:=qB2;omega
 have h3:=qF8 h2 (qGB n) (by simpa using hk)
 have h4:∀k,nv (List.replicate k (B9 - 1))+1=B9^k:=by
  intro k
  induction k with
  | zero=>rfl
  | succ k ih=>
   rw[List.replicate_succ,nv,Nat.pow_succ,←ih,Nat.mul_comm (_+1) B9,Nat.mul_add];have:=qB2;omega
 have:=h4 k;rw[qAl]at h3;omega
theorem qAa (n:Nat):n<B9^(dg n).length :=by
 have:=qE7 (qAq n)
 rwa[qAl]at this
theorem qAJ {m n:Nat} (h:m≤n):(dg m).length ≤(dg n).length :=qAb (Nat.lt_of_le_of_lt h (qAa n))
theorem dg_eq_nil {n:Nat}:dg n=[]↔n=0:=by
 constructor
 ·intro h;have:=qAl n;rw[h]at this;exact this.symm
 ·rintro rfl;exact qA4
theorem dg_length_pos {n:Nat}:0<(dg n).length ↔n≠0:=by
 rw[List.length_pos_iff,Ne,dg_eq_nil]
theorem qCV:dg 1=[1]:=by
 rw[qDR (by omega),Nat.div_eq_of_lt (by have:=qAO;omega),qA4,Nat.mod_eq_of_lt (by have:=qAO;omega)]
theorem dg_inj {m n:Nat}:dg m=dg n↔m=n:=⟨fun h=>by rw[←qAl m,h,qAl],fun h=>by rw[h]⟩
theorem qLD {g:Nat} (h:g<B9) (h0:g≠0):dg g=[g]:=by
 rw[qDR h0,Nat.div_eq_of_lt h,qA4,Nat.mod_eq_of_lt h]
theorem qBQ (n i:Nat) (h:i<(dg n).length):(dg n)[i]<B9:=(qAq n).get i h
theorem qEj {n:Nat} (h:0<(dg n).length):0<(dg n)[(dg n).length - 1]'(by omega):=by
 have h1:=(qGB n).2;rw[List.getLast?_eq_getElem?,List.getElem?_eq_getElem (by omega)]at h1;have:(dg n)[(dg n).length - 1]'(by omega)≠0:=fun e=>h1 (by rw[e]);omega
theorem qF0 {m n:Nat} (h:(dg m).length <(dg n).length):m<n:=by
 have:=qF8 (qAq m) (qGB n) h
 rwa[qAl,qAl]at this
theorem qAN (m n:Nat):(dg (m*n)).length ≤(dg m).length +(dg n).length :=by
 refine qAb ?_;rw[Nat.pow_add];exact Nat.mul_lt_mul'' (qAa m) (qAa n)
theorem qCW (m n:Nat):(dg (m+n)).length ≤max (dg m).length (dg n).length +1:=by
 refine qAb ?_;have h1:=qAa m;have h2:=qAa n;have h3:B9^(dg m).length ≤B9^max (dg m).length (dg n).length :=Nat.pow_le_pow_right qB2 (Nat.le_max_left _ _);have h4:B9^(dg n).length ≤B9^max (dg m).length (dg n).length :=Nat.pow_le_pow_right qB2 (Nat.le_max_right _ _);rw[Nat.pow_succ];have h5:2≤B9:=by have:=qAO;omega
 have:=Nat.mul_le_mul_left (B9^max (dg m).length (dg n).length) h5;omega
theorem qMD {n:Nat} (h:0<(dg n).length):B9^((dg n).length - 1)≤n:=by
 refine Nat.le_of_not_lt fun hlt=>?_;have:=qAb hlt;omega
theorem qME (P U' V' u2 T v1 v2 g l:Nat) (hP:0<P) (hU:U'<P) (hT:T=g*v1+l) (h:l*B9+u2<g*v2):U'+P*(u2+B9*T)<g*(V'+P*(v2+B9*v1)):=by
 have e1:g*(V'+P*(v2+B9*v1))=g*V'+P*(g*v2+B9*(g*v1)):=by
  grind
 have e2:P*(u2+B9*T+1)≤P*(g*v2+B9*(g*v1)):=Nat.mul_le_mul_left P (by rw[hT,Nat.mul_add,Nat.mul_comm B9 l];omega);rw[Nat.mul_add,Nat.mul_one]at e2;omega
theorem qLE (P U' V' u2 T v1 v2 g l:Nat) (hP:0<P) (hV:V'<P) (hT:T=g*v1+l) (hg:g<B9) (h1:0<v1) (h:g*v2≤l*B9+u2):g*(V'+P*(v2+B9*v1))<U'+P*(u2+B9*T)+(V'+P*(v2+B9*v1)):=by
 have e1:g*(V'+P*(v2+B9*v1))=g*V'+P*(g*v2+B9*(g*v1)):=by
  grind
 have e2:P*(g*v2+B9*(g*v1))≤P*(u2+B9*T):=Nat.mul_le_mul_left P (by rw[hT,Nat.mul_add,Nat.mul_comm B9 l];omega);have e3:g*V'≤g*P:=Nat.mul_le_mul_left g (Nat.le_of_lt hV);have e4:g*P<B9*P:=Nat.mul_lt_mul_of_pos_right hg hP;have e5:P*B9≤P*(v2+B9*v1):=Nat.mul_le_mul_left P (by have:=Nat.mul_le_mul_left B9 (show 1≤v1 from h1);omega);rw[Nat.mul_comm P B9]at e5;omega
theorem qDS {U V g:Nat} (hV:0<V) (h:U<g*V):U / V<g:=(Nat.div_lt_iff_lt_mul hV).2 h
theorem qJE {U V g:Nat} (hV:0<V) (h:g*V<U+V):g≤U / V+1:=by
 refine Nat.le_of_lt_succ ?_
 have h1:U<(U / V+1)*V:=by
  have:=Nat.div_add_mod U V;have h2:=Nat.mod_lt U hV;rw[Nat.add_mul,Nat.one_mul,Nat.mul_comm (U / V)];omega
 have h3:g*V<(U / V+2)*V:=by
  rw[show U / V+2=U / V+1+1 by omega,Nat.add_mul (U / V+1) 1 V,Nat.one_mul];omega
 exact Nat.lt_of_mul_lt_mul_right h3
theorem qGC {us:List Nat} {m:Nat} (h:us.length=m+3):nv us=nv (us.take m)+B9^m*(us[m]+B9*(us[m+1]+B9*us[m+2])):=by
 rw[qC8 us m (by omega),qCY us (m+1) (by omega),qCY us (m+1+1) (by omega),List.drop_eq_nil_of_le (show us.length≤m+1+1+1 by omega)];simp[nv]
theorem qGD {vs:List Nat} {m:Nat} (h:vs.length=m+2):nv vs=nv (vs.take m)+B9^m*(vs[m]+B9*vs[m+1]):=by
 rw[qC8 vs m (by omega),qCY vs (m+1) (by omega),List.drop_eq_nil_of_le (show vs.length≤m+1+1 by omega)];simp[nv]
structure Guess (us vs:List Nat) (m g l:Nat) (hu:us.length=m+3) (hv:vs.length=m+2):Prop where
 eq:us[m+2]*B9+us[m+1]=g*vs[m+1]+l
 low:nv us<nv vs*B9→nv us / nv vs≤g
theorem Guess.start {us vs:List Nat} {m:Nat} (hu:us.length=m+3) (hv:vs.length=m+2) (h1:0<vs[m+1]) (lu:Low us):Guess us vs m ((us[m+2]*B9+us[m+1]) / vs[m+1]) ((us[m+2]*B9+us[m+1])%vs[m+1]) hu hv:=by
 refine⟨(Nat.div_add_mod' _ _).symm,fun _=>?_⟩;have hP:=qES m;have hU:=qCN lu m (by omega);rw[qGC hu,qGD hv]
 have e:us[m]+B9*(us[m+1]+B9*us[m+2])=us[m]+B9*(us[m+2]*B9+us[m+1]):=by
  rw[Nat.add_comm us[m+1],Nat.mul_comm B9 us[m+2]]
 rw[e];have hu2:=lu.get m (by omega);generalize us[m+2]*B9+us[m+1]=T;generalize us[m]=u2 at*;generalize nv (us.take m)=U' at*;generalize vs[m+1]=v1 at*;generalize nv (vs.take m)=V';generalize vs[m]=v2;suffices h:U'+B9^m*(u2+B9*T)<(T / v1+1)*(V'+B9^m*(v2+B9*v1))from
  Nat.le_of_lt_succ (qDS (Nat.add_pos_right _ (Nat.mul_pos hP (Nat.add_pos_right _ (Nat.mul_pos qB2 h1)))) h)
 have h2:T+1≤(T / v1+1)*v1:=by
  have:=Nat.div_add_mod T v1;have h3:=Nat.mod_lt T h1;rw[Nat.add_mul,Nat.one_mul,Nat.mul_comm (T / v1)];omega
 have h3:B9*(T+1)≤B9*((T / v1+1)*v1):=Nat.mul_le_mul_left _ h2;have h4:B9^m*(u2+B9*T+1)≤B9^m*(B9*((T / v1+1)*v1)):=Nat.mul_le_mul_left _ (by rw[Nat.mul_add]at h3;omega)
 have e1:(T / v1+1)*(V'+B9^m*(v2+B9*v1))=(T / v1+1)*V'+B9^m*((T / v1+1)*v2)+B9^m*(B9*((T / v1+1)*v1)):=by
  generalize T / v1+1=g;generalize B9^m=p
  grind
 rw[Nat.mul_add,Nat.mul_one]at h4;omega
theorem Guess.less {us vs:List Nat} {m g l:Nat} {hu:us.length=m+3} {hv:vs.length=m+2} (h:Guess us vs m g l hu hv) (lu:Low us) (h1:0<vs[m+1]) (hc:B9≤g∨l*B9+us[m]<g*vs[m]):
  0<g∧Guess us vs m (g - 1) (l+vs[m+1]) hu hv:=by
 have hg:0<g:=by
  rcases hc with hc|hc
  ·have:=qB2;omega
  ·refine Nat.pos_of_ne_zero fun e=>?_;rw[e,Nat.zero_mul]at hc;omega
 refine⟨hg,?_,fun hlt=>?_⟩
 ·rw[h.eq]
  have:g*vs[m+1]=(g - 1)*vs[m+1]+vs[m+1]:=by
   conv=>lhs;rw[show g=g - 1+1 by omega,Nat.add_mul,Nat.one_mul]
  omega
 ·have h2:=h.low hlt
  have hV:0<nv vs:=by
   refine Nat.pos_of_ne_zero fun e=>?_;rw[e]at hlt;omega
  rcases hc with hc|hc
  ·have:=qDS (g:=B9) hV (by rw[Nat.mul_comm];exact hlt);omega
  ·have hU:=qCN lu m (by omega)
   have e:us[m]+B9*(us[m+1]+B9*us[m+2])=us[m]+B9*(us[m+2]*B9+us[m+1]):=by
    rw[Nat.add_comm us[m+1],Nat.mul_comm B9 us[m+2]]
   have h3:=qME (B9^m) (nv (us.take m)) (nv (vs.take m)) us[m] (us[m+2]*B9+us[m+1]) vs[m+1] vs[m] g l (qES m) hU h.eq hc;rw[←e,←qGC hu,←qGD hv]at h3;have:=qDS hV h3;omega
theorem Guess.high {us vs:List Nat} {m g l:Nat} {hu:us.length=m+3} {hv:vs.length=m+2} (h:Guess us vs m g l hu hv) (lu:Low us) (lv:Low vs) (h1:0<vs[m+1]) (hlt:nv us<nv vs*B9)
  (hc:g<B9∧g*vs[m]≤l*B9+us[m]∨B9≤l):nv us / nv vs≤g∧g≤nv us / nv vs+1∧g<B9:=by
 have hV:0<nv vs:=by
  refine Nat.pos_of_ne_zero fun e=>?_;rw[e]at hlt;omega
 have hgB:g<B9:=by
  rcases hc with hc|hc
  ·exact hc.1
  ·refine Nat.lt_of_not_le fun hge=>?_
   have hu0:us[m+2]≤vs[m+1]:=by
    refine Nat.le_of_not_lt fun hlt'=>?_;have e1:=qGC hu;have e2:=qGD hv;have hV':=qCN lv m (by omega);have hv2:=lv.get m (by omega);have k1:B9^m*(B9*(B9*(vs[m+1]+1)))≤B9^m*(B9*(B9*us[m+2])):=Nat.mul_le_mul_left _ (Nat.mul_le_mul_left _ (Nat.mul_le_mul_left _ hlt'))
    have k2:nv vs+1≤B9^m*(B9*(vs[m+1]+1)):=by
     rw[e2];have k3:B9^m*(vs[m]+B9*vs[m+1]+1)≤B9^m*(B9*(vs[m+1]+1)):=Nat.mul_le_mul_left _ (by rw[Nat.mul_add];omega);rw[Nat.mul_add,Nat.mul_one]at k3;omega
    have k4:=Nat.mul_le_mul_left B9 k2;have k5:B9*(B9^m*(B9*(vs[m+1]+1)))=B9^m*(B9*(B9*(vs[m+1]+1))):=by rw[Nat.mul_left_comm]
    have k6:B9^m*(B9*(B9*us[m+2]))≤nv us:=by
     rw[e1];have:B9^m*(B9*(B9*us[m+2]))≤B9^m*(us[m]+B9*(us[m+1]+B9*us[m+2])):=Nat.mul_le_mul_left _ (by rw[Nat.mul_add];omega);omega
    rw[Nat.mul_add,Nat.mul_comm B9 (nv vs)]at k4;omega
   have k1:=Nat.mul_le_mul hge hu0;have k2:=Nat.mul_le_mul_right vs[m+1] hge;have k3:=Nat.mul_le_mul_left B9 hu0;have k4:=lu.get (m+1) (by omega);have k5:=h.eq;rw[Nat.mul_comm us[m+2]]at k5;omega
 refine⟨h.low hlt,?_,hgB⟩
 have hq:g*vs[m]≤l*B9+us[m]:=by
  rcases hc with hc|hc
  ·exact hc.2
  ·have k1:=Nat.mul_le_mul (Nat.le_of_lt hgB) (Nat.le_of_lt (lv.get m (by omega)));have k2:=Nat.mul_le_mul_right B9 hc;omega
 have hV':=qCN lv m (by omega);have h3:=qLE (B9^m) (nv (us.take m)) (nv (vs.take m)) us[m] (us[m+2]*B9+us[m+1]) vs[m+1] vs[m] g l (qES m) hV' h.eq hgB h1 hq
 have e:us[m]+B9*(us[m+1]+B9*us[m+2])=us[m]+B9*(us[m+2]*B9+us[m+1]):=by
  rw[Nat.add_comm us[m+1],Nat.mul_comm B9 us[m+2]]
 rw[←e,←qGC hu,←qGD hv]at h3;exact qJE hV h3
theorem qNU {p u:Nat} (hu:u<B9):(u+B9 - p%B9)%B9<B9∧(u+B9 - p%B9)%B9+p=u+B9*(p / B9+if u+B9 - p%B9<B9 then 1 else 0):=by
 have h1:=Nat.div_add_mod p B9;have h2:=Nat.mod_lt p qB2;have h3:=qB2;refine⟨Nat.mod_lt _ h3,?_⟩
 by_cases h:u+B9 - p%B9<B9
 ·rw[if_pos h,Nat.mod_eq_of_lt h,Nat.mul_add,Nat.mul_one];omega
 ·rw[if_neg h,show u+B9 - p%B9=(u - p%B9)+B9 by omega,Nat.add_mod_right,Nat.mod_eq_of_lt (by omega),Nat.add_zero];omega
structure Taking (us vs:List Nat) (g i c:Nat) (pre:List Nat):Prop where
 len:pre.length=i
 low:Low pre
 eq:nv pre+g*nv (vs.take i)=nv (us.take i)+B9^i*c
 bound:c≤5000000000
theorem Taking.start (us vs:List Nat) (g:Nat):Taking us vs g 0 0 []:=⟨rfl,fun x hx=>by simp at hx,by simp[nv],by omega⟩
theorem Taking.next {us vs:List Nat} {g i c:Nat} {pre:List Nat} (h:Taking us vs g i c pre) (hi:i<us.length) (lu:Low us) (lv:Low vs) (hl:us.length=vs.length+1) (hg:g≤4000000000) (p:Nat) (hp:p=c+g*vs.getD i 0):
  Taking us vs g (i+1) (p / B9+if us[i]+B9 - p%B9<B9 then 1 else 0) (pre++[(us[i]+B9 - p%B9)%B9])∧p≤4000000005000000000:=by
 obtain⟨h1,h2⟩:=qNU (p:=p) (lu.get i hi)
 have hvd:vs.getD i 0<B9∧nv (vs.take (i+1))=nv (vs.take i)+B9^i*vs.getD i 0:=by
  by_cases hi2:i<vs.length
  ·rw[qC7 vs i hi2];simp[hi2];exact lv.get i hi2
  ·simp[Nat.not_lt.1 hi2];rw[List.take_of_length_le (by omega),List.take_of_length_le (by omega)];exact⟨qB2,rfl⟩
 obtain⟨hv1,hv2⟩:=hvd;have hb:=h.bound;have hgv:g*vs.getD i 0≤4000000000*1000000000:=Nat.mul_le_mul hg (by have:=qAO;omega);have hpb:p≤4000000005000000000:=by omega
 refine⟨⟨by simp[h.len],h.low.snoc h1,?_,?_⟩,hpb⟩
 ·rw[qEL,h.len,qC7 us i hi,hv2,Nat.mul_add,Nat.pow_succ];have e1:=h.eq;have e2:B9^i*((us[i]+B9 - p%B9)%B9+p)=B9^i*(us[i]+B9*(p / B9+if us[i]+B9 - p%B9<B9 then 1 else 0)):=by rw[h2]
  generalize (p / B9+if us[i]+B9 - p%B9<B9 then 1 else 0)=c' at*;generalize (us[i]+B9 - p%B9)%B9=d at*;generalize us[i]=u at*;rw[Nat.mul_add,Nat.mul_add,hp,Nat.mul_add,←Nat.mul_assoc (B9^i) B9 c']at e2;rw[show g*(B9^i*vs.getD i 0)=B9^i*(g*vs.getD i 0)from Nat.mul_left_comm _ _ _];omega
 ·have:p / B9≤4000000005000000000 / B9:=Nat.div_le_div_right hpb;have e:4000000005000000000 / B9=4000000005:=by rw[qAO]
  split<;>omega
theorem qCZ {l:List Nat} (h:Low l) (i:Nat):l.getD i 0<B9:=by
 by_cases hi:i<l.length
 ·simp[hi];exact h.get i hi
 ·simp[Nat.not_lt.1 hi];exact qB2
structure Adding (us vs:List Nat) (i c:Nat) (pre:List Nat):Prop where
 len:pre.length=i
 low:Low pre
 eq:nv pre+B9^i*c=nv (us.take i)+nv (vs.take i)
 bound:c≤1
theorem Adding.start (us vs:List Nat):Adding us vs 0 0 []:=⟨rfl,fun x hx=>by simp at hx,by simp[nv],by omega⟩
theorem qCC (vs:List Nat) (i:Nat):nv (vs.take (i+1))=nv (vs.take i)+B9^i*vs.getD i 0:=by
 by_cases hi2:i<vs.length
 ·rw[qC7 vs i hi2];simp[hi2]
 ·simp[Nat.not_lt.1 hi2];rw[List.take_of_length_le (by omega),List.take_of_length_le (by omega)]
theorem Adding.next {us vs:List Nat} {i c:Nat} {pre:List Nat} (h:Adding us vs i c pre) (lu:Low us) (lv:Low vs) (d:Nat) (hd:d=us.getD i 0+c+vs.getD i 0):
  Adding us vs (i+1) (d / B9) (pre++[d%B9])∧d<2*B9:=by
 have h1:=qCZ lu i;have h2:=qCZ lv i;have h3:=h.bound;have hd2:d<2*B9:=by omega
 have hdm:=Nat.div_add_mod d B9;refine⟨⟨by simp[h.len],h.low.snoc (Nat.mod_lt _ qB2),?_,Nat.le_of_lt_succ ((Nat.div_lt_iff_lt_mul qB2).2 hd2)⟩,hd2⟩;rw[qEL,h.len,qCC,qCC,Nat.pow_succ];have e1:=h.eq;have e2:B9^i*(B9*(d / B9)+d%B9)=B9^i*(us.getD i 0+c+vs.getD i 0):=by rw[hdm,hd]
 simp only[Nat.mul_add]at e2;rw[Nat.mul_assoc];omega
theorem Adding.done {us vs:List Nat} {i c:Nat} {pre:List Nat} (h:Adding us vs i c pre) (h1:us.length≤i) (h2:vs.length≤i):nv (pre++[c])=nv us+nv vs∧Low (pre++[c]):=by
 have e:=h.eq;rw[List.take_of_length_le h1,List.take_of_length_le h2]at e;have:=h.bound;refine⟨by rw[qEL,h.len];exact e,h.low.snoc (by have:=qAO;omega)⟩
structure Lessing (us vs:List Nat) (i c:Nat) (pre:List Nat):Prop where
 len:pre.length=i
 low:Low pre
 eq:nv pre+nv (vs.take i)=nv (us.take i)+B9^i*c
 bound:c≤1
theorem Lessing.start (us vs:List Nat):Lessing us vs 0 0 []:=⟨rfl,fun x hx=>by simp at hx,by simp[nv],by omega⟩
theorem Lessing.next {us vs:List Nat} {i c:Nat} {pre:List Nat} (h:Lessing us vs i c pre) (lu:Low us) (lv:Low vs) (d:Int) (hd:d=(us.getD i 0:Int) - (c:Int) - (vs.getD i 0:Int)):
  (d<0→∃g:Nat,d+1000000000=(g:Int)∧g<B9∧Lessing us vs (i+1) 1 (pre++[g]))∧(¬d<0→∃g:Nat,d=(g:Int)∧g<B9∧Lessing us vs (i+1) 0 (pre++[g])):=by
 have h1:=qCZ lu i;have h2:=qCZ lv i;have h3:=h.bound;have e1:=h.eq;have hB:=qAO;constructor
 ·intro hneg;refine⟨(d+1000000000).toNat,by omega,by omega,by simp[h.len],h.low.snoc (by omega),?_,by omega⟩;rw[qEL,h.len,qCC,qCC,Nat.pow_succ];have e2:B9^i*((d+1000000000).toNat +c+vs.getD i 0)=B9^i*(us.getD i 0+B9):=by congr 1;omega
  simp only[Nat.mul_add]at e2;omega
 ·intro hpos;refine⟨d.toNat,by omega,by omega,by simp[h.len],h.low.snoc (by omega),?_,by omega⟩;rw[qEL,h.len,qCC,qCC];have e2:B9^i*(d.toNat+c+vs.getD i 0)=B9^i*us.getD i 0:=by congr 1;omega
  simp only[Nat.mul_add]at e2;omega
theorem Lessing.done {us vs:List Nat} {c:Nat} {pre:List Nat} (h:Lessing us vs us.length c pre) (lv:Low vs) (hle:nv vs≤nv us) (hl:vs.length≤us.length):nv pre=nv us - nv vs:=by
 have e:=h.eq;rw[List.take_of_length_le (Nat.le_refl _),List.take_of_length_le hl]at e;have h1:=qE7 h.low;rw[h.len]at h1
 have hc:c=0:=by
  refine Nat.eq_zero_of_not_pos fun hc=>?_;have:B9^us.length*1≤B9^us.length*c:=Nat.mul_le_mul_left _ hc;omega
 rw[hc,Nat.mul_zero]at e;omega
structure MulRow (x:Nat) (b:List Nat) (i k carry:Nat) (out0 out:List Nat):Prop where
 len:out.length=out0.length
 low:Low out
 eq:nv out+B9^(i+k)*carry=nv out0+B9^i*(x*nv (b.take k))
 keep:out.drop (i+k)=out0.drop (i+k)
 bound:carry<B9
theorem MulRow.start (x:Nat) (b:List Nat) (i:Nat) (out0:List Nat) (h:Low out0):MulRow x b i 0 0 out0 out0:=⟨rfl,h,by simp[nv],rfl,qB2⟩
theorem MulRow.next {x:Nat} {b:List Nat} {i k carry:Nat} {out0 out:List Nat} (h:MulRow x b i k carry out0 out) (hx:x<B9) (lb:Low b) (hk:k<b.length) (hl:i+k<out.length) (d:Nat) (hd:d=x*b[k]+out[i+k]+carry):
  MulRow x b i (k+1) (d / B9) out0 (out.set (i+k) (d%B9))∧d<B9*B9:=by
 have h1:=lb.get k hk;have h2:=h.low.get (i+k) hl;have h3:=h.bound;have hB:=qAO;have h4:x*b[k]≤999999999*999999999:=Nat.mul_le_mul (by omega) (by omega);have hBB:B9*B9=1000000000000000000:=by rw[qAO]
 have hd2:d<B9*B9:=by omega
 have hdm:=Nat.div_add_mod d B9;refine⟨⟨by simp[h.len],h.low.set _ _ (Nat.mod_lt _ qB2),?_,?_,(Nat.div_lt_iff_lt_mul qB2).2 hd2⟩,hd2⟩
 ·have e1:=qMC out (i+k) (d%B9) hl;have e2:B9^(i+k)*(B9*(d / B9)+d%B9)=B9^(i+k)*(x*b[k]+out[i+k]+carry):=by rw[hdm,hd]
  have e3:=h.eq
  have e4:B9^i*(x*(nv (b.take k)+B9^k*b[k]))=B9^i*(x*nv (b.take k))+B9^(i+k)*(x*b[k]):=by
   rw[Nat.mul_add,Nat.mul_add,Nat.pow_add,Nat.mul_assoc (B9^i) (B9^k),Nat.mul_left_comm x]
  rw[qC7 b k hk,e4,show i+(k+1)=i+k+1 by omega,Nat.pow_succ,Nat.mul_assoc];simp only[Nat.mul_add]at e2;omega
 ·have e:=congrArg (List.drop 1) h.keep;rw[List.drop_drop,List.drop_drop]at e;rw[show i+(k+1)=i+k+1 by omega,List.drop_set_of_lt (by omega)];exact e
structure Mul (a b:List Nat) (i:Nat) (out:List Nat):Prop where
 low:Low out
 eq:nv out=nv (a.take i)*nv b
 zero:∀j,i+b.length≤j→out.getD j 0=0
theorem Mul.start (a b:List Nat) (n:Nat):Mul a b 0 (List.replicate n 0):=⟨qCU _,by rw[qJD];simp[nv],fun j _=>by simp[List.getElem?_replicate];split<;>rfl⟩
theorem Mul.next {a b:List Nat} {i carry:Nat} {out0 out:List Nat} (h:Mul a b i out0) (hi:i<a.length) (hr:MulRow a[i] b i b.length carry out0 out) (hl:i+b.length<out.length):Mul a b (i+1) (out.set (i+b.length) carry):=by
 have hz:∀j,i+b.length≤j→out.getD j 0=0:=fun j hj=>by
  have e:=congrArg (fun l=>l.getD (j - (i+b.length)) 0) hr.keep;simp only[List.getD_eq_getElem?_getD,List.getElem?_drop,show i+b.length+(j - (i+b.length))=j by omega]at e;rw[List.getD_eq_getElem?_getD,e,←List.getD_eq_getElem?_getD];exact h.zero j hj
 have hz0:out[i+b.length]=0:=by
  have:=hz (i+b.length) (Nat.le_refl _);simpa[hl]using this
 refine⟨hr.low.set _ _ hr.bound,?_,fun j hj=>?_⟩
 ·have e1:=qMC out (i+b.length) carry hl;have e2:=hr.eq;rw[hz0,Nat.mul_zero,Nat.add_zero]at e1;rw[List.take_of_length_le (Nat.le_refl _),h.eq]at e2;rw[e1,qC7 a i hi,Nat.add_mul,Nat.mul_assoc (B9^i)];omega
 ·rw[List.getD_eq_getElem?_getD,List.getElem?_set_ne (by omega),←List.getD_eq_getElem?_getD];exact hz j (by omega)
theorem Mul.nil {a:List Nat} {i:Nat} {out:List Nat} (h:Mul a [] i out):Mul a [] (i+1) out:=⟨h.low,by rw[h.eq];simp[nv],fun j hj=>h.zero j (by omega)⟩
theorem Mul.done {a b out:List Nat} (h:Mul a b a.length out):nv out=nv a*nv b:=by rw[h.eq,List.take_of_length_le (Nat.le_refl _)]
theorem qFD {us vs pre:List Nat} {g c:Nat} (h:Taking us vs g us.length c pre) (hl:us.length=vs.length+1) (lu:Low us) (lv:Low vs) (hlt:nv us<nv vs*B9)
  (hg1:nv us / nv vs≤g) (hg2:g≤nv us / nv vs+1):(c=0→g=nv us / nv vs∧nv pre=nv us%nv vs)∧
   (c≠0→∀pre',Adding pre vs us.length 1 pre'∨Adding pre vs us.length 0 pre'→g - 1=nv us / nv vs∧nv pre'=nv us%nv vs∧0<g):=by
 have e:=h.eq;rw[List.take_of_length_le (by omega),List.take_of_length_le (Nat.le_refl _)]at e
 have hV:0<nv vs:=by
  refine Nat.pos_of_ne_zero fun e0=>?_;rw[e0]at hlt;omega
 have hdm:=Nat.div_add_mod (nv us) (nv vs);have hm:=Nat.mod_lt (nv us) hV;have hpl:=qE7 h.low;rw[h.len]at hpl;have hvl:=qE7 lv;have hvl2:B9^vs.length<B9^us.length:=by rw[hl];exact Nat.pow_lt_pow_right (by have:=qAO;omega) (by omega)
 have hPc:c≠0→B9^us.length≤B9^us.length*c:=fun hc=>Nat.le_mul_of_pos_right _ (by omega)
 rcases Nat.lt_or_eq_of_le hg2 with hg3|hg3
 ·have hgq:g=nv us / nv vs:=by omega
  have hcz:c=0:=by
   refine Nat.eq_zero_of_not_pos fun hc=>?_;have:=hPc (by omega);rw[hgq,Nat.mul_comm]at e;omega
  refine⟨fun _=>⟨hgq,?_⟩,fun hc=>absurd hcz hc⟩;rw[hcz,Nat.mul_zero,hgq,Nat.mul_comm]at e;omega
 ·have e2:g*nv vs=nv vs*(nv us / nv vs)+nv vs:=by rw[hg3,Nat.add_mul,Nat.one_mul,Nat.mul_comm]
  have hc1:c=1:=by
   have h1:c≠0:=by
    rintro rfl;rw[Nat.mul_zero]at e;omega
   refine Nat.le_antisymm (Nat.le_of_lt_succ (Nat.lt_of_not_le fun h2=>?_)) (by omega);have:=Nat.mul_le_mul_left (B9^us.length) h2;omega
  refine⟨fun hc=>by omega,fun _ pre' hp=>?_⟩;rw[hc1,Nat.mul_one]at e
  have hfin:nv pre'=nv us%nv vs:=by
   rcases hp with hp|hp
   ·have e3:=hp.eq;rw[Nat.mul_one,List.take_of_length_le (by rw[h.len];omega),List.take_of_length_le (by omega)]at e3;omega
   ·have e3:=hp.eq;rw[Nat.mul_zero,List.take_of_length_le (by rw[h.len];omega),List.take_of_length_le (by omega)]at e3;have:=qE7 hp.low;rw[hp.len]at this;omega
  exact⟨by rw[hg3];exact Nat.add_sub_cancel _ _,hfin,by rw[hg3];exact Nat.succ_pos _⟩
theorem qIV {b1:Nat} (h1:0<b1) (h2:b1<B9):0<B9 / (b1+1)∧B9 / (b1+1)<B9∧B9<4*(b1*(B9 / (b1+1))):=by
 have hd:=Nat.div_add_mod B9 (b1+1);have hm:=Nat.mod_lt B9 (show 0<b1+1 by omega);have h3:0<B9 / (b1+1):=Nat.div_pos (by omega) (by omega);generalize B9 / (b1+1)=d at*;rw[Nat.add_mul,Nat.one_mul]at hd;have h4:b1*1≤b1*d:=Nat.mul_le_mul_left _ h3;have h5:1*d≤b1*d:=Nat.mul_le_mul_right _ h1;refine⟨h3,?_,?_⟩<;>omega
theorem qLF {n s b:Nat} (hn:0<(dg b).length) (hs:s=B9 / ((dg b)[(dg b).length - 1]'(by omega)+1)) (hlen:(dg b).length =n):
  ∃h:(dg (b*s)).length =n,B9<4*((dg (b*s))[n - 1]'(by omega)+1):=by
 have hb1:=qEj hn;have hb2:=qBQ b ((dg b).length - 1) (by omega);have hbv:=qAl b;rw[qC8 (dg b) ((dg b).length - 1) (by omega),List.drop_eq_nil_of_le (by omega)]at hbv;have htl:=qCN (qAq b) ((dg b).length - 1) (by omega);subst hlen;generalize hb1e:(dg b)[(dg b).length - 1]'(by omega)=b1 at*;obtain⟨k1,k2,k3⟩:=qIV hb1 hb2;rw[←hs]at k1 k2 k3;have hm:s*(b1+1)≤B9:=by rw[hs];exact Nat.div_mul_le_self _ _
 have hpw:B9^(dg b).length =B9^((dg b).length - 1)*B9:=by rw[←Nat.pow_succ];congr 1;omega
 have hpp:=qES ((dg b).length - 1)
 have hup:b*s<B9^(dg b).length :=by
  have h1:b<B9^((dg b).length - 1)*(b1+1):=by simp only[nv,Nat.mul_zero,Nat.add_zero]at hbv;rw[Nat.mul_add,Nat.mul_one];omega
  have h2:=Nat.mul_lt_mul_of_pos_right h1 k1;have h3:B9^((dg b).length - 1)*(b1+1)*s≤B9^(dg b).length :=by rw[hpw,Nat.mul_assoc,Nat.mul_comm (b1+1)];exact Nat.mul_le_mul_left _ hm
  omega
 have hl1:=qAb hup;have hl2:(dg b).length ≤(dg (b*s)).length :=qAJ (Nat.le_mul_of_pos_right _ k1);have hl:(dg (b*s)).length =(dg b).length :=by omega
 refine⟨hl,?_⟩;have hvv:=qAl (b*s);rw[qC8 (dg (b*s)) ((dg b).length - 1) (by omega),List.drop_eq_nil_of_le (by omega)]at hvv;have htv:=qCN (qAq (b*s)) ((dg b).length - 1) (by omega);generalize (dg (b*s))[(dg b).length - 1]'(by omega)=t1 at*
 have h4:b1*s<t1+1:=by
  refine Nat.lt_of_mul_lt_mul_left (a:=B9^((dg b).length - 1)) ?_;have h5:B9^((dg b).length - 1)*b1≤b:=by simp only[nv,Nat.mul_zero,Nat.add_zero]at hbv;omega
  have h6:=Nat.mul_le_mul_right s h5;rw[Nat.mul_assoc]at h6;simp only[nv,Nat.mul_zero,Nat.add_zero]at hvv;rw[Nat.mul_add,Nat.mul_one];omega
 omega
structure Dividing (T V n m k:Nat) (ul ql:List Nat):Prop where
 ulen:ul.length=m+1+n
 ulow:Low ul
 qlen:ql.length=m+1
 qlow:Low ql
 eq:nv ul+V*(B9^k*nv (ql.drop k))=T
 less:nv (ul.drop k)<V
theorem qMF {u x y p V T:Nat} (e:u=x+p*y) (h3:u=T) (h4:T<V*p):y<V:=by
 refine Nat.lt_of_not_le fun hle=>?_;have:=Nat.mul_le_mul_left p hle;rw[Nat.mul_comm V]at h4;omega
theorem Dividing.start {T V n m:Nat} {ul:List Nat} (h1:ul.length=m+1+n) (h2:Low ul) (h3:nv ul=T) (h4:T<V*B9^(m+1)):Dividing T V n m (m+1) ul (List.replicate (m+1) 0):=by
 refine⟨h1,h2,by simp,qCU _,?_,?_⟩
 ·rw[List.drop_eq_nil_of_le (by simp),nv,Nat.mul_zero,Nat.mul_zero,Nat.add_zero];exact h3
 ·exact qMF (qBf ul (m+1) (by omega)) h3 h4
theorem Dividing.window {T V n m j:Nat} {ul ql:List Nat} (h:Dividing T V n m (j+1) ul ql) (hj:j≤m):((ul.drop j).take (n+1)).length =n+1∧Low ((ul.drop j).take (n+1))∧nv ((ul.drop j).take (n+1))<V*B9:=by
 have hl:=h.ulen;refine⟨by simp;omega,(h.ulow.drop j).take _,?_⟩;have e1:=qCY ul j (by omega);have e2:=qBf (ul.drop j) (n+1) (by simp;omega);have h1:=h.ulow.get j (by omega);have h2:=Nat.mul_le_mul_left B9 (show nv (ul.drop (j+1))+1≤V from h.less);rw[Nat.mul_add,Nat.mul_one]at h2;rw[Nat.mul_comm V];omega
theorem Dividing.next {T V n m j:Nat} {ul ql us':List Nat} (h:Dividing T V n m (j+1) ul ql) (hj:j≤m) (hV:V≤B9^n) (hl':us'.length=n+1) (hlow:Low us') (hV0:0<V)
  (hr:nv us'=nv ((ul.drop j).take (n+1))%V):Dividing T V n m j (ul.take j++us'++ul.drop (j+n+1)) (ql.set j (nv ((ul.drop j).take (n+1)) / V)):=by
 obtain⟨w1,w2,w3⟩:=h.window hj;have hl:=h.ulen;have hq:=h.qlen;have hdm:=Nat.div_add_mod (nv ((ul.drop j).take (n+1))) V;have hm:=Nat.mod_lt (nv ((ul.drop j).take (n+1))) hV0;have hqB:nv ((ul.drop j).take (n+1)) / V<B9:=qDS hV0 (by rw[Nat.mul_comm];exact w3);have e1:=qBf ul j (by omega);have e2:=qBf (ul.drop j) (n+1) (by simp;omega);rw[List.drop_drop,←Nat.add_assoc]at e2
 have hD:nv (ul.drop (j+n+1))=0:=by
  refine Nat.eq_zero_of_not_pos fun hD=>?_;have k1:=qCY ul j (by omega);have k2:=h.ulow.get j (by omega);have k3:=Nat.mul_le_mul_left B9 (show nv (ul.drop (j+1))+1≤V from h.less);rw[Nat.mul_add,Nat.mul_one]at k3;have k4:B9*V≤B9^(n+1):=by rw[Nat.pow_succ,Nat.mul_comm];exact Nat.mul_le_mul_right _ hV
  have k5:=Nat.mul_le_mul_left (B9^(n+1)) hD;omega
 have e3:nv (ul.take j++us'++ul.drop (j+n+1))=nv (ul.take j)+B9^j*nv us':=by
  rw[List.append_assoc,qCH,qCH,hD,Nat.mul_zero,Nat.add_zero,List.length_take,Nat.min_eq_left (by omega)]
 refine⟨by simp[hl'];omega,((h.ulow.take j).append hlow).append (h.ulow.drop _),by simpa using hq,h.qlow.set _ _ hqB,?_,?_⟩
 ·rw[e3]
  have e4:nv ((ql.set j (nv ((ul.drop j).take (n+1)) / V)).drop j)=nv ((ul.drop j).take (n+1)) / V+B9*nv (ql.drop (j+1)):=by
   rw[qCY _ j (by simp;omega),List.getElem_set_self,List.drop_set_of_lt (by omega)]
  rw[e4];have e5:=h.eq;rw[e1,e2,hD,Nat.mul_zero,Nat.add_zero]at e5;generalize nv ((ul.drop j).take (n+1))=U at*;rw[hr];generalize hqq:U / V=q at*
  have e6:V*(B9^j*(q+B9*nv (ql.drop (j+1))))=B9^j*(V*q)+V*(B9^(j+1)*nv (ql.drop (j+1))):=by
   rw[Nat.pow_succ,Nat.mul_add,Nat.mul_add,Nat.mul_left_comm V (B9^j) q,←Nat.mul_assoc (B9^j) B9]
  rw[e6];have e7:B9^j*U=B9^j*(V*q)+B9^j*(U%V):=by rw[←Nat.mul_add,hdm]
  omega
 ·have e8:(ul.take j++us'++ul.drop (j+n+1)).drop j=us'++ul.drop (j+n+1):=by
   rw[List.append_assoc,List.drop_append,List.drop_eq_nil_of_le (List.length_take_le _ _),List.length_take,Nat.min_eq_left (by omega)];simp
  rw[e8,qCH,hD,hr];simpa using hm
theorem Dividing.done {a b s n m:Nat} {ul ql:List Nat} (h:Dividing (a*s) (b*s) n m 0 ul ql) (hs:0<s) (hb:0<b) (hV:b*s≤B9^n):nv ql=a / b∧nv (ul.take n)=a%b*s:=by
 have e:=h.eq;have hl:=h.less;rw[List.drop_zero,Nat.pow_zero,Nat.one_mul]at e;rw[List.drop_zero]at hl;have hV0:0<b*s:=Nat.mul_pos hb hs
 have h1:nv ql=a*s / (b*s):=by
  rw[←e,Nat.add_mul_div_left _ _ hV0,Nat.div_eq_of_lt hl,Nat.zero_add]
 have h2:nv ul=a*s%(b*s):=by
  rw[←e,Nat.add_mul_mod_self_left,Nat.mod_eq_of_lt hl]
 rw[Nat.mul_div_mul_right _ _ hs]at h1;rw[Nat.mul_mod_mul_right]at h2;refine⟨h1,?_⟩;have h3:=qBf ul n (by rw[h.ulen];omega)
 have h4:nv (ul.drop n)=0:=by
  refine Nat.eq_zero_of_not_pos fun hp=>?_;have:=Nat.mul_le_mul_left (B9^n) hp;omega
 rw[h4,Nat.mul_zero,Nat.add_zero]at h3;omega
theorem qF9 {b r g:Nat} (hb:0<b) (hr:r<b) (hg:g<B9):(r*B9+g) / b<B9∧(r*B9+g)%b<b∧(r*B9+g) / b*b+(r*B9+g)%b=r*B9+g:=by
 refine⟨(Nat.div_lt_iff_lt_mul hb).2 ?_,Nat.mod_lt _ hb,by rw[Nat.mul_comm];exact Nat.div_add_mod _ _⟩;have:=Nat.mul_le_mul_right B9 (show r+1≤b from hr);rw[Nat.add_mul,Nat.one_mul]at this;rw[Nat.mul_comm B9 b];omega
structure ByGroup (a:List Nat) (b k rest:Nat) (out:List Nat):Prop where
 len:out.length=a.length
 low:Low out
 eq:nv (out.drop k)*b+rest=nv (a.drop k)
 less:rest<b
theorem ByGroup.start (a:List Nat) (b:Nat) (hb:0<b):ByGroup a b a.length 0 (List.replicate a.length 0):=
 ⟨by simp,qCU _,by rw[List.drop_eq_nil_of_le (by simp),List.drop_eq_nil_of_le (Nat.le_refl _)];simp[nv],hb⟩
theorem ByGroup.next {a:List Nat} {b k rest:Nat} {out:List Nat} (h:ByGroup a b (k+1) rest out) (la:Low a) (hk:k<a.length) (d:Nat) (hd:d=rest*B9+a[k]):
  ByGroup a b k (d%b) (out.set k (d / b))∧d / b<B9:=by
 have hb:0<b:=Nat.lt_of_le_of_lt (Nat.zero_le _) h.less;obtain⟨h1,h2,h3⟩:=qF9 hb h.less (la.get k hk);rw[←hd]at h1 h2 h3;have hl:=h.len;refine⟨⟨by simp[hl],h.low.set _ _ h1,?_,h2⟩,h1⟩
 have e1:nv ((out.set k (d / b)).drop k)=d / b+B9*nv (out.drop (k+1)):=by
  rw[qCY _ k (by simp;omega),List.getElem_set_self,List.drop_set_of_lt (by omega)]
 rw[e1,qCY a k hk,Nat.add_mul,Nat.mul_assoc];have e2:=h.eq;have e3:=congrArg (B9* ·) e2;simp only[Nat.mul_add]at e3;rw[Nat.mul_comm B9 rest]at e3;omega
theorem ByGroup.done {a:List Nat} {b rest:Nat} {out:List Nat} (h:ByGroup a b 0 rest out):nv out=nv a / b∧rest=nv a%b:=by
 have hb:0<b:=Nat.lt_of_le_of_lt (Nat.zero_le _) h.less;have e:=h.eq;rw[List.drop_zero,List.drop_zero,Nat.mul_comm]at e;have h1:nv a / b=nv out:=by rw[←e,Nat.mul_add_div hb,Nat.div_eq_of_lt h.less,Nat.add_zero]
 have h2:nv a%b=rest:=by rw[←e,Nat.mul_add_mod,Nat.mod_eq_of_lt h.less]
 exact⟨h1.symm,h2.symm⟩
theorem qMG {a b:List Nat} (hl:a.length=b.length) (k:Nat) (hk:k<a.length) (hd:a.drop (k+1)=b.drop (k+1)) (he:a[k]=b[k]'(by omega)):a.drop k=b.drop k:=by
 rw[List.drop_eq_getElem_cons hk,List.drop_eq_getElem_cons (l:=b) (i:=k) (by omega),hd,he]
theorem qIW {a b:Nat} (hl:(dg a).length =(dg b).length) (k:Nat) (hk:k<(dg a).length) (hd:(dg a).drop (k+1)=(dg b).drop (k+1)) (h:(dg a)[k]<(dg b)[k]'(by omega)):a<b:=by
 have:=qMB (qAq a) hl k hk hd h
 rwa[qAl,qAl]at this
theorem qMH {a b:Nat} (hd:(dg a).drop 0=(dg b).drop 0):a=b:=by
 rw[List.drop_zero,List.drop_zero]at hd;exact dg_inj.1 hd
theorem Mul.nil_eq {a:List Nat} {b:List Nat} {i:Nat} {out:List Nat} (hb:b=[]) (h:Mul a b i out):Mul a b (i+1) out:=by subst hb;exact h.nil
theorem qNV (a b:Nat):Nat.gcd b (a%b)=Nat.gcd a b:=by
 rw[Nat.gcd_comm a b,Nat.gcd_rec b a,Nat.gcd_comm]
theorem qO1 (a b:Nat) (h:a≠0∨b≠0):(dg (Nat.gcd a b)).length ≤max (dg a).length (dg b).length :=by
 by_cases ha:a=0
 ·subst ha;rw[Nat.gcd_zero_left];omega
 ·have:=qAJ (Nat.le_of_dvd (by omega) (Nat.gcd_dvd_left a b));omega
def qA9 (ul:List Nat) (j:Nat) (pre:List Nat):List Nat:=ul.take j++pre++ul.drop (j+pre.length)
theorem qLG (ul:List Nat) (j:Nat):qA9 ul j []=ul:=by unfold qA9;simp
theorem qFE {ul pre:List Nat} {j:Nat} (h:j+pre.length≤ul.length):(qA9 ul j pre).length =ul.length:=by unfold qA9;simp;omega
theorem qHE {ul pre:List Nat} {j:Nat} (h:j+pre.length<ul.length) (y:Nat):(qA9 ul j pre).set (j+pre.length) y=qA9 ul j (pre++[y]):=by
 unfold qA9;have hl:(ul.take j++pre).length =j+pre.length:=by simp;omega
 rw[List.set_append_right _ _ (by omega),hl,Nat.sub_self,List.drop_eq_getElem_cons h,List.set_cons_zero,List.length_append];simp[Nat.add_assoc]
theorem qLH {ul pre:List Nat} {j i:Nat} (h:j+i<ul.length) (hi:pre.length≤i):(qA9 ul j pre)[j+i]? =some (ul[j+i]):=by
 unfold qA9;have hl:(ul.take j++pre).length =j+pre.length:=by simp;omega
 rw[List.getElem?_append_right (by omega),hl,List.getElem?_drop,show j+pre.length+(j+i - (j+pre.length))=j+i by omega,List.getElem?_eq_getElem h]
theorem qMI {ul pre:List Nat} {j i:Nat} (h:j+pre.length≤ul.length) (hi:i<pre.length):(qA9 ul j pre)[j+i]? =some pre[i]:=by
 unfold qA9;have hl:(ul.take j).length =j:=by simp;omega
 rw[List.append_assoc,List.getElem?_append_right (by omega),hl,show j+i - j=i by omega,List.getElem?_append_left hi,List.getElem?_eq_getElem hi]
theorem qHF {ul X:List Nat} {j k:Nat} (h:j+X.length≤ul.length) (hk:k<X.length) (y:Nat):(qA9 ul j X).set (j+k) y=qA9 ul j (X.set k y):=by
 unfold qA9;have hl:(ul.take j).length =j:=by simp;omega
 rw[List.append_assoc,List.set_append_right _ _ (by omega),hl,show j+k - j=k by omega,List.set_append_left _ _ hk,List.length_set,List.append_assoc]
theorem qK6 {pre pre2:List Nat} {k:Nat} (h:pre2.length=k) (hk:k<pre.length) (y:Nat):(pre2++pre.drop k).set k y=(pre2++[y])++pre.drop (k+1):=by
 subst h;rw[List.set_append_right _ _ (Nat.le_refl _),Nat.sub_self,List.drop_eq_getElem_cons hk,List.set_cons_zero,List.append_assoc]
 rfl
theorem qO2 {pre pre2:List Nat} {k:Nat} (h:pre2.length=k) (hk:k<pre.length):(pre2++pre.drop k)[k]? =some pre[k]:=by
 subst h;rw[List.getElem?_append_right (Nat.le_refl _),Nat.sub_self,List.getElem?_drop,Nat.add_zero,List.getElem?_eq_getElem hk]
theorem Taking.zero {us vs:List Nat} {i c:Nat} {pre:List Nat} (h:Taking us vs 0 i c pre) (lu:Low us) (hi:i≤us.length):c=0:=by
 have e:=h.eq;have h1:=qE7 h.low;rw[h.len]at h1;rw[Nat.zero_mul,Nat.add_zero]at e;refine Nat.eq_zero_of_not_pos fun hc=>?_;have:B9^i*1≤B9^i*c:=Nat.mul_le_mul_left _ hc;omega
def sg (neg:Bool) (n:Nat):Int:=if neg then -(n:Int)else(n:Int)
theorem qIX (neg:Bool) (n:Nat):(sg neg n).natAbs =n:=by unfold sg;split<;>simp
theorem qO3 (neg:Bool):sg neg 0=0:=by unfold sg;split<;>simp
theorem qHr (z:Int):sg (decide (z<0)) z.natAbs=z:=by
 unfold sg
 by_cases h:z<0
 ·simp[h];omega
 ·simp[h];omega
theorem qMJ (s t:Bool) (m n:Nat):sg s m*sg t n=sg (s != t) (m*n):=by
 unfold sg
 cases s<;>cases t<;>simp[Int.neg_mul,Int.mul_neg]
theorem qDT (s:Bool) (m n:Nat):sg s m*(n:Int)=sg s (m*n):=by
 unfold sg
 cases s<;>simp[Int.neg_mul]
theorem qPI (s:Bool) (m n:Nat):sg s m+sg s n=sg s (m+n):=by
 unfold sg
 cases s<;>simp<;>omega
theorem qMK {s t:Bool} (h:s≠t) (m n:Nat):sg s m+sg t n=if m<n then sg t (n - m)else sg s (m - n):=by
 unfold sg
 cases s<;>cases t<;>simp at h<;>simp<;>split<;>omega
def rneg (r:Rat):Bool:=decide (r.num<0)
def rnum (r:Rat):Nat:=r.num.natAbs
theorem qDs (r:Rat):r.num=sg (rneg r) (rnum r):=(qHr r.num).symm
theorem qAU (r:Rat):0<r.den:=Nat.pos_of_ne_zero r.den_nz
theorem qPJ (r:Rat):Nat.gcd (rnum r) r.den=1:=r.reduced
theorem qLI {r:Rat} (h:rnum r=0):rneg r=false:=by
 unfold rneg;unfold rnum at h;rw[Int.natAbs_eq_zero]at h;rw[h];rfl
def mkR (neg:Bool) (n d:Nat):Rat:=mkRat (sg neg n) d
theorem qEM (neg:Bool) (n d:Nat) (h:d≠0):rnum (mkR neg n d)=n / Nat.gcd n d:=by
 unfold rnum mkR;rw[Rat.num_mkRat,if_neg h];have e:(d.gcd (sg neg n).natAbs)=n.gcd d:=by rw[qIX,Nat.gcd_comm]
 rw[e];unfold sg
 split
 ·rw[show(-(n:Int))=(n:Int)*(-1)by omega];have hd:((n.gcd d:Nat):Int)∣(n:Int):=Int.natCast_dvd_natCast.2 (Nat.gcd_dvd_left n d);rw[Int.mul_comm,Int.mul_ediv_assoc _ hd];rw[Int.natAbs_mul];simp;rw[←Int.natCast_ediv,Int.natAbs_natCast]
 ·rw[←Int.natCast_ediv,Int.natAbs_natCast]
theorem qEt (neg:Bool) (n d:Nat) (h:d≠0):(mkR neg n d).den =d / Nat.gcd n d:=by
 unfold mkR;rw[Rat.den_mkRat,if_neg h,qIX,Nat.gcd_comm]
theorem qJF (neg:Bool) (d:Nat):mkR neg 0 d=0:=by unfold mkR;rw[qO3,Rat.zero_mkRat]
theorem qHs (neg:Bool) (n d:Nat) (h:d≠0):rneg (mkR neg n d)=(neg&&decide (0<n)):=by
 by_cases hn:n=0
 ·subst hn;rw[qJF];simp;rfl
 ·have h1:=qEM neg n d h;have hg:0<n.gcd d:=Nat.gcd_pos_of_pos_left _ (by omega);have hp:0<n / n.gcd d:=Nat.div_pos (Nat.le_of_dvd (by omega) (Nat.gcd_dvd_left n d)) hg
  have h2:0≤mkR neg n d↔neg=false:=by
   unfold mkR;rw[←Rat.divInt_ofNat,Rat.divInt_nonneg_iff_of_pos_right (by omega)];unfold sg
   cases neg<;>simp<;>omega
  rw[←Rat.num_nonneg]at h2;unfold rneg
  cases neg with
  | true=>
   have:¬0≤(mkR true n d).num :=by rw[h2];simp
   simp;omega
  | false=>
   have:0≤(mkR false n d).num :=by rw[h2]
   rw[Bool.false_and,decide_eq_false_iff_not];omega
theorem qJG (r:Rat):mkR (rneg r) (rnum r) r.den=r:=by
 unfold mkR;rw[←qDs,Rat.mkRat_self]
theorem qJH {a b:Rat} (h:rneg a=rneg b):mkR (rneg a) (rnum a*b.den+rnum b*a.den) (a.den*b.den)=a+b:=by
 rw[Rat.add_def',mkR,←qPI,←qDT,←qDT,←qDs,h,←qDs]
theorem qML {a b:Rat} (h:rneg a≠rneg b):(if rnum a*b.den<rnum b*a.den then mkR (rneg b) (rnum b*a.den - rnum a*b.den) (a.den*b.den)else mkR (rneg a) (rnum a*b.den - rnum b*a.den) (a.den*b.den))=a+b:=by
 rw[Rat.add_def'];have e:=qMK h (rnum a*b.den) (rnum b*a.den);rw[←qDT,←qDT,←qDs,←qDs]at e;rw[e];unfold mkR
 split<;>rfl
theorem qHt (a b:Rat):mkR (rneg a != rneg b) (rnum a*rnum b) (a.den*b.den)=a*b:=by
 rw[Rat.mul_def',mkR,←qMJ,←qDs,←qDs]
theorem rnum_zero {r:Rat}:rnum r=0↔r=0:=by unfold rnum;rw[Int.natAbs_eq_zero,Rat.num_eq_zero]
theorem qGE {a b:Rat} (h:b≠0):mkR (rneg a != rneg b) (rnum a*b.den) (a.den*rnum b)=a / b:=by
 have hb:rnum b≠0:=fun e=>h (rnum_zero.1 e)
 have e1:mkR (rneg a != rneg b) (rnum a*b.den) (a.den*rnum b)*b=a:=by
  conv=>lhs;rhs;rw[←qJG b]
  unfold mkR;rw[Rat.mkRat_mul_mkRat,qMJ];have e2:((rneg a != rneg b) != rneg b)=rneg a:=by cases rneg a<;>cases rneg b<;>rfl
  rw[e2];have e3:sg (rneg a) (rnum a*b.den*rnum b)=sg (rneg a) (rnum a)*((b.den*rnum b:Nat):Int):=by rw[qDT,Nat.mul_assoc]
  have e4:a.den*rnum b*b.den=a.den*(b.den*rnum b):=by rw[Nat.mul_assoc,Nat.mul_comm (rnum b)]
  rw[e3,e4,Rat.mkRat_mul_right (by have:=qAU b;exact Nat.ne_of_gt (Nat.mul_pos this (by omega)))];rw[←qDs,Rat.mkRat_self]
 rw[Rat.div_def];have e5:=congrArg (· *b⁻¹) e1;simp only[Rat.mul_assoc,Rat.mul_inv_cancel b h,Rat.mul_one]at e5;exact e5
theorem qHu (a:Rat):rneg (-a)=(!rneg a&&decide (0<rnum a))∧rnum (-a)=rnum a∧(-a).den =a.den:=by
 unfold rneg rnum;refine⟨?_,by simp,rfl⟩;simp only[Rat.neg_num];rw[Bool.eq_iff_iff];simp only[decide_eq_true_eq,Bool.and_eq_true,Bool.not_eq_true',decide_eq_false_iff_not];omega
def rsgn (r:Rat):Int:=r.num.sign
theorem qO4 (r:Rat):rsgn r=if rnum r=0 then 0 else if rneg r then -1 else 1:=by
 unfold rsgn rnum rneg
 by_cases h:r.num=0
 ·simp[h]
 ·by_cases h2:r.num<0
  ·simp[h,h2,Int.sign_eq_neg_one_of_neg h2]
  ·simp[h,h2,Int.sign_eq_one_of_pos (show 0<r.num by omega)]
theorem qKJ (n d:Nat):(dg (n / Nat.gcd n d)).length ≤(dg n).length :=qAJ (Nat.div_le_self _ _)
theorem qJI (n d:Nat):(dg (d / Nat.gcd n d)).length ≤(dg d).length :=qAJ (Nat.div_le_self _ _)
theorem qDF (neg:Bool) (n d:Nat) (h:d≠0):(dg (rnum (mkR neg n d))).length ≤(dg n).length ∧(dg (mkR neg n d).den).length ≤(dg d).length :=by
 rw[qEM _ _ _ h,qEt _ _ _ h];exact⟨qKJ n d,qJI n d⟩
end Go.Proofs.YtenjpccpldajoaaGreatDoor

/- Points of a path are traced to it: plain laws of ReadTraced. -/
import Derived.Test.YtabfaobakmjiaaaGreatPy50
namespace Go.Proofs.YtabfaobakmjiaaaGreat
set_option maxRecDepth 100000
set_option linter.unusedVariables false
def Cd (z:Int):Prop:=z≠2/\z≠6
theorem cd0:Cd 0:=⟨by decide,by decide⟩
theorem cd4:Cd 4:=⟨by decide,by decide⟩
theorem cd10:Cd 10:=⟨by decide,by decide⟩
theorem cd11:Cd 11:=⟨by decide,by decide⟩
theorem cd12:Cd 12:=⟨by decide,by decide⟩
theorem cd20:Cd 20:=⟨by decide,by decide⟩
theorem cd22:Cd 22:=⟨by decide,by decide⟩
theorem qJN {g:G2} {z:Int} (h:outG g= .error z):Cd z:=by
 unfold outG at h
 split at h
 ·cases h
 ·injection h with h;subst h;exact cd12
theorem qPY {f:G2->G2->G2} {x y:FracA×FracA} {z:Int} (h:opG (λa b=>outG (f a b)) x y= .error z):Cd z:=by
 unfold opG at h
 split at h
 ·exact qJN h
 ·injection h with h;subst h;exact cd10
theorem qR2 {x:FracA×FracA} {n z:Int} (hn: -64<=n/\n<=64) (h:powG x n= .error z):Cd z:=by
 unfold powG at h
 split at h
 ·split at h
  ·omega
  ·split at h
   ·split at h
    ·injection h with h;subst h;exact cd11
    ·exact qJN h
   ·exact qJN h
 ·injection h with h;subst h;exact cd10
theorem qR3 {u:FracA×FracA} {s:G2} {a:ArmA} {z:Int} (ha: -64<=a.k/\a.k<=64) (h:armG u s a= .error z):Cd z:=by
 obtain⟨k,c⟩:=a
 cases hP:powG u k with
 | error y=>rw[qJJ hP]at h;injection h with h;subst h;exact qR2 ha hP
 | ok x=>
  cases hM:mulG c (qAa x)with
  | error y=>rw[qJK hP hM]at h;injection h with h;subst h;exact qPY hM
  | ok y=>rw[qHD hP hM]at h;exact qPY h
theorem qJp {u:FracA×FracA} {z:Int}:∀(l:List ArmA) {s:G2},(∀a∈l,-64<=a.k/\a.k<=64)->qBL u s l= .error z->Cd z
 | [],s,_,h=>by cases h
 | a::l,s,ha,h=>by
  unfold qBL at h
  split at h
  ·rename_i y hy;injection h with h;subst h;exact qR3 (ha a List.mem_cons_self) hy
  ·exact qJp l (λb hb=>ha b (List.mem_cons_of_mem _ hb)) h
theorem qLh (x:FracA):Cd (qAV x).2:=by
 unfold qAV
 split
 ·split
  ·exact cd0
  ·exact cd12
 ·exact cd10
theorem qQ8 {x:FracA×FracA} {z:Int} (h:qB0 x= .error z):Cd z:=by
 unfold qB0 at h
 split at h
 ·injection h with h;subst h;exact qLh _
 ·split at h
  ·injection h with h;subst h;exact qLh _
  ·split at h
   ·cases h
   ·injection h with h;subst h;exact cd22
theorem qPZ {l:List ArmA} (h:qC5 l=0):∀a∈l,-64<=a.k/\a.k<=64:=by
 have b:qDL l=true:=by
  rcases qHT l with h9|h9
  ·exact h9.2.2
  ·exact absurd h h9.1
 intro a k;obtain⟨j,f,rfl⟩:=List.getElem_of_mem k;unfold qDL at b;have i:qDS l j=true:=(qHV _ _).1 b j f;obtain⟨g,-,-,c,d,-⟩:=qF3 i;have e:l.getD j default=l[j]:=by rw[List.getD_eq_getElem?_getD,List.getElem?_eq_getElem f];rfl
 rw[e]at c d;exact⟨c,d⟩
theorem qJq {l:List ArmA} {n:Nat} (hl:∀a∈l,-64<=a.k/\a.k<=64):∀{m:Nat} {z:Int},qAz l n m= .error z->Cd z
 | 0,z,h=>by cases h
 | m+1,z,h=>by
  unfold qAz at h
  split at h
  ·rename_i e he;injection h with h;rw[<-h];exact qJq hl he
  ·split at h
   ·rename_i e he;injection h with h;rw[<-h];unfold qCa at he
    split at he
    ·rename_i e2 he2;injection he with he;rw[<-he];exact qJp _ hl he2
    ·exact qQ8 he
   ·cases h
theorem qOA {l:List ArmA} {n z:Int} (hn:1<=n/\n<=16) (h:qA4 l n= .error z):Cd z:=by
 unfold qA4 at h
 by_cases b:qC5 l≠0
 ·rw[if_pos b]at h;injection h with h;rw[<-h];unfold qC5
  split
  ·exact cd4
  ·split
   ·exact cd0
   ·exact cd20
 ·rw[if_neg b,if_pos hn]at h;exact qJq (qPZ (by simpa using b)) h
theorem qI9 {paths:List (List ArmA)} {n:Int} {seen:List Sp} {t:Int} (hn:1<=n/\n<=16):∀{i:Nat} {z:Int},qAn paths n seen t i= .error z->Cd z
 | 0,z,h=>by cases h
 | i+1,z,h=>by
  unfold qAn at h
  split at h
  ·rename_i e he;injection h with h;rw[<-h];exact qI9 hn he
  ·split at h
   ·rename_i e he;injection h with h;rw[<-h];exact qOA hn he
   ·cases h
theorem qIa {paths:List (List ArmA)} {n:Int} {seen:List Sp} {t:Int}:∀{i:Nat} {z:Int},qAn paths n seen t i= .error z->z≠0
 | 0,z,h=>by cases h
 | i+1,z,h=>by
  unfold qAn at h
  split at h
  ·rename_i e he;injection h with h;rw[<-h];exact qIa he
  ·split at h
   ·rename_i e he;injection h with h;rw[<-h];exact qGB he
   ·cases h
theorem qHU {paths:List (List ArmA)} {n:Int} {seen:List Sp} {tol:Int}:∀{i:Nat} {L:List Tra},qAn paths n seen tol i= .ok L->∀t,t∈L↔∃P,t.path<i/\qA4 (paths.getD t.path []) n= .ok P/\t.fr<P.length/\t.q<4/\fitT P seen tol t=true
 | 0,L,h,t=>by
  injection h with h;rw[<-h];constructor
  ·intro h;cases h
  ·rintro⟨P,h,-⟩;exact absurd h (Nat.not_lt_zero _)
 | i+1,L,h,t=>by
  unfold qAn at h
  split at h
  ·cases h
  ·rename_i L' h'
   split at h
   ·cases h
   ·rename_i P hP;injection h with h;rw[<-h,List.mem_append,qHU h'];unfold gotT;rw[List.mem_filter];constructor
    ·rintro(⟨Q,h1,h2⟩| ⟨h1,h2⟩)
     ·exact⟨Q,by omega,h2⟩
     ·unfold qBG at h1;obtain⟨k,hk,rfl⟩:=List.mem_map.1 h1;have hk:=List.mem_range.1 hk;refine⟨P,by show i<i+1;omega,hP,by show k / 8<P.length;omega,by show k / 2%4<4;omega,h2⟩
    ·rintro⟨Q,h1,h2,h3,h4,h5⟩
     by_cases e:t.path=i
     ·right
      rw[e,hP]at h2;injection h2 with h2;subst h2;refine⟨?_,h5⟩;unfold qBG;refine List.mem_map.2 ⟨8*t.fr+2*t.q+(if t.bk then 1 else 0),List.mem_range.2 ?_,?_⟩
      ·split<;>omega
      ·unfold wayK;obtain⟨pa,fr,q,bk⟩:=t;dsimp only at e h3 h4 ⊢;subst e
       cases bk
       ·simp only[Bool.false_eq_true,if_false,Tra.mk.injEq,true_and];refine⟨by omega,by omega,?_⟩;rw[show(8*fr+2*q+0)%2=0 by omega]
        rfl
       ·simp only[if_true,Tra.mk.injEq,true_and];refine⟨by omega,by omega,?_⟩;rw[show(8*fr+2*q+1)%2=1 by omega]
        rfl
     ·left
      exact⟨Q,by omega,h2,h3,h4,h5⟩
theorem qOB {paths:List (List ArmA)} {n:Int} {seen:List Sp} {tol:Int} {w:Tra} {P:List Sp} (hA:trcA paths n seen tol=true) (hp:w.path<paths.length) (hP:qA4 (paths.getD w.path []) n= .ok P) (hf:w.fr<P.length) (hq:w.q<4) (hfit:fitT P seen tol w=true):
  (∃z,qDq paths n seen tol= .error z/\z≠0/\z≠2/\z≠6)∨∃L,qDq paths n seen tol= .ok L/\w∈L/\∀t∈L,t.path<paths.length/\∃Q,qA4 (paths.getD t.path []) n= .ok Q/\t.fr<Q.length/\t.q<4/\fitT Q seen tol t=true:=by
 have i:1<=n/\n<=16:=(qDH hP).1;unfold qDq;rw[hA,if_pos rfl]
 cases h:qAn paths n seen tol paths.length with
 | error z=>
  left
  obtain⟨b,g⟩:=qI9 i h;exact⟨z,rfl,qIa h,b,g⟩
 | ok L=>
  right
  have d:=qHU h;have c:w∈L:=(d w).2 ⟨P,hp,hP,hf,hq,hfit⟩;refine⟨L,?_,c,λt j=>?_⟩
  ·dsimp only;rw[if_neg (λe=>by rw[e]at c;cases c)]
  ·obtain⟨Q,f,b⟩:=(d t).1 j;exact⟨f,Q,b⟩
end Go.Proofs.YtabfaobakmjiaaaGreat

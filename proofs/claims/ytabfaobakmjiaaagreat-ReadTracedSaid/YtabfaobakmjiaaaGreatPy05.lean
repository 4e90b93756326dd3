/- Ranges of numbers, plain: lists of ranges in order that do not touch are told apart by what is in them; unions, intersections. What reading finds, plain: .. -/
import Derived.Test.YtabfaobakmjiaaaGreatPy04
namespace Go.Proofs.YtabfaobakmjiaaaGreat
set_option maxRecDepth 100000
set_option linter.unusedVariables false
abbrev Spn:=Int×Int
def inL (L:List Spn) (x:Int):Prop:=∃s∈L,s.1<=x/\x<=s.2
def Nm (L:List Spn):Prop:=(∀s∈L,s.1<=s.2)/\L.Pairwise (λs t=>s.2+1<t.1)
theorem qBP (x:Int):¬inL [] x:=λ⟨s,h,_⟩=>by cases h
theorem inL_cons {s:Spn} {L:List Spn} {x:Int}:inL (s::L) x↔(s.1<=x/\x<=s.2)∨inL L x:=by
 unfold inL;constructor
 ·rintro⟨t,b,h⟩
  rcases List.mem_cons.1 b with rfl|b
  ·exact .inl h
  ·exact .inr ⟨t,b,h⟩
 ·rintro(h| ⟨t,b,h⟩)
  ·exact⟨s,List.mem_cons_self,h⟩
  ·exact⟨t,List.mem_cons_of_mem _ b,h⟩
theorem qFg {A B:List Spn} {x:Int}:inL (A++B) x↔inL A x∨inL B x:=by
 unfold inL;constructor
 ·rintro⟨t,b,h⟩
  rcases List.mem_append.1 b with b|b
  ·exact .inl ⟨t,b,h⟩
  ·exact .inr ⟨t,b,h⟩
 ·rintro(⟨t,b,h⟩| ⟨t,b,h⟩)
  ·exact⟨t,List.mem_append_left _ b,h⟩
  ·exact⟨t,List.mem_append_right _ b,h⟩
theorem qEq:Nm []:=⟨λs h=>(by cases h),List.Pairwise.nil⟩
theorem nm_cons {s:Spn} {L:List Spn}:Nm (s::L)↔s.1<=s.2/\(∀t∈L,s.2+1<t.1)/\Nm L:=by
 unfold Nm;rw[List.pairwise_cons];constructor
 ·rintro⟨b,c,d⟩;exact⟨b s List.mem_cons_self,c,λt f=>b t (List.mem_cons_of_mem _ f),d⟩
 ·rintro⟨b,c,d,g⟩;exact⟨λt f=>(List.mem_cons.1 f).elim (λe=>by rw[e];exact b) (d t),c,g⟩
theorem nm_append {A B:List Spn}:Nm (A++B)↔Nm A/\Nm B/\∀s∈A,∀t∈B,s.2+1<t.1:=by
 unfold Nm;rw[List.pairwise_append];constructor
 ·rintro⟨c,d,f,g⟩;exact⟨⟨λs b=>c s (List.mem_append_left _ b),d⟩,⟨λs b=>c s (List.mem_append_right _ b),f⟩,g⟩
 ·rintro⟨⟨c,d⟩,⟨f,g⟩,h⟩;exact⟨λs b=>(List.mem_append.1 b).elim (c s) (f s),d,g,h⟩
theorem qEr {s:Spn} (h:s.1<=s.2):Nm [s]:=nm_cons.2 ⟨h,λt ht=>(by cases ht),qEq⟩
theorem qHp:∀{L M:List Spn},Nm L->Nm M->(∀x,inL L x↔inL M x)->L=M
 | [],[],_,_,_=>rfl
 | [],t::M,_,k,e=>by
  have k:=(nm_cons.1 k).1;exact absurd ((e t.1).2 ⟨t,List.mem_cons_self,Int.le_refl _,k⟩) (qBP _)
 | s::L,[],h,_,e=>by
  have h:=(nm_cons.1 h).1;exact absurd ((e s.1).1 ⟨s,List.mem_cons_self,Int.le_refl _,h⟩) (qBP _)
 | s::L,t::M,h,k,e=>by
  obtain⟨h1,h2,h3⟩:=nm_cons.1 h;obtain⟨k1,k2,k3⟩:=nm_cons.1 k
  have e1:s.1=t.1:=by
   have a:t.1<=s.1:=by
    rcases inL_cons.1 ((e s.1).1 ⟨s,List.mem_cons_self,Int.le_refl _,h1⟩)with⟨q,-⟩| ⟨u,c,q,-⟩
    ·exact q
    ·have:=k2 u c;omega
   have b:s.1<=t.1:=by
    rcases inL_cons.1 ((e t.1).2 ⟨t,List.mem_cons_self,Int.le_refl _,k1⟩)with⟨q,-⟩| ⟨u,c,q,-⟩
    ·exact q
    ·have:=h2 u c;omega
   omega
  have i:s.2=t.2:=by
   have a:t.2<=s.2:=by
    refine Int.not_lt.1 λd=>?_
    rcases inL_cons.1 ((e (s.2+1)).2 ⟨t,List.mem_cons_self,by omega,by omega⟩)with⟨-,q⟩| ⟨u,c,q,-⟩
    ·omega
    ·have:=h2 u c;omega
   have b:s.2<=t.2:=by
    refine Int.not_lt.1 λd=>?_
    rcases inL_cons.1 ((e (t.2+1)).1 ⟨s,List.mem_cons_self,by omega,by omega⟩)with⟨-,q⟩| ⟨u,c,q,-⟩
    ·omega
    ·have:=k2 u c;omega
   omega
  have j:s=t:=Prod.ext e1 i;subst j;rw[qHp h3 k3 λx=>?_];have f:=e x;rw[inL_cons,inL_cons]at f;constructor
  ·rintro⟨u,c,g,q2⟩
   rcases f.1 (.inr ⟨u,c,g,q2⟩)with⟨-,q⟩|q
   ·have:=h2 u c;omega
   ·exact q
  ·rintro⟨u,c,g,q2⟩
   rcases f.2 (.inr ⟨u,c,g,q2⟩)with⟨-,q⟩|q
   ·have:=k2 u c;omega
   ·exact q
def qA8 (out:List Spn) (s:Spn):List Spn:=match out.getLast? with
 | some t=>if s.1<=t.2+1 then out.dropLast++[(t.1,max t.2 s.2)]else out++[s]
 | none=>[s]
def qGP (l:List Spn):List Spn:=l.foldl qA8 []
theorem qCw (pre:List Spn) (t s:Spn):qA8 (pre++[t]) s=if s.1<=t.2+1 then pre++[(t.1,max t.2 s.2)]else pre++[t]++[s]:=by
 unfold qA8;rw[List.getLast?_append];simp
theorem qK5:∀(l out:List Spn),Nm out->l.Pairwise (λs t=>s.1<=t.1)->(∀s∈l,s.1<=s.2)->(∀t∈out,∀s∈l,t.1<=s.1)→
  Nm (l.foldl qA8 out)/\∀x,inL (l.foldl qA8 out) x↔inL out x∨inL l x
 | [],out,h,_,_,_=>⟨h,λx=>⟨.inl,λq=>q.elim id λk=>absurd k (qBP x)⟩⟩
 | s::l,out,h,hs,hv,ho=>by
  obtain⟨hs1,hs2⟩:=List.pairwise_cons.1 hs;have hsv:=hv s List.mem_cons_self;show Nm (l.foldl qA8 (qA8 out s))/\∀x,inL (l.foldl qA8 (qA8 out s)) x↔_
  have step:Nm (qA8 out s)/\(∀x,inL (qA8 out s) x↔inL out x∨(s.1<=x/\x<=s.2))/\∀t∈qA8 out s,∀u∈l,t.1<=u.1:=by
   rcases List.eq_nil_or_concat out with rfl| ⟨pre,t,rfl⟩
   ·refine⟨qEr hsv,λx=>?_,λt r u c=>?_⟩
    ·show inL [s] x↔_
     rw[inL_cons];exact⟨λq=> .inr (q.elim id λk=>absurd k (qBP x)),λq=> .inl (q.elim (λk=>absurd k (qBP x)) id)⟩
    ·have:t=s:=by simpa[qA8]using r
     rw[this];exact hs1 u c
   ·simp only[List.concat_eq_append]at h ho ⊢;obtain⟨f,g,d⟩:=nm_append.1 h;have z:=(nm_cons.1 g).1;have v:=ho t (by simp) s List.mem_cons_self;rw[qCw]
    split
    ·rename_i hle;refine⟨nm_append.2 ⟨f,qEr (by show t.1<=max t.2 s.2;omega),λp b q hq=>?_⟩,λx=>?_,λp b u c=>?_⟩
     ·have:q=(t.1,max t.2 s.2):=by simpa using hq
      rw[this];exact d p b t (by simp)
     ·rw[qFg,qFg,inL_cons,inL_cons];simp only[qBP,or_false];constructor
      ·rintro(q|q)
       ·exact .inl (.inl q)
       ·by_cases y:x<=t.2
        ·exact .inl (.inr ⟨q.1,y⟩)
        ·exact .inr (by omega)
      ·rintro((q|q)|q)
       ·exact .inl q
       ·exact .inr (by omega)
       ·exact .inr (by omega)
     ·rcases List.mem_append.1 b with b|b
      ·exact ho p (by simp[b]) u (List.mem_cons_of_mem _ c)
      ·have:p=(t.1,max t.2 s.2):=by simpa using b
       rw[this];have:=hs1 u c;show t.1<=u.1;omega
    ·rename_i hle;refine⟨nm_append.2 ⟨h,qEr hsv,λp b q hq=>?_⟩,λx=>?_,λp b u c=>?_⟩
     ·have e:q=s:=by simpa using hq
      rw[e]
      rcases List.mem_append.1 b with b|b
      ·have:=d p b t (by simp);omega
      ·have:p=t:=by simpa using b
       rw[this];omega
     ·rw[qFg (B:=[s]),inL_cons];simp only[qBP,or_false]
     ·rcases List.mem_append.1 b with b|b
      ·exact ho p b u (List.mem_cons_of_mem _ c)
      ·have:p=s:=by simpa using b
       rw[this];exact hs1 u c
  obtain⟨i,j,m⟩:=step;obtain⟨n,o⟩:=qK5 l _ i hs2 (λu c=>hv u (List.mem_cons_of_mem _ c)) m;refine⟨n,λx=>?_⟩;rw[o,j,inL_cons,or_assoc]
theorem qP5 {l:List Spn} (hs:l.Pairwise (λs t=>s.1<=t.1)) (hv:∀s∈l,s.1<=s.2):Nm (qGP l)/\∀x,inL (qGP l) x↔inL l x:=by
 obtain⟨b,c⟩:=qK5 l [] qEq hs hv (λt d=>by cases d);exact⟨b,λx=>by rw[qGP,c];simp[qBP]⟩
def qA5:List Spn->List Spn->List Spn
 | [],_=>[]
 | _::_,[]=>[]
 | a::la,b::lb=>
  let r:=if a.2<b.2 then qA5 la (b::lb)else qA5 (a::la) lb
  if max a.1 b.1<=min a.2 b.2 then(max a.1 b.1,min a.2 b.2)::r else r
termination_by A B=>A.length+B.length
theorem qGk:∀{A B:List Spn} {t:Spn},t∈qA5 A B->t.1<=t.2/\(∃a∈A,a.1<=t.1/\t.2<=a.2)/\∃b∈B,b.1<=t.1/\t.2<=b.2
 | [],B,t,h=>by unfold qA5 at h;cases h
 | a::la,[],t,h=>by unfold qA5 at h;cases h
 | a::la,b::lb,t,h=>by
  have rest:t∈(if a.2<b.2 then qA5 la (b::lb)else qA5 (a::la) lb)->t.1<=t.2/\(∃x∈a::la,x.1<=t.1/\t.2<=x.2)/\∃x∈b::lb,x.1<=t.1/\t.2<=x.2:=by
   intro h
   split at h
   ·obtain⟨c,⟨x,g,d⟩,f⟩:=qGk h;exact⟨c,⟨x,List.mem_cons_of_mem _ g,d⟩,f⟩
   ·obtain⟨c,d,x,g,f⟩:=qGk h;exact⟨c,d,x,List.mem_cons_of_mem _ g,f⟩
  unfold qA5 at h;simp only at h
  split at h
  ·rename_i hle
   rcases List.mem_cons.1 h with rfl|h
   ·exact⟨hle,⟨a,List.mem_cons_self,by show a.1<=max a.1 b.1;omega,by show min a.2 b.2<=a.2;omega⟩,b,List.mem_cons_self,by show b.1<=max a.1 b.1;omega,by show min a.2 b.2<=b.2;omega⟩
   ·exact rest h
  ·exact rest h
termination_by A B=>A.length+B.length
theorem qIh:∀{A B:List Spn},Nm A->Nm B->Nm (qA5 A B)/\∀x,inL (qA5 A B) x↔inL A x/\inL B x
 | [],B,_,_=>by
  unfold qA5;exact⟨qEq,λx=>⟨λh=>absurd h (qBP x),λh=>h.1⟩⟩
 | a::la,[],_,_=>by
  unfold qA5;exact⟨qEq,λx=>⟨λh=>absurd h (qBP x),λh=>h.2⟩⟩
 | a::la,b::lb,ha,hb=>by
  obtain⟨a1,a2,a3⟩:=nm_cons.1 ha;obtain⟨b1,b2,b3⟩:=nm_cons.1 hb;have rest:Nm (if a.2<b.2 then qA5 la (b::lb)else qA5 (a::la) lb)∧
    (∀x,inL (if a.2<b.2 then qA5 la (b::lb)else qA5 (a::la) lb) x↔(inL (a::la) x/\inL (b::lb) x)/\min a.2 b.2<x)∧
    ∀t∈(if a.2<b.2 then qA5 la (b::lb)else qA5 (a::la) lb),min a.2 b.2+1<t.1:=by
   split
   ·rename_i hlt;obtain⟨f,g⟩:=qIh a3 hb;refine⟨f,λx=>?_,λt k=>?_⟩
    ·rw[g,inL_cons (s:=a)];constructor
     ·rintro⟨⟨u,c,d,q2⟩,q⟩;refine⟨⟨.inr ⟨u,c,d,q2⟩,q⟩,?_⟩;have:=a2 u c;omega
     ·rintro⟨⟨d|d,q2⟩,l⟩
      ·omega
      ·exact⟨d,q2⟩
    ·obtain⟨n,⟨u,c,d,q2⟩,-⟩:=qGk k;have:=a2 u c;omega
   ·rename_i hlt;obtain⟨f,g⟩:=qIh ha b3;refine⟨f,λx=>?_,λt k=>?_⟩
    ·rw[g,inL_cons (s:=b)];constructor
     ·rintro⟨q,⟨u,c,d,q2⟩⟩;refine⟨⟨q,.inr ⟨u,c,d,q2⟩⟩,?_⟩;have:=b2 u c;omega
     ·rintro⟨⟨d,q2|q2⟩,l⟩
      ·omega
      ·exact⟨d,q2⟩
    ·obtain⟨n,-,⟨u,c,d,q2⟩⟩:=qGk k;have:=b2 u c;omega
  obtain⟨f,g,m⟩:=rest
  have j:∀x,x<=min a.2 b.2->(inL (a::la) x/\inL (b::lb) x↔max a.1 b.1<=x):=λx i=>by
   rw[inL_cons,inL_cons];constructor
   ·rintro⟨d| ⟨u,c,d,q2⟩,l| ⟨v,o,l,p⟩⟩
    ·omega
    ·have:=b2 v o;omega
    ·have:=a2 u c;omega
    ·have:=a2 u c;omega
   ·intro q;exact⟨.inl (by omega),.inl (by omega)⟩
  unfold qA5;simp only
  split
  ·rename_i hle;refine⟨nm_cons.2 ⟨hle,m,f⟩,λx=>?_⟩;rw[inL_cons,g]
   by_cases i:x<=min a.2 b.2
   ·have:=j x i;constructor
    ·rintro(q|q)
     ·exact this.2 q.1
     ·exact q.1
    ·intro q;exact .inl ⟨this.1 q,i⟩
   ·constructor
    ·rintro(q|q)
     ·exact absurd q.2 i
     ·exact q.1
    ·intro q;exact .inr ⟨q,by omega⟩
  ·rename_i hle;refine⟨f,λx=>?_⟩;rw[g]
   by_cases i:x<=min a.2 b.2
   ·have:=j x i;constructor
    ·intro q;exact q.1
    ·intro q;have:=this.1 q;omega
   ·exact⟨λq=>q.1,λq=>⟨q,by omega⟩⟩
termination_by A B=>A.length+B.length
def qDN:List Spn->Spn->List Spn
 | [],x=>[x]
 | s::l,x=>if s.2+1<x.1 then s::qDN l x else if x.2+1<s.1 then x::s::l else qDN l (min x.1 s.1,max x.2 s.2)
def qBW (l:List Spn) (x:Spn):List Spn:=if x.2<x.1 then l else qDN l x
theorem qHW:∀{l:List Spn} {x:Spn},Nm l->x.1<=x.2->Nm (qDN l x)/\(∀y,inL (qDN l x) y↔inL l y∨(x.1<=y/\y<=x.2))/\∀b,b<x.1->(∀s∈l,b<s.1)->∀t∈qDN l x,b<t.1
 | [],x,_,hx=>by
  refine⟨qEr hx,λy=>?_,λb hb _ t ht=>?_⟩
  ·unfold qDN;rw[inL_cons];simp only[qBP,or_false,false_or]
  ·have:t=x:=by simpa[qDN]using ht
   rw[this];exact hb
 | s::l,x,h,hx=>by
  obtain⟨n,j,m⟩:=nm_cons.1 h;unfold qDN
  split
  ·rename_i hlt;obtain⟨f,g,d⟩:=qHW m hx;refine⟨nm_cons.2 ⟨n,λt ht=>d _ hlt j t ht,f⟩,λy=>?_,λb hb c t ht=>?_⟩
   ·rw[inL_cons,inL_cons,g,or_assoc]
   ·rcases List.mem_cons.1 ht with rfl|ht
    ·exact c _ List.mem_cons_self
    ·exact d b hb (λu i=>c u (List.mem_cons_of_mem _ i)) t ht
  ·split
   ·rename_i hlt;refine⟨nm_cons.2 ⟨hx,λt ht=>?_,h⟩,λy=>?_,λb hb c t ht=>?_⟩
    ·rcases List.mem_cons.1 ht with rfl|ht
     ·exact hlt
     ·have:=j t ht;omega
    ·rw[inL_cons,or_comm]
    ·rcases List.mem_cons.1 ht with rfl|ht
     ·exact hb
     ·exact c t ht
   ·rename_i g1 g2;obtain⟨f,g,d⟩:=qHW (x:=(min x.1 s.1,max x.2 s.2)) m (by show min x.1 s.1<=max x.2 s.2;omega);refine⟨f,λy=>?_,λb hb c t ht=>?_⟩
    ·rw[g,inL_cons];constructor
     ·rintro(q|q)
      ·exact .inl (.inr q)
      ·simp only at q
       by_cases k:s.1<=y/\y<=s.2
       ·exact .inl (.inl k)
       ·exact .inr (by omega)
     ·rintro((q|q)|q)
      ·exact .inr (by simp only;omega)
      ·exact .inl q
      ·exact .inr (by simp only;omega)
    ·exact d b (by have:=c s List.mem_cons_self;show b<min x.1 s.1;omega) (λu i=>c u (List.mem_cons_of_mem _ i)) t ht
theorem qFL {l:List Spn} {x:Spn} (h:Nm l):Nm (qBW l x)/\∀y,inL (qBW l x) y↔inL l y∨(x.1<=y/\y<=x.2):=by
 unfold qBW
 split
 ·exact⟨h,λy=>⟨.inl,λq=>q.elim id λk=>by omega⟩⟩
 ·obtain⟨b,c,-⟩:=qHW (x:=x) h (by omega);exact⟨b,c⟩
def qBj (l:List Spn):List Spn:=l.foldl qBW []
theorem qM1:∀(l out:List Spn),Nm out->Nm (l.foldl qBW out)/\∀x,inL (l.foldl qBW out) x↔inL out x∨inL l x
 | [],out,h=>⟨h,λx=>⟨.inl,λq=>q.elim id λk=>absurd k (qBP x)⟩⟩
 | s::l,out,h=>by
  obtain⟨a1,a2⟩:=qFL (x:=s) h;obtain⟨b1,b2⟩:=qM1 l _ a1;refine⟨b1,λx=>?_⟩;show inL (l.foldl qBW (qBW out s)) x↔_;rw[b2,a2,inL_cons,or_assoc]
theorem qF6 (l:List Spn):Nm (qBj l)/\∀x,inL (qBj l) x↔inL l x:=by
 obtain⟨b,c⟩:=qM1 l [] qEq;exact⟨b,λx=>by rw[qBj,c];simp[qBP]⟩
def qGl (A B:List Spn):List Spn:=qBj (A.flatMap λa=>B.map λb=>(max a.1 b.1,min a.2 b.2))
theorem qQl (A B:List Spn):Nm (qGl A B)/\∀x,inL (qGl A B) x↔inL A x/\inL B x:=by
 obtain⟨g,h⟩:=qF6 (A.flatMap λa=>B.map λb=>(max a.1 b.1,min a.2 b.2));refine⟨g,λx=>?_⟩;rw[qGl,h];unfold inL;constructor
 ·rintro⟨s,f,q⟩;obtain⟨a,c,f⟩:=List.mem_flatMap.1 f;obtain⟨b,d,rfl⟩:=List.mem_map.1 f;simp only at q;exact⟨⟨a,c,by omega,by omega⟩,b,d,by omega,by omega⟩
 ·rintro⟨⟨a,c,i,q2⟩,b,d,j,k⟩;exact⟨_,List.mem_flatMap.2 ⟨a,c,List.mem_map.2 ⟨b,d,rfl⟩⟩,by simp only;omega,by simp only;omega⟩
def okS (s:Spn):Bool:=decide (s.1<=s.2)
theorem qMz {l:List Spn} {x:Int}:inL (l.filter okS) x↔inL l x:=by
 unfold inL;constructor
 ·rintro⟨s,b,h⟩;exact⟨s,(List.mem_filter.1 b).1,h⟩
 ·rintro⟨s,b,h⟩;exact⟨s,List.mem_filter.2 ⟨b,by unfold okS;rw[decide_eq_true_eq];omega⟩,h⟩
theorem qNA {l d:List Spn} (hp:∀s,s∈d↔s∈l.filter okS) (hs:d.Pairwise (λs t=>s.1<=t.1)):qGP d=qBj l:=by
 obtain⟨c,f⟩:=qP5 hs (λs h=>by have:=(List.mem_filter.1 ((hp s).1 h)).2;unfold okS at this;rwa[decide_eq_true_eq]at this);refine qHp c (qF6 l).1 λx=>?_;rw[f,(qF6 l).2,<-qMz (l:=l)];unfold inL;exact⟨λ⟨s,a,b⟩=>⟨s,(hp s).1 a,b⟩,λ⟨s,a,b⟩=>⟨s,(hp s).2 a,b⟩⟩
theorem qHq (A:List Spn):qA5 A []=[]:=by
 cases A with
 | nil=>unfold qA5;rfl
 | cons a la=>unfold qA5;rfl
theorem qIi (B:List Spn):qA5 [] B=[]:=by unfold qA5;rfl
theorem qNB {A B:List Spn} {i k:Nat} (hi:i<A.length) (hk:k<B.length):qA5 (A.drop i) (B.drop k)=
  (if max A[i].1 B[k].1<=min A[i].2 B[k].2 then[(max A[i].1 B[k].1,min A[i].2 B[k].2)]else[])++(if A[i].2<B[k].2 then qA5 (A.drop (i+1)) (B.drop k)else qA5 (A.drop i) (B.drop (k+1))):=by
 rw[List.drop_eq_getElem_cons hi,List.drop_eq_getElem_cons hk]
 conv=>lhs;unfold qA5
 simp only
 split<;>simp
structure Rd where
 cut:Int
 step:Int
 lo:Int
 hi:Int
deriving DecidableEq
structure Hd where
 ros:List Int
 rub:List Int
structure Pic where
 hs:List Hd
 tl:Int
 th:Int
 al:Int
 ah:Int
 rds:List Rd
instance:Inhabited Hd:=⟨⟨[],[]⟩⟩
instance:Inhabited Rd:=⟨⟨0,0,0,0⟩⟩
def Pic.steps (p:Pic):Nat:=(p.hs.getD 0 default).ros.length
def qEa (n:Nat) (h:Hd):Bool:=decide (h.ros.length=n)&&(qAY h.ros&&qAo h.rub n)
def rdB (n:Nat) (r:Rd):Bool:=decide (0<=r.cut/\r.cut<=11)&&(decide (0<=r.step/\r.step<=(n:Int) - 1)&&(decide (-300000<=r.lo)&&(decide (r.lo<=r.hi)&&decide (r.hi<=300000))))
def setB (p:Pic):Bool:=decide (1<=p.tl)&&(decide (p.tl<=p.th)&&(decide (p.th<=16)&&(decide (-1000<=p.al)&&(decide (p.al<=p.ah)&&(decide (p.ah<=1000)&&decide (p.ah - p.al<=40))))))
def picB (p:Pic):Bool:=decide (1<=p.hs.length/\p.hs.length<=4)&&(decide (1<=p.rds.length/\p.rds.length<=60)&&(p.hs.all (qEa p.steps)&&(setB p&&p.rds.all (rdB p.steps))))
def picE (p:Pic):Int:=if picB p then 0 else 90
structure PicOk (p:Pic):Prop where
 heads:1<=p.hs.length/\p.hs.length<=4
 reads:1<=p.rds.length/\p.rds.length<=60
 head:∀h∈p.hs,h.ros.length=p.steps/\qAY h.ros=true/\qAo h.rub p.steps=true
 tl:1<=p.tl
 tle:p.tl<=p.th
 th:p.th<=16
 al: -1000<=p.al
 ale:p.al<=p.ah
 ah:p.ah<=1000
 span:p.ah - p.al<=40
 rd:∀r∈p.rds,(0<=r.cut/\r.cut<=11)/\(0<=r.step/\r.step<=(p.steps:Int) - 1)/\ -300000<=r.lo/\r.lo<=r.hi/\r.hi<=300000
theorem picB_iff {p:Pic}:picB p=true↔PicOk p:=by
 unfold picB setB qEa rdB;simp only[Bool.and_eq_true,decide_eq_true_eq,List.all_eq_true];constructor
 ·rintro⟨d,f,g,⟨h,i,j,k,l,m,b⟩,c⟩;exact⟨d,f,g,h,i,j,k,l,m,b,c⟩
 ·rintro⟨d,f,g,h,i,j,k,l,m,b,c⟩;exact⟨d,f,g,⟨h,i,j,k,l,m,b⟩,c⟩
theorem PicOk.steps {p:Pic} (h:PicOk p):3<=p.steps/\p.steps<=96:=by
 obtain⟨f,g,-⟩:=h.heads,h.reads;have b:0<p.hs.length:=by omega
 have d:p.hs.getD 0 default∈p.hs:=by
  rw[List.getD_eq_getElem?_getD,List.getElem?_eq_getElem b];exact List.getElem_mem b
 have c:=rosOk_iff.1 (h.head _ d).2.1;exact⟨c.1,c.2.1⟩
def hAt (lift:List Int) (r:Rd) (ph:Nat):Int:=atR lift (r.step - (ph:Int))
def qC7 (rds:List Rd) (lift:List Int) (throw adv cut:Int) (ph:Nat):Spn:=
 rds.foldl (λo r=>if r.cut=cut then(max o.1 (r.lo - (cut*adv+throw*hAt lift r ph)),min o.2 (r.hi - (cut*adv+throw*hAt lift r ph)))else o) (0,10000)
def qAk (rds:List Rd) (lift:List Int) (throw cut:Int) (ph:Nat):Spn:=
 rds.foldl (λo r=>if r.cut=cut then(max o.1 (r.lo - throw*hAt lift r ph),min o.2 (r.hi - throw*hAt lift r ph))else o) (-1099511627776,1099511627776)
theorem qGQ (g:Rd->Int) (cut:Int) (x:Int):∀(rds:List Rd) (o:Spn),((rds.foldl (λo r=>if r.cut=cut then(max o.1 (r.lo - g r),min o.2 (r.hi - g r))else o) o).1<=x/\x<=(rds.foldl (λo r=>if r.cut=cut then(max o.1 (r.lo - g r),min o.2 (r.hi - g r))else o) o).2)↔
  (o.1<=x/\x<=o.2)/\∀r∈rds,r.cut=cut->r.lo<=x+g r/\x+g r<=r.hi
 | [],o=>⟨λh=>⟨h,λr hr=>(by cases hr)⟩,λh=>h.1⟩
 | r::rds,o=>by
  simp only[List.foldl_cons];rw[qGQ g cut x rds]
  by_cases hc:r.cut=cut
  ·rw[if_pos hc];simp only;constructor
   ·rintro⟨⟨h1,h2⟩,h3⟩;refine⟨by omega,λq hq e=>?_⟩
    rcases List.mem_cons.1 hq with rfl|hq
    ·omega
    ·exact h3 q hq e
   ·rintro⟨h1,h2⟩;have:=h2 r List.mem_cons_self hc;exact⟨by omega,λq hq e=>h2 q (List.mem_cons_of_mem _ hq) e⟩
  ·rw[if_neg hc];constructor
   ·rintro⟨h1,h2⟩;refine⟨h1,λq hq e=>?_⟩
    rcases List.mem_cons.1 hq with rfl|hq
    ·exact absurd e hc
    ·exact h2 q hq e
   ·rintro⟨h1,h2⟩;exact⟨h1,λq hq e=>h2 q (List.mem_cons_of_mem _ hq) e⟩
def qHr (rds:List Rd) (lift:List Int) (throw adv cut:Int) (ph:Nat) (x:Int):Prop:=∀r∈rds,r.cut=cut->r.lo<=x+(cut*adv+throw*hAt lift r ph)/\x+(cut*adv+throw*hAt lift r ph)<=r.hi
theorem startS_in {rds:List Rd} {lift:List Int} {throw adv cut:Int} {ph:Nat} {x:Int}:((qC7 rds lift throw adv cut ph).1<=x/\x<=(qC7 rds lift throw adv cut ph).2)↔(0<=x/\x<=10000)/\qHr rds lift throw adv cut ph x:=
 qGQ (λr=>cut*adv+throw*hAt lift r ph) cut x rds (0,10000)
theorem qFh {rds:List Rd} {lift:List Int} {throw adv cut:Int} {ph:Nat} {x:Int} (hx: -1000000<=x+cut*adv/\x+cut*adv<=1000000):
  ((qAk rds lift throw cut ph).1 - cut*adv<=x/\x<=(qAk rds lift throw cut ph).2 - cut*adv)↔qHr rds lift throw adv cut ph x:=by
 have h:((qAk rds lift throw cut ph).1<=x+cut*adv/\x+cut*adv<=(qAk rds lift throw cut ph).2)↔((-1099511627776:Int)<=x+cut*adv/\x+cut*adv<=1099511627776)/\∀r∈rds,r.cut=cut->r.lo<=x+cut*adv+throw*hAt lift r ph/\x+cut*adv+throw*hAt lift r ph<=r.hi:=
  qGQ (λr=>throw*hAt lift r ph) cut (x+cut*adv) rds (-1099511627776,1099511627776)
 constructor
 ·intro q r c b;have:=(h.1 ⟨by omega,by omega⟩).2 r c b;omega
 ·intro q;have:=h.2 ⟨⟨by omega,by omega⟩,λr c b=>by have:=q r c b;omega⟩;omega
def fitL (rds:List Rd) (lift:List Int) (throw adv:Int):List Spn:=
 (List.range 12).foldl (λ(o:List Spn) (cut:Nat)=>qGl o (qBj ((List.range lift.length).map λph=>qC7 rds lift throw adv (cut:Int) ph))) [(0,10000)]
def qR7 (rds:List Rd) (lift:List Int) (throw adv:Int) (x:Int):Prop:=∀cut:Nat,cut<12->∃ph,ph<lift.length/\qHr rds lift throw adv cut ph x
theorem qJu {rds:List Rd} {lift:List Int} {throw adv cut:Int} {n:Nat} {x:Int}:inL ((List.range n).map λph=>qC7 rds lift throw adv cut ph) x↔∃ph,ph<n/\(0<=x/\x<=10000)/\qHr rds lift throw adv cut ph x:=by
 unfold inL;constructor
 ·rintro⟨s,c,h⟩;obtain⟨ph,b,rfl⟩:=List.mem_map.1 c;exact⟨ph,List.mem_range.1 b,startS_in.1 h⟩
 ·rintro⟨ph,b,h⟩;exact⟨_,List.mem_map.2 ⟨ph,List.mem_range.2 b,rfl⟩,startS_in.2 h⟩
theorem qHX (rds:List Rd) (lift:List Int) (throw adv:Int):∀(l:List Nat) (o:List Spn),Nm o->Nm (l.foldl (λ(o:List Spn) (cut:Nat)=>qGl o (qBj ((List.range lift.length).map λph=>qC7 rds lift throw adv (cut:Int) ph))) o)∧
  ∀x,inL (l.foldl (λ(o:List Spn) (cut:Nat)=>qGl o (qBj ((List.range lift.length).map λph=>qC7 rds lift throw adv (cut:Int) ph))) o) x↔inL o x/\∀cut∈l,∃ph,ph<lift.length/\(0<=x/\x<=10000)/\qHr rds lift throw adv (cut:Int) ph x
 | [],o,h=>⟨h,λx=>⟨λq=>⟨q,λc hc=>(by cases hc)⟩,λq=>q.1⟩⟩
 | c::l,o,h=>by
  obtain⟨a1,a2⟩:=qQl o (qBj ((List.range lift.length).map λph=>qC7 rds lift throw adv (c:Int) ph));obtain⟨b1,b2⟩:=qHX rds lift throw adv l _ a1;refine⟨b1,λx=>?_⟩;simp only[List.foldl_cons];rw[b2,a2,(qF6 _).2,qJu];constructor
  ·rintro⟨⟨q1,q2⟩,q3⟩;refine⟨q1,λk hk=>?_⟩
   rcases List.mem_cons.1 hk with rfl|hk
   ·exact q2
   ·exact q3 k hk
  ·rintro⟨q1,q2⟩;exact⟨⟨q1,q2 c List.mem_cons_self⟩,λk hk=>q2 k (List.mem_cons_of_mem _ hk)⟩
theorem qM2 (rds:List Rd) (lift:List Int) (throw adv:Int):Nm (fitL rds lift throw adv):=(qHX rds lift throw adv _ _ (qEr (by decide))).1
theorem fitL_in {rds:List Rd} {lift:List Int} {throw adv x:Int}:inL (fitL rds lift throw adv) x↔(0<=x/\x<=10000)/\qR7 rds lift throw adv x:=by
 unfold fitL;rw[(qHX rds lift throw adv _ _ (qEr (by decide))).2,inL_cons];simp only[qBP,or_false];constructor
 ·rintro⟨b,q2⟩;refine⟨b,λc g=>?_⟩;obtain⟨h,d,-,f⟩:=q2 c (List.mem_range.2 g);exact⟨h,d,f⟩
 ·rintro⟨b,q2⟩;refine⟨b,λc g=>?_⟩;obtain⟨h,d,f⟩:=q2 c (List.mem_range.1 g);exact⟨h,d,b,f⟩
theorem qQm {rds:List Rd} {lift:List Int} {throw adv:Int} {L:List Spn} (hn:Nm L) (h0:0<lift.length) (hadv: -1000<=adv/\adv<=1000) (hcut:∀r∈rds,0<=r.cut/\r.cut<=11)
  (hin:∀x,inL L x↔(0<=x/\x<=10000)/\∀r∈rds,∃ph,ph<lift.length/\(qAk rds lift throw r.cut ph).1 - r.cut*adv<=x/\x<=(qAk rds lift throw r.cut ph).2 - r.cut*adv):L=fitL rds lift throw adv:=by
 refine qHp hn (qM2 ..) λx=>?_;rw[hin,fitL_in]
 have k:∀c:Int,0<=c->c<=11-> -11000<=c*adv/\c*adv<=11000:=λc d f=>by
  have a:=Int.mul_le_mul_of_nonneg_left hadv.1 d;have b:=Int.mul_le_mul_of_nonneg_left hadv.2 d;omega
 refine and_congr_right λn=>⟨λh c m=>?_,λh r i=>?_⟩
 ·by_cases g:∃r∈rds,r.cut=(c:Int)
  ·obtain⟨r,i,e⟩:=g;obtain⟨ph,d,f⟩:=h r i;rw[e]at f;have:=k (c:Int) (by omega) (by omega);exact⟨ph,d,(qFh (by omega)).1 f⟩
  ·exact⟨0,h0,λr i e=>absurd ⟨r,i,e⟩ g⟩
 ·obtain⟨j,l⟩:=hcut r i;obtain⟨ph,d,f⟩:=h r.cut.toNat (by omega);rw[Int.toNat_of_nonneg j]at f;have:=k r.cut j l;exact⟨ph,d,(qFh (by omega)).2 f⟩
structure Fnd where
 head:Int
 throw:Int
 adv:Int
 lo:Int
 hi:Int
deriving DecidableEq
def upTo (a b:Int):List Int:=(List.range (b - a+1).toNat).map λ(k:Nat)=>a+(k:Int)
def Pic.lift (p:Pic) (h:Nat):List Int:=qCX (p.hs.getD h default).ros (p.hs.getD h default).rub
def qCB (p:Pic) (h:Nat) (t a:Int):List Fnd:=(fitL p.rds (p.lift h) t a).map λs=>⟨h,t,a,s.1,s.2⟩
def qBH (p:Pic):List Fnd:=(List.range p.hs.length).flatMap λh=>(upTo p.tl p.th).flatMap λt=>(upTo p.al p.ah).flatMap λa=>qCB p h t a
def qD4 (p:Pic):Int:=if picB p then(if qBH p=[]then 6 else if 400<(qBH p).length then 4 else 0)else 90
def qEI (p:Pic):List Fnd:=if qD4 p=0 then qBH p else[]
def inB (x:Int) (s:Spn):Bool:=decide (s.1<=x)&&decide (x<=s.2)
theorem qQn {x:Int} {s:Spn}:inB x s=true↔s.1<=x/\x<=s.2:=by unfold inB;rw[Bool.and_eq_true,decide_eq_true_eq,decide_eq_true_eq]
def qAe (rds:List Rd) (lift:List Int) (throw adv start cut:Int):List Int:=((List.range lift.length).filter λph=>inB start (qC7 rds lift throw adv cut ph)).map λ(ph:Nat)=>(ph:Int)
def qCY (rds:List Rd):Int:=rds.foldl (λm r=>max m r.cut) 0
theorem qK6 {rds:List Rd} (h:∀r∈rds,0<=r.cut/\r.cut<=11):0<=qCY rds/\qCY rds<=11/\(∀r∈rds,r.cut<=qCY rds)/\(qCY rds=0∨∃r∈rds,r.cut=qCY rds):=by
 have j:∀(l:List Rd) (m:Int),0<=m->m<=11->(∀r∈l,0<=r.cut/\r.cut<=11)->m<=l.foldl (λm r=>max m r.cut) m/\l.foldl (λm r=>max m r.cut) m<=11/\(∀r∈l,r.cut<=l.foldl (λm r=>max m r.cut) m)/\(l.foldl (λm r=>max m r.cut) m=m∨∃r∈l,r.cut=l.foldl (λm r=>max m r.cut) m):=by
  intro l
  induction l with
  | nil=>intro m k f _;exact⟨Int.le_refl _,f,λr i=>(by cases i),.inl rfl⟩
  | cons r l ih=>
   intro m k f g;have i:=g r List.mem_cons_self;obtain⟨a,b,c,d⟩:=ih (max m r.cut) (by omega) (by omega) (λq hq=>g q (List.mem_cons_of_mem _ hq));simp only[List.foldl_cons];refine⟨by omega,b,λq hq=>?_,?_⟩
   ·rcases List.mem_cons.1 hq with rfl|hq
    ·omega
    ·exact c q hq
   ·rcases d with d| ⟨q,hq,d⟩
    ·by_cases n:m<=r.cut
     ·exact .inr ⟨r,List.mem_cons_self,by omega⟩
     ·exact .inl (by omega)
    ·exact .inr ⟨q,List.mem_cons_of_mem _ hq,d⟩
 exact j rds 0 (by decide) (by decide) h
def qGm (p:Pic) (f:Fnd) (start:Int):List (List Int):=(List.range ((qCY p.rds).toNat +1)).map λ(c:Nat)=>qAe p.rds (p.lift f.head.toNat) f.throw f.adv start (c:Int)
def argB (p:Pic) (f:Fnd) (start:Int):Bool:=
 (decide (0<=f.head)&&decide (f.head<=(p.hs.length:Int) - 1))&&((decide (p.tl<=f.throw)&&decide (f.throw<=p.th))&&((decide (p.al<=f.adv)&&decide (f.adv<=p.ah))&&((decide (f.lo<=start)&&decide (start<=f.hi))&&(decide (0<=start)&&decide (start<=10000)))))
def qBM (p:Pic) (f:Fnd) (start:Int):Int:=if picB p then(if argB p f start then(if (qGm p f start).any (λl=>l.isEmpty)then 6 else 0)else 2)else 90
def qCx (p:Pic) (f:Fnd) (start:Int):List (List Int):=if qBM p f start=0 then qGm p f start else[]
def memI (l:List Int) (x:Int):Bool:=l.any λy=>decide (y=x)
def qCc (L:List (List Int)) (steps n:Nat) (ph all:Int):Nat->Nat->Bool
 | 0,_=>true
 | fuel+1,j=>if j<L.length then memI (L.getD j []) (ph%(steps:Int))&&qCc L steps n (ph+all) all fuel (j+n)else true
def qAq (L:List (List Int)) (steps n:Nat) (r:Nat) (ph all:Int):Bool:=qCc L steps n ph all L.length r
def qF7 (L:List (List Int)) (steps n r:Nat) (ph all:Int):Option Nat:=(List.range steps).find? λs=>qAq L steps n r (ph+(s:Int)) all
def qCF (L:List (List Int)) (steps n:Nat) (all:Int):Nat->Nat->Int->List Int->Option (List Int×Int)
 | 0,_,ph,out=>some (out,ph)
 | k+1,r,ph,out=>match qF7 L steps n r ph all with
  | none=>none
  | some s=>qCF L steps n all k (r+1) (ph+(s:Int)) (out++[(s:Int)])
def qBb (L:List (List Int)) (steps n:Nat) (first all:Int):Option (List Int):=
 if qAq L steps n 0 first all then(match qCF L steps n all (n - 1) 1 first []with
  | none=>none
  | some (out,ph)=>some (out++[(all - (ph - first))%(steps:Int)]))else none
def qCZ:List Int->List Int->Bool
 | a::l,b::m=>if a=b then qCZ l m else decide (a<b)
 | _,_=>false
def qGn (best:Option (List Int)) (x:Option (List Int)):Option (List Int):=match x,best with
 | none,b=>b
 | some l,none=>some l
 | some l,some b=>if qCZ l b then some l else some b
def qEJ (L:List (List Int)) (steps n:Nat) (first:Int):Option (List Int):=(List.range steps).foldl (λb (all:Nat)=>qGn b (qBb L steps n first (all:Int))) none
def qB5 {α:Type} (f:Nat->Option α):List Nat->Option α
 | []=>none
 | k::l=>match f k with
  | some x=>some x
  | none=>qB5 f l
def qDw (L:List (List Int)) (steps:Nat):Option (Nat×List Int):=qB5 (λn=>qB5 (λfirst=>(qEJ L steps (n+1) (first:Int)).map λl=>(first,l)) (List.range steps)) (List.range 12)
theorem qFM (L:List (List Int)) (steps n:Nat) (all:Int):∀(k r:Nat) (ph:Int) (out l:List Int) (q:Int),qCF L steps n all k r ph out=some (l,q)->l.length=out.length+k
 | 0,r,ph,out,l,q,h=>by injection h with h;injection h with h1 h2;rw[<-h1];rfl
 | k+1,r,ph,out,l,q,h=>by
  unfold qCF at h
  split at h
  ·cases h
  ·have:=qFM L steps n all k (r+1) _ _ l q h;rw[this,List.length_append];simp;omega
theorem qDx {L:List (List Int)} {steps n:Nat} {first all:Int} {l:List Int} (hn:0<n) (h:qBb L steps n first all=some l):l.length=n:=by
 unfold qBb at h
 split at h
 ·split at h
  ·cases h
  ·rename_i out ph hs;injection h with h;have:=qFM _ _ _ _ _ _ _ _ _ _ hs;rw[<-h,List.length_append,this];simp;omega
 ·cases h
theorem qHH (L:List (List Int)) (steps n:Nat) (all:Int):∀(fuel j:Nat) (ph ph':Int),ph%(steps:Int)=ph'%(steps:Int)->qCc L steps n ph all fuel j=qCc L steps n ph' all fuel j
 | 0,_,_,_,_=>rfl
 | fuel+1,j,ph,ph',h=>by
  unfold qCc;rw[h,qHH L steps n all fuel (j+n) (ph+all) (ph'+all) (by rw[Int.add_emod,h,<-Int.add_emod])]
theorem qHs {L:List (List Int)} {steps n r:Nat} {all ph ph':Int} (h:ph%(steps:Int)=ph'%(steps:Int)):qAq L steps n r ph all=qAq L steps n r ph' all:=qHH _ _ _ _ _ _ _ _ h
theorem qGR (L:List (List Int)) (steps n:Nat) (all:Int) (hn:0<n):∀(f g j:Nat) (ph:Int),L.length<=j+f->L.length<=j+g->qCc L steps n ph all f j=qCc L steps n ph all g j
 | 0,0,_,_,_,_=>rfl
 | 0,g+1,j,ph,h,_=>by unfold qCc;rw[if_neg (by omega)]
 | f+1,0,j,ph,_,h=>by unfold qCc;rw[if_neg (by omega)]
 | f+1,g+1,j,ph,h,k=>by
  unfold qCc
  by_cases hj:j<L.length
  ·rw[if_pos hj,if_pos hj,qGR L steps n all hn f g (j+n) (ph+all) (by omega) (by omega)]
  ·rw[if_neg hj,if_neg hj]
theorem qLo {L:List (List Int)} {steps n:Nat} {all:Int} (hn:0<n) (r:Nat) (ph:Int):qAq L steps n r ph all=if r<L.length then memI (L.getD r []) (ph%(steps:Int))&&qAq L steps n (r+n) (ph+all) all else true:=by
 unfold qAq;rw[qGR L steps n all hn L.length (L.length+1) r ph (by omega) (by omega)]
 rfl
def subR (rds:List Rd) (l:List Int):List Rd:=l.map λi=>rds.getD i.toNat default
theorem qP6 {rds:List Rd} {l:List Int} (h:∀i∈l,0<=i/\i<(rds.length:Int)):∀r∈subR rds l,r∈rds:=by
 intro r d;obtain⟨i,c,rfl⟩:=List.mem_map.1 d;obtain⟨f,g⟩:=h i c;have b:i.toNat<rds.length:=by omega
 rw[List.getD_eq_getElem?_getD,List.getElem?_eq_getElem b];exact List.getElem_mem b
def Pic.with (p:Pic) (rds:List Rd):Pic:={p with rds:=rds}
def anyB (p:Pic):Bool:=(List.range p.hs.length).any λh=>(upTo p.tl p.th).any λt=>(upTo p.al p.ah).any λa=> !(fitL p.rds (p.lift h) t a).isEmpty
theorem anyB_iff {p:Pic}:anyB p=true↔qBH p≠[]:=by
 unfold anyB qBH;simp only[List.any_eq_true,ne_eq,List.flatMap_eq_nil_iff,Classical.not_forall,exists_prop,qCB,List.map_eq_nil_iff,Bool.not_eq_true',List.isEmpty_eq_false_iff]
def qEK (p:Pic) (l:List Int):Bool:=anyB (p.with (subR p.rds l))
def idxL (n:Nat):List Int:=(List.range n).map λ(k:Nat)=>(k:Int)
def qF8 (p:Pic):Nat->List Int->List Int
 | 0,l=>l
 | k+1,l=>qF8 p k (if qEK p (l.eraseIdx k)then l else l.eraseIdx k)
def qEb (p:Pic):Int:=if picB p then(if qEK p (idxL p.rds.length)then 6 else 0)else 90
def qFN (p:Pic):List Int:=if qEb p=0 then qF8 p p.rds.length (idxL p.rds.length)else[]
theorem qIj (l:List Int) (k:Nat):l.eraseIdx k=l.take k++l.drop (k+1):=List.eraseIdx_eq_take_drop_succ l k
end Go.Proofs.YtabfaobakmjiaaaGreat

/- A region that draws its order, whose operations only make memory: each operation is shown once, in any later world, from what is known of the results that it .. -/
import Derived.Test.YtfmfefibadpobaaGreatDoorPk06
namespace Go.Proofs.YtfmfefibadpobaaGreatDoor
set_option maxRecDepth 100000
open Go.RowKit
set_option linter.unusedVariables false
def Le (w w':World):Prop:=Below w.heap.size w w'
theorem Le.refl (w:World):Le w w:=Below.refl _ _
theorem Le.trans {a b c:World} (h:Le a b) (k:Le b c):Le a c:=Below.tr h k
theorem Le.drew {w:World}:Le w ({w with drawn:=w.drawn+1}:World):=Below.drew (Below.refl _ _)
structure WRel where
 r:World->World->Prop
 refl:∀w,r w w
 trans:∀{a b c},r a b->r b c->r a c
 drew:∀w:World,r w {w with drawn:=w.drawn+1}
def leRel:WRel:=⟨Le,Le.refl,Le.trans,λ_=>Le.drew⟩
theorem lrR {W:World}:leRel.r W W:=Le.refl W
structure MPredR (R:WRel) where
 p:Value->World->Prop
 mono:∀v w w',R.r w w'->p v w->p v w'
abbrev MPred:=MPredR leRel
def MPredR.any {R:WRel}:MPredR R:=⟨λ_ _=>True,λ_ _ _ _ h=>h⟩
def MPredR.eq {R:WRel} (c:Value):MPredR R:=⟨λv _=>v=c,λ_ _ _ _ h=>h⟩
def stOp (P:Program) (ops:Array Oper) (Q:Exit->Act->World->Prop) (i:Nat) (K:Act->World->Prop) (a:Act) (w:World):Prop:=
 match ops[i]? with
 | none=>K a w
 | some o=>if Region.wanted o (yielded ops a.tmps)then o.wp P a w K Q else K (a.put o.dst undef) w
def qAg (P:Program) (md:Region.Mode) (ops:Array Oper) (Q:Exit->Act->World->Prop):Nat->Array Bool->Act->World->Prop
 | 0,listed,a,w=>Region.ready md ops listed=[]/\Q .normal a w
 | fuel+1,listed,a,w=>(Region.ready md ops listed=[]->Q .normal a w)/\∀i∈Region.ready md ops listed,stOp P ops Q i (qAg P md ops Q fuel (listed.setIfInBounds i true)) a w
theorem qBD {P:Program} {ops:Array Oper} {Q:Exit->Act->World->Prop} {i:Nat} {K K':Act->World->Prop} {a:Act} {w:World} (h:∀a w,K a w->K' a w) (hh:stOp P ops Q i K a w):stOp P ops Q i K' a w:=by
 unfold stOp at*
 split
 ·rename_i ho;simp only[ho]at hh;exact h _ _ hh
 ·rename_i o ho;simp only[ho]at hh
  split
  ·rename_i hw;simp only[hw,if_true]at hh;exact Oper.wp_mono h hh
  ·rename_i hw;simp only[hw]at hh;exact h _ _ hh
theorem qBJ {P:Program} {md:Region.Mode} {ops:Array Oper} {Q:Exit->Act->World->Prop}:∀(fuel:Nat) (listed:Array Bool) (a:Act) (w:World),qAg P md ops Q fuel listed a w->wpAny P md ops Q fuel listed a w
 | 0,_,_,_,h=>h
 | fuel+1,listed,a,w,h=>⟨h.1,λi hi=>by
   have h2:=qBD (λa' w'=>qBJ fuel _ a' w') (h.2 i hi);unfold stOp at h2;unfold wpOp
   split
   ·rename_i ho;simp only[ho]at h2;exact h2
   ·rename_i o ho;simp only[ho]at h2
    split
    ·rename_i hw;simp only[hw,if_true]at h2;exact .inl h2
    ·rename_i hw;simp only[hw]at h2;exact h2⟩
def qBk (P:Program) (Q:Exit->Act->World->Prop) (a:Act) (W:World):List Oper->Prop
 | []=>Q .normal a W
 | o::_=>o.guard=none/\o.wp P a W (Q .normal) Q
section
variable {R:WRel} {P:Program} {ops:Array Oper} {dsts:List (Option Tmp)} {Φs:List (MPredR R)} {PΦ:List PanicEntry->World->Prop}
def fact (Φs:List (MPredR R)) (x:Nat->Value) (W:World) (j:Nat):Prop:=(Φs.getD j MPredR.any).p (x j) W
theorem fact.le {x:Nat->Value} {W W':World} {j:Nat} (h:fact Φs x W j) (k:R.r W W'):fact Φs x W' j:=(Φs.getD j MPredR.any).mono _ _ _ k h
def qAo (Φs:List (MPredR R)) (x:Nat->Value) (W:World):List Nat->Prop
 | []=>True
 | j::js=>fact Φs x W j/\qAo Φs x W js
theorem qBb {x:Nat->Value} {W:World}:∀{js:List Nat},(∀j∈js,fact Φs x W j)->qAo Φs x W js
 | [],_=>trivial
 | j::js,h=>⟨h j (by simp),qBb λi hi=>h i (by simp[hi])⟩
def fA0 (dsts:List (Option Tmp)) (x:Nat->Value):List Nat->Act->Act
 | [],a=>a
 | j::js,a=>fA0 dsts x js (a.put (dsts.getD j none) (x j))
theorem fA:(∀dsts x a,fA0 dsts x [] a=a)/\(∀dsts x j js a,fA0 dsts x (j::js) a=fA0 dsts x js (a.put (dsts.getD j none) (x j)))/\(∀(a:Act) (d:Tmp) (v:Value),a.put (some d) v={a with tmps:=a.tmps.setIfInBounds d v})/\(∀(a:Act) (v:Value),a.put none v=a)∧
  (∀{α:Type} {x:α} {xs:List α} {n:Nat} {d:α},(x::xs).getD (n+1) d=xs.getD n d)/\(∀{α:Type} {x:α} {xs:List α} {d:α},(x::xs).getD 0 d=x)/\(∀{α:Type} (l:List α) (i:Nat) (a:α),l.toArray.setIfInBounds i a=(l.set i a).toArray)∧
  (∀{α:Type} {x:α} {xs:List α} {i:Nat} {a:α},(x::xs).set (i+1) a=x::xs.set i a)/\(∀{α:Type} {x:α} {xs:List α} {a:α},(x::xs).set 0 a=a::xs):=
 ⟨λ_ _ _=>rfl,λ_ _ _ _ _=>rfl,λ_ _ _=>rfl,λ_ _=>rfl,List.getD_cons_succ,List.getD_cons_zero,List.setIfInBounds_toArray,List.set_cons_succ,List.set_cons_zero⟩
def qDW (o:Oper):Bool:=match o.op with |Op.select .. =>false|_=>true
def qAz (ops:Array Oper) (n:Nat) (dsts:List (Option Tmp)) (deps:List (List Nat)):Bool:=
 decide (dsts.length=ops.size)&&(List.range ops.size).all λi=>
  match ops[i]? with
  | none=>false
  | some (o:Oper)=>
   qDW o&&(o.dst==dsts.getD i none)&&
   (match o.dst with |some d=>decide (d<n)&&(List.range ops.size).all λj=>j==i||dsts.getD j none != some d|none=>true)&&
   (((List.range ops.size).filter λj=>match dsts.getD j none with |some d=>(o.looksAt ops).contains d|none=>false).all λj=>(deps.getD i []).contains j)&&
   ((deps.getD i []).all λj=>decide (j<ops.size)&&(dsts.getD j none).isSome &&o.after.any λe=>Region.binds .any e&&e.on==j)&&
   (o.after.all λe=> !Region.binds .any e||decide (e.on<i))
structure MonoOk (ops:Array Oper) (n:Nat) (dsts:List (Option Tmp)) (deps:List (List Nat)):Prop where
 len:dsts.length=ops.size
 sel:∀(i:Nat) (o:Oper),ops[i]? =some o->∀cs b,o.op≠ .select cs b
 dst:∀(i:Nat) (o:Oper),ops[i]? =some o->o.dst=dsts.getD i none
 inn:∀(i:Nat) (o:Oper) (d:Tmp),ops[i]? =some o->o.dst=some d->d<n
 one:∀i j d,i<ops.size->j<ops.size->dsts.getD i none=some d->dsts.getD j none=some d->i=j
 looks:∀(i:Nat) (o:Oper),ops[i]? =some o->∀j d,j<ops.size->dsts.getD j none=some d->d∈o.looksAt ops->j∈deps.getD i []
 dep:∀(i:Nat) (o:Oper),ops[i]? =some o->∀j∈deps.getD i [],j<ops.size/\(∃d,dsts.getD j none=some d)/\∃e∈o.after,Region.binds .any e=true/\e.on=j
 back:∀(i:Nat) (o:Oper),ops[i]? =some o->∀e∈o.after,Region.binds .any e=true->e.on<i
theorem qCp {n:Nat} {deps:List (List Nat)} (h:qAz ops n dsts deps=true):MonoOk ops n dsts deps:=by
 unfold qAz at h;simp only[Bool.and_eq_true,decide_eq_true_eq,List.all_eq_true,List.mem_range]at h;obtain⟨k,h⟩:=h;have q:∀(i:Nat) (o:Oper),ops[i]? =some o->i<ops.size:=λi o c=>(gsl c)
 have H:∀(i:Nat) (o:Oper),ops[i]? =some o->((((((qDW o)=true/\(o.dst==dsts.getD i none)=true)∧
   (match o.dst with |some d=>decide (d<n)&&(List.range ops.size).all λj=>j==i||dsts.getD j none != some d|none=>true)=true)∧
   (∀j∈(List.range ops.size).filter (λj=>match dsts.getD j none with |some d=>(o.looksAt ops).contains d|none=>false),(deps.getD i []).contains j=true))∧
   (∀j∈deps.getD i [],((decide (j<ops.size)&&(dsts.getD j none).isSome)&&o.after.any λe=>Region.binds .any e&&e.on==j)=true))∧
   (o.after.all λe=> !Region.binds .any e||decide (e.on<i))=true):=by
  intro i o c;have:=h i (q i o c);rw[c]at this;simpa only[Bool.and_eq_true,List.all_eq_true]using this
 refine⟨k,?_,?_,?_,?_,?_,?_,?_⟩
 ·intro i o c A b z;have:=(H i o c).1.1.1.1.1;unfold qDW at this;rw[z]at this
  cases this
 ·intro i o c;simpa using(H i o c).1.1.1.1.2
 ·intro i o d c r;have:=(H i o c).1.1.1.2;rw[r]at this;simp only[Bool.and_eq_true,decide_eq_true_eq]at this;exact this.1
 ·intro i j d x g m p;obtain⟨o,c⟩:∃o,ops[i]? =some o:=⟨ops[i],Array.getElem?_eq_getElem x⟩;have v:o.dst=dsts.getD i none:=by simpa using(H i o c).1.1.1.1.2
  have:=(H i o c).1.1.1.2;rw[v,m]at this;simp only[Bool.and_eq_true,List.all_eq_true,List.mem_range]at this;have:=this.2 j g;rw[p]at this;simpa using(by simpa using this:j=i).symm
 ·intro i o c j d g r y
  have:=(H i o c).1.1.2 j (by
   rw[List.mem_filter];refine⟨List.mem_range.2 g,?_⟩;rw[r]
   simpa using y)
  simpa using this
 ·intro i o c j g;have:=(H i o c).1.2 j g;simp only[Bool.and_eq_true,decide_eq_true_eq]at this;obtain⟨⟨m,p⟩,t⟩:=this;rw[Array.any_eq_true']at t;obtain⟨e,s,f⟩:=t;simp only[Bool.and_eq_true,beq_iff_eq]at f;exact⟨m,Option.isSome_iff_exists.1 p,e,s,f.1,f.2⟩
 ·intro i o c e s f;have:=(H i o c).2;rw[Array.all_eq_true']at this;have:=this e s;rw[f]at this;simpa using this
def qCG (P:Program) (ops:Array Oper) (a0:Act) (w:World) (dsts:List (Option Tmp)) (Φs:List (MPredR R)) (PΦ:List PanicEntry->World->Prop) (deps:List Nat) (i:Nat) (o:Oper):Prop:=
 ∀(x:Nat->Value) (W:World),R.r w W->qAo Φs x W deps→
  if Region.wanted o (yielded ops (fA0 dsts x deps a0).tmps)then
   ∀K:Act->World->Prop,(∀v W',R.r W W'->(Φs.getD i MPredR.any).p v W'->K ((fA0 dsts x deps a0).put o.dst v) W')→
    o.wp P (fA0 dsts x deps a0) W K (λe _ W'=>∃ch,e= .panic ch/\R.r w W'/\PΦ ch W')
  else(Φs.getD i MPredR.any).p undef W
def qAj (P:Program) (ops:Array Oper) (a0:Act) (w:World) (dsts:List (Option Tmp)) (Φs:List (MPredR R)) (PΦ:List PanicEntry->World->Prop):List Oper->List (List Nat)->Nat->Prop
 | [],_,_=>True
 | o::os,[],i=>False
 | o::os,d::ds,i=>qCG P ops a0 w dsts Φs PΦ d i o/\qAj P ops a0 w dsts Φs PΦ os ds (i+1)
theorem qCy {a0:Act} {w:World}:∀{os:List Oper} {deps:List (List Nat)} {k:Nat},qAj P ops a0 w dsts Φs PΦ os deps k->∀i o,os[i]? =some o->qCG P ops a0 w dsts Φs PΦ (deps.getD i []) (k+i) o
 | [],_,_,_,i,o,ho=>by simp at ho
 | o'::os,[],k,h,i,o,ho=>h.elim
 | o'::os,d::ds,k,h,0,o,ho=>by
  simp only[List.getElem?_cons_zero,Option.some.injEq]at ho;subst ho;exact h.1
 | o'::os,d::ds,k,h,i+1,o,ho=>by
  have:=qCy h.2 i o (by simpa using ho);rw[show k+1+i=k+(i+1)by omega]at this;simpa using this
theorem qAU (a:Act) (dst:Option Tmp) (v:Value) (t:Tmp):(a.put dst v).tmps[t]? =if dst=some t/\t<a.tmps.size then some v else a.tmps[t]? :=by
 cases dst with
 | none=>simp[Act.put]
 | some d=>
  simp only[Act.put,Array.getElem?_setIfInBounds,Option.some.injEq]
  by_cases h:d=t
  ·subst h
   by_cases b:d<a.tmps.size
   ·simp[b]
   ·simp[b]
  ·simp[h]
theorem qBl (a:Act) (dst:Option Tmp) (v:Value):(a.put dst v).tmps.size =a.tmps.size:=by cases dst<;>simp[Act.put]
theorem qA6 (a:Act) (dst:Option Tmp) (v:Value):(a.put dst v).defers =a.defers:=by cases dst<;>rfl
theorem qA4 (x:Nat->Value):∀(js:List Nat) (a:Act),(fA0 dsts x js a).tmps.size =a.tmps.size
 | [],a=>rfl
 | j::js,a=>by rw[fA0,qA4 x js,qBl]
theorem qAc (x:Nat->Value):∀(js:List Nat) (a:Act),(fA0 dsts x js a).defers =a.defers
 | [],a=>rfl
 | j::js,a=>by rw[fA0,qAc x js,qA6]
theorem qAi (x:Nat->Value) (t:Tmp):∀(js:List Nat) (a:Act),(∀j∈js,dsts.getD j none≠some t)->(fA0 dsts x js a).tmps[t]? =a.tmps[t]?
 | [],a,_=>rfl
 | j::js,a,h=>by
  rw[fA0,qAi x t js _ λk hk=>h k (by simp[hk]),qAU,if_neg λhh=>h j (by simp) hh.1]
theorem qBF (x:Nat->Value) (t:Tmp) (j0:Nat) (hd:dsts.getD j0 none=some t):∀(js:List Nat) (a:Act),t<a.tmps.size->(∀j∈js,dsts.getD j none=some t->j=j0)->(a.tmps[t]? =some (x j0)∨j0∈js)->(fA0 dsts x js a).tmps[t]? =some (x j0)
 | [],a,_,_,h=>by
  rcases h with h|h
  ·exact h
  ·simp at h
 | j::js,a,ht,hu,h=>by
  rw[fA0];refine qBF x t j0 hd js _ (by rw[qBl];exact ht) (λk hk=>hu k (by simp[hk])) ?_
  by_cases hj:j=j0
  ·subst hj
   left
   rw[qAU,if_pos ⟨hd,ht⟩]
  ·rcases h with h|h
   ·left
    rw[qAU,if_neg λhh=>hj (hu j (by simp) hh.1)];exact h
   ·rcases List.mem_cons.1 h with h|h
    ·exact absurd h.symm hj
    ·exact .inr h
structure MInv (ops:Array Oper) (a0:Act) (w:World) (dsts:List (Option Tmp)) (Φs:List (MPredR R)) (m:Nat) (listed:Array Bool) (x:Nat->Value) (a:Act) (W:World):Prop where
 ls:listed.size=ops.size
 size:a.tmps.size=a0.tmps.size
 defers:a.defers=a0.defers
 done:∀j d,j<m->listed.getD j true=true->dsts.getD j none=some d->a.tmps[d]? =some (x j)
 rest:∀t,(∀j,j<m->listed.getD j true=true->dsts.getD j none≠some t)->a.tmps[t]? =a0.tmps[t]?
 fact:∀j,j<m->listed.getD j true=true->fact Φs x W j
 tail:m<ops.size->listed.getD m true=false
 le:R.r w W
 closed:∀(j:Nat) (o:Oper),ops[j]? =some o->listed.getD j true=true->∀e∈o.after,Region.binds .any e=true->listed.getD e.on true=true
theorem qAx {p q:Nat->Bool}:∀{l:List Nat},(∀j∈l,q j=true->p j=true)->∀i∈l,p i=true->q i=false->l.countP q<l.countP p
 | [],_,i,hi,_,_=>by simp at hi
 | j::l,h,i,hi,h1,h2=>by
  have hle:∀{l:List Nat},(∀j∈l,q j=true->p j=true)->l.countP q<=l.countP p:=λh=>List.countP_mono_left h
  rcases List.mem_cons.1 hi with rfl|hi
  ·rw[List.countP_cons,List.countP_cons,h1,h2];have:=hle (l:=l) λk hk=>h k (by simp[hk]);simp;omega
  ·have:=qAx (λk hk=>h k (by simp[hk])) i hi h1 h2;rw[List.countP_cons,List.countP_cons];have h3:=h j (by simp)
   by_cases h4:q j=true
   ·rw[h4,h3 h4];simp;omega
   ·simp[h4];split<;>omega
theorem qGZ {o:Oper} {a b:Act} {W w:World} {K:Act->World->Prop} {Q:Exit->Act->World->Prop} (hab:a.defers=b.defers) (hsz:a.tmps.size=b.tmps.size) (hin:∀d,o.dst=some d->d<b.tmps.size) {φ :Value->World->Prop} (r:Result Next)
  (hK:∀v W',R.r W W'-> φ v W'->K (a.put o.dst v) W') (hQ:∀ch W',R.r w W'->PΦ ch W'->Q (.panic ch) a W')
  (h:o.upon P b (λa' W'=>a'.defers=b.defers/\R.r W W'/\(∀d,o.dst=some d->∃v,a'.tmps[d]? =some v/\ φ v W')/\(o.dst=none->∃v,φ v W')) (λe _ W'=>∃ch,e= .panic ch/\R.r w W'/\PΦ ch W') r):o.upon P a K Q r:=by
 have c:∀v W',((b.put o.dst v).defers =b.defers/\R.r W W'/\(∀d,o.dst=some d->∃u,(b.put o.dst v).tmps[d]? =some u/\ φ u W')/\(o.dst=none->∃v,φ v W'))->K (a.put o.dst v) W':=by
  rintro v W' ⟨-,g,s,t⟩
  cases hd:o.dst with
  | none=>
   obtain⟨u,m⟩:=t hd;have:=hK u W' g m;rw[hd]at this;exact this
  | some d=>
   rw[<-hd];refine hK v W' g ?_;obtain⟨u,m,y⟩:=s d hd;rw[qAU,if_pos ⟨hd,hin d hd⟩]at m
   cases m
   exact y
 cases r with
 | ok n w'=>
  cases n<;>simp only[Oper.upon]at h ⊢
  case value v=>exact c _ _ h
  case skip=>exact c _ _ h
  case defer d=>
   have:=h.1;rw[qA6]at this;simp at this
  case enter f args=>
   refine Calls.mono h λe q k=>?_
   cases e with
   | returned v=>exact c _ _ k
   | panicked ch=>
    obtain⟨i,j,p,g⟩:=k
    cases j
    exact hQ _ _ p g
   | outgrown=>
    obtain⟨_,_,i,j,_⟩:=k
    cases j
  case row row args=>exact Rows.mono h λv q k=>c _ _ k
 | halt x w'=>
  cases x<;>simp only[Oper.upon]at h ⊢
  case panic v=>
   obtain⟨i,j,p,g⟩:=h
   cases j
   exact hQ _ _ p g
structure TailOk (ops:Array Oper) (m:Nat):Prop where
 le:m<=ops.size
 one:ops.size<=m+1
 sink:m<ops.size->∀i,i<m->∃j o,j<=m/\i<j/\ops[j]? =some o/\∃e∈o.after,Region.binds .any e=true/\e.on=i
def qBO (ops:Array Oper) (m:Nat):Bool:=
 decide (m<=ops.size)&&decide (ops.size<=m+1)&&(decide (m=ops.size)||(List.range m).all λi=>(List.range (m+1)).any λj=>decide (i<j)&&match ops[j]? with |some o=>o.after.any λe=>Region.binds .any e&&e.on==i|none=>false)
theorem qCH {m:Nat} (h:qBO ops m=true):TailOk ops m:=by
 unfold qBO at h;simp only[Bool.and_eq_true,decide_eq_true_eq]at h;obtain⟨⟨k,o⟩,f⟩:=h;refine⟨k,o,λt i q=>?_⟩;rw[decide_eq_false (by omega:¬m=ops.size),Bool.false_or,List.all_eq_true]at f;have g:=f i (List.mem_range.2 q);rw[List.any_eq_true]at g;obtain⟨j,r,b⟩:=g;simp only[Bool.and_eq_true,decide_eq_true_eq]at b;obtain⟨d,b⟩:=b;have s:=List.mem_range.1 r;refine⟨j,ops[j]'(by omega),by omega,d,Array.getElem?_eq_getElem _,?_⟩;rw[Array.getElem?_eq_getElem (by omega)]at b;simp only[Array.any_eq_true']at b;obtain⟨e,p,c⟩:=b;simp only[Bool.and_eq_true,beq_iff_eq]at c;exact⟨e,p,c.1,c.2⟩
theorem qGt {a0:Act} {w:World} {Q:Exit->Act->World->Prop} {deps:List (List Nat)} {m:Nat} (ok:MonoOk ops a0.tmps.size dsts deps) (tl:TailOk ops m)
  (hsteps:∀(i:Nat) (o:Oper),i<m->ops[i]? =some o->qCG P ops a0 w dsts Φs PΦ (deps.getD i []) i o)
  (hpan:∀(a:Act) ch W,a.defers=a0.defers->R.r w W->PΦ ch W->Q (.panic ch) a W)
  (hend:∀x W,R.r w W->(∀j,j<m->fact Φs x W j)->if m<ops.size then stOp P ops Q m (Q .normal) (fA0 dsts x (List.range m) a0) W else Q .normal (fA0 dsts x (List.range m) a0) W):
  ∀(fuel:Nat) (listed:Array Bool) (x:Nat->Value) (a:Act) (W:World),MInv ops a0 w dsts Φs m listed x a W->(List.range ops.size).countP (λi=> !listed.getD i true)<=fuel->qAg P .any ops Q fuel listed a W:=by
 intro fuel
 have au:∀(listed:Array Bool) (x:Nat->Value) (a:Act) (W:World),MInv ops a0 w dsts Φs m listed x a W->(∀j,j<m->listed.getD j true=true)->a=fA0 dsts x (List.range m) a0:=by
  intro listed x a W b c;have C:a.defers=(fA0 dsts x (List.range m) a0).defers :=by rw[qAc,b.defers]
  have I:a.tmps=(fA0 dsts x (List.range m) a0).tmps :=by
   refine Array.ext_getElem? λt=>?_
   by_cases ht:∃j,j<m/\dsts.getD j none=some t
   ·obtain⟨j,s,B⟩:=ht;have ad:j<ops.size:=Nat.lt_of_lt_of_le s tl.le;rw[b.done j t s (c j s) B,qBF x t j B]
    ·obtain⟨o,E⟩:∃o,ops[j]? =some o:=⟨ops[j],Array.getElem?_eq_getElem ad⟩;exact ok.inn j o t E ((ok.dst j o E).trans B)
    ·exact λk hk aj=>ok.one k j t (Nat.lt_of_lt_of_le (List.mem_range.1 hk) tl.le) ad aj B
    ·exact .inr (List.mem_range.2 s)
   ·rw[b.rest t λj s _ B=>ht ⟨j,s,B⟩,qAi x t _ _ λj s B=>ht ⟨j,List.mem_range.1 s,B⟩]
  obtain⟨aE,aD⟩:=a;simp only at C I;generalize fA0 dsts x (List.range m) a0=f at C I;obtain⟨ft,fd⟩:=f;simp only at C I;rw[C,I]
 have G:∀(listed:Array Bool) j,listed.size=ops.size->j<ops.size->listed.getD j false=listed.getD j true:=by
  intro listed j az s;have hs:j<listed.size:=by omega
  simp only[Array.getD_eq_getD_getElem?,Array.getElem?_eq_getElem hs,Option.getD_some]
 have ah:∀(listed:Array Bool),listed.size=ops.size->Region.ready .any ops listed=[]->∀j,j<ops.size->listed.getD j true=true:=by
  intro listed az hr j
  induction j using Nat.strongRecOn with
  | ind j ih=>
   intro s
   cases hlj:listed.getD j true with
   | true=>rfl
   | false=>
    have:j∈Region.ready .any ops listed:=by
     rw[mem_ready];refine⟨hlj,ops[j],Array.getElem?_eq_getElem s,λe S O=>?_⟩;have a4:=ok.back j ops[j] (Array.getElem?_eq_getElem s) e S O;rw[G _ _ az (by omega)];exact ih e.on a4 (by omega)
    rw[hr]at this;simp at this
 have X:∀(listed:Array Bool),(∀j,j<ops.size->listed.getD j true=true)->Region.ready .any ops listed=[]:=by
  intro listed c;refine List.eq_nil_iff_forall_not_mem.2 λj s=>?_;obtain⟨C,o,E,_⟩:=mem_ready.1 s;rw[c j (gsl E)]at C
  cases C
 have Y:∀(fuel:Nat) (listed:Array Bool) (a:Act) (W:World),(∀j,j<ops.size->listed.getD j true=true)->Q .normal a W->qAg P .any ops Q fuel listed a W:=by
  intro fuel listed a W c hq
  cases fuel with
  | zero=>exact⟨X _ c,hq⟩
  | succ fuel=>exact⟨λ_=>hq,λi hi=>by rw[X _ c]at hi;simp at hi⟩
 have A:∀(listed:Array Bool) i j,i<listed.size->(listed.setIfInBounds i true).getD j true=if i=j then true else listed.getD j true:=by
  intro listed i j hi;simp only[Array.getD_eq_getD_getElem?,Array.getElem?_setIfInBounds]
  by_cases h:i=j
  ·subst h;simp[hi]
  ·simp[h]
 -- all of the head is there
 have J:∀(listed:Array Bool) (x:Nat->Value) (a:Act) (W:World),MInv ops a0 w dsts Φs m listed x a W->(∀j,j<m->listed.getD j true=true)->if m<ops.size then stOp P ops Q m (Q .normal) a W else Q .normal a W:=by
  intro listed x a W b c;rw[au _ _ _ _ b c];exact hend x W b.le λj s=>b.fact j s (c j s)
 induction fuel with
 | zero=>
  intro listed x a W b hc
  have c:∀j,j<ops.size->listed.getD j true=true:=λj s=>by
   have h0:(List.range ops.size).countP (λi=> !listed.getD i true)=0:=by omega
   rw[List.countP_eq_zero]at h0;simpa using h0 j (List.mem_range.2 s)
  have h:=J _ _ _ _ b λj s=>c j (Nat.lt_of_lt_of_le s tl.le)
  by_cases hm:m<ops.size
  ·have:=c m hm;rw[b.tail hm]at this
   cases this
  ·rw[if_neg hm]at h;exact Y 0 _ _ _ c h
 | succ fuel ih=>
  intro listed x a W b hc;refine⟨λhr=>?_,λi hi=>?_⟩
  ·have c:=ah listed b.ls hr;have h:=J _ _ _ _ b λj s=>c j (Nat.lt_of_lt_of_le s tl.le)
   by_cases hm:m<ops.size
   ·have:=c m hm;rw[b.tail hm]at this
    cases this
   ·rw[if_neg hm]at h;exact h
  ·obtain⟨a8,o,E,F⟩:=mem_ready.1 hi;have U:i<ops.size:=(gsl E);have y:i<listed.size:=by rw[b.ls];exact U
   have ak:=ok.dst i o E
   by_cases aw:i<m
   ·-- the results that o looks at are there
    have aq:∀j∈deps.getD i [],j<m/\listed.getD j true=true/\∃d,dsts.getD j none=some d:=λj s=>by
     obtain⟨ad,B,e,S,O,ag⟩:=ok.dep i o E j s;have C:=F e S O;have I:=ok.back i o E e S O;rw[ag]at C I;rw[G _ _ b.ls ad]at C;exact⟨by omega,C,B⟩
    have ac:qAo Φs x W (deps.getD i []):=qBb λj s=>by
     obtain⟨C,I,d,B⟩:=aq j s;exact b.fact j C I
    have H:=hsteps i o aw E x W b.le ac
    -- a and the act that is filled agree where o looks
    have Z:∀t∈o.looksAt ops,(fA0 dsts x (deps.getD i []) a0).tmps[t]? =a.tmps[t]? :=by
     intro t ht
     by_cases am:∃j,j<ops.size/\dsts.getD j none=some t
     ·obtain⟨j,s,B⟩:=am;have ay:=ok.looks i o E j t s B ht;obtain⟨C,I,_⟩:=aq j ay;rw[b.done j t C I B,qBF x t j B]
      ·obtain⟨oj,L⟩:∃oj,ops[j]? =some oj:=⟨ops[j],Array.getElem?_eq_getElem s⟩;exact ok.inn j oj t L ((ok.dst j oj L).trans B)
      ·exact λk hk aj=>ok.one k j t (ok.dep i o E k hk).1 s aj B
      ·exact .inr ay
     ·rw[qAi x t _ _ λj s B=>am ⟨j,(ok.dep i o E j s).1,B⟩,b.rest t λj s _ B=>am ⟨j,Nat.lt_of_lt_of_le s tl.le,B⟩]
    have ai:execOp a.eval o=execOp (fA0 dsts x (deps.getD i []) a0).eval o:=execOp_congr o (ok.sel i o E) λz hz=>by
     cases z with
     | tmp t=>
      have:=Z t (List.mem_append_left _ (List.mem_filterMap.2 ⟨.tmp t,by simpa using hz,rfl⟩));simp only[Act.eval,Array.getD_eq_getD_getElem?,this]
     | const v=>rfl
     | global g=>rfl
     | func f=>rfl
    have an:Region.wanted o (yielded ops a.tmps)=Region.wanted o (yielded ops (fA0 dsts x (deps.getD i []) a0).tmps):=by
     unfold Region.wanted
     cases hg:o.guard with
     | none=>rfl
     | some gw=>
      obtain⟨g,aC⟩:=gw
      have hy:yielded ops a.tmps g=yielded ops (fA0 dsts x (deps.getD i []) a0).tmps g:=by
       unfold yielded
       cases ht:(ops[g]?).bind (·.dst)with
       | none=>rfl
       | some t=>
        have:=Z t (by simp[Oper.looksAt,hg,ht]);simp only[Option.bind_some,this]
      simp only[hy]
    -- what comes next
    have V:∀v M,R.r W M->(Φs.getD i MPredR.any).p v M->qAg P .any ops Q fuel (listed.setIfInBounds i true) (a.put o.dst v) M:=by
     intro v M ae hv;refine ih (listed.setIfInBounds i true) (λj=>if j=i then v else x j) _ _ ?_ ?_
     ·refine⟨by simp[b.ls],by rw[qBl,b.size],by rw[qA6,b.defers],?_,?_,?_,?_,R.trans b.le ae,?_⟩
      ·intro j d s hl B
       by_cases D:j=i
       ·subst D;have ar:o.dst=some d:=ak.trans B;rw[qAU,if_pos ⟨ar,by rw[b.size];exact ok.inn j o d E ar⟩,if_pos rfl]
       ·rw[A _ _ _ y,if_neg (Ne.symm D)]at hl;rw[qAU,if_neg,if_neg D]
        ·exact b.done j d s hl B
        ·rintro⟨C,_⟩;exact D (ok.one j i d (Nat.lt_of_lt_of_le s tl.le) U B (ak.symm.trans C))
      ·intro t ht
       have a5:o.dst≠some t:=by
        intro C;refine ht i aw ?_ (ak.symm.trans C);rw[A _ _ _ y,if_pos rfl]
       rw[qAU,if_neg λC=>a5 C.1];refine b.rest t λj s hl=>ht j s ?_;rw[A _ _ _ y]
       split
       ·rfl
       ·exact hl
      ·intro j s hl
       by_cases D:j=i
       ·subst D;unfold Proofs.YtfmfefibadpobaaGreatDoor.fact;simp only[if_true];exact hv
       ·rw[A _ _ _ y,if_neg (Ne.symm D)]at hl;have:=(b.fact j s hl).le ae;unfold Proofs.YtfmfefibadpobaaGreatDoor.fact at this ⊢;simp only[if_neg D];exact this
      ·intro hm;rw[A _ _ _ y,if_neg (by omega)];exact b.tail hm
      ·intro j oj L hl e S O;rw[A _ _ _ y]
       by_cases D:j=i
       ·subst D;rw[E]at L
        cases L
        split
        ·rfl
        ·rw[<-G _ _ b.ls]
         ·exact F e S O
         ·have:=ok.back j o E e S O;omega
       ·rw[A _ _ _ y,if_neg (Ne.symm D)]at hl
        split
        ·rfl
        ·exact b.closed j oj L hl e S O
     ·refine Nat.le_of_lt_succ (Nat.lt_of_lt_of_le (qAx (λj s hq=>?_) i (List.mem_range.2 U) ?_ ?_) hc)
      ·rw[A _ _ _ y]at hq
       by_cases av:i=j
       ·simp[av]at hq
       ·simpa[av]using hq
      ·rw[a8];rfl
      ·rw[A _ _ _ y,if_pos rfl];rfl
    unfold stOp;simp only[E];rw[an]
    by_cases hw:Region.wanted o (yielded ops (fA0 dsts x (deps.getD i []) a0).tmps)=true
    ·rw[if_pos hw]at H ⊢
     have hK:=H (λa' M=>a'.defers=(fA0 dsts x (deps.getD i []) a0).defers /\R.r W M/\(∀d,o.dst=some d->∃v,a'.tmps[d]? =some v/\(Φs.getD i MPredR.any).p v M)/\(o.dst=none->∃v,(Φs.getD i MPredR.any).p v M)) λv M ae hv=>
      ⟨qA6 _ _ _,ae,λd B=>⟨v,by rw[qAU,if_pos ⟨B,by rw[qA4];exact ok.inn i o d E B⟩],hv⟩,λ_=>⟨v,hv⟩⟩
     unfold Oper.wp at hK ⊢;rw[ai];refine qGZ (PΦ:=PΦ) (w:=w) (by rw[qAc,b.defers]) (by rw[qA4,b.size]) (λd B=>by rw[qA4];exact ok.inn i o d E B) _ V ?_ hK;intro ch M C I;exact hpan _ _ _ b.defers C I
    ·rw[if_neg hw]at H ⊢;exact V undef W (R.refl W) H
   ·-- the tail
    have ax:i=m:=by have:=tl.one;omega
    subst ax
    have c:∀k j,j<i->i - j<=k->listed.getD j true=true:=by
     intro k
     induction k with
     | zero=>intro j C I;omega
     | succ k ihk=>
      intro j s _;obtain⟨q,oq,aF,aG,al,e,S,O,ag⟩:=tl.sink U j s
      by_cases a6:q=i
      ·subst a6;rw[E]at al
       cases al
       have C:=F e S O;rw[ag,G _ _ b.ls (by omega)]at C;exact C
      ·have C:=ihk q (by omega) (by omega);have I:=b.closed q oq al C e S O;rw[ag]at I;exact I
    have N:∀j,j<i->listed.getD j true=true:=λj s=>c (i - j) j s (Nat.le_refl _);have h:=J _ _ _ _ b N;rw[if_pos U]at h;refine qBD (λa' M hq=>Y fuel _ _ _ (λj s=>?_) hq) h;rw[A _ _ _ y]
    split
    ·rfl
    ·exact N j (by have:=tl.one;omega)
theorem qEr {a0:Act} {w:World} {m:Nat} (x:Nat->Value) {W:World} (hle:R.r w W) (tl:TailOk ops m):MInv ops a0 w dsts Φs m (Array.replicate ops.size false) x a0 W:=by
 have h:∀j,j<ops.size->(Array.replicate ops.size false).getD j true=false:=λj c=>by
  simp[Array.getD_eq_getD_getElem?,c]
 refine⟨by simp,rfl,rfl,λj d c b=>?_,λt _=>rfl,λj c b=>?_,λg=>h m g,hle,λj o f b=>?_⟩
 ·rw[h j (Nat.lt_of_lt_of_le c tl.le)]at b;cases b
 ·rw[h j (Nat.lt_of_lt_of_le c tl.le)]at b;cases b
 ·rw[h j (gsl f)]at b;cases b
theorem qCa {a0:Act} {w:World} {Q:Exit->Act->World->Prop} {os:List Oper} (m:Nat) (dsts:List (Option Tmp)) (deps:List (List Nat)) (Φs:List (MPredR R)) (PΦ:List PanicEntry->World->Prop)
  (hm:P.follows .mixedOrders =true) (hB:qAz os.toArray a0.tmps.size dsts deps=true) (hT:qBO os.toArray m=true)
  (hsteps:qAj P os.toArray a0 w dsts Φs PΦ (os.take m) (deps.take m) 0)
  (hpan:∀(a:Act) ch W,a.defers=a0.defers->R.r w W->PΦ ch W->Q (.panic ch) a W)
  (hend:∀x W,R.r w W->(∀j,j<m->fact Φs x W j)->qBk P Q (fA0 dsts x (List.range m) a0) W (os.drop m)):
  qAg P .any os.toArray Q os.toArray.size (Array.replicate os.toArray.size false) a0 {w with drawn:=w.drawn+1}:=by
 have ok:=qCp hB;have k:=qCH hT;refine(qGt (Φs:=Φs) ok k (λi o g q=>?_) hpan (λx W d p=>?_) _ _ (λ_=>undef) _ _ (qEr _ (R.drew _) k) ?_)
 ·have f:(os.take m)[i]? =some o:=by rw[List.getElem?_take,if_pos g];simpa using q
  have:=qCy hsteps i o f;rw[Nat.zero_add]at this;have e:(deps.take m).getD i []=deps.getD i []:=by simp[List.getD_eq_getElem?_getD,g]
  rwa[e]at this
 ·have h:=hend x W d p
  by_cases b:m<os.toArray.size
  ·rw[if_pos b];have c:m<os.length:=by simpa using b
   rw[List.drop_eq_getElem_cons c]at h;unfold stOp;simp only[List.getElem?_toArray,List.getElem?_eq_getElem c];have r:Region.wanted os[m] (yielded os.toArray (fA0 dsts x (List.range m) a0).tmps)=true:=by unfold Region.wanted;rw[h.1]
   rw[if_pos r];exact h.2
  ·rw[if_neg b];rw[List.drop_eq_nil_of_le (by simpa using b)]at h;exact h
 ·exact Nat.le_trans List.countP_le_length (by simp)
theorem qEY {id:Nat} {a0:Act} {w:World} {Q:Exit->Act->World->Prop} {os:List Oper} (m:Nat) (dsts:List (Option Tmp)) (deps:List (List Nat)) (Φs:List (MPredR R)) (PΦ:List PanicEntry->World->Prop)
  (hm:P.follows .mixedOrders =true) (hB:qAz os.toArray a0.tmps.size dsts deps=true) (hT:qBO os.toArray m=true)
  (hsteps:qAj P os.toArray a0 w dsts Φs PΦ (os.take m) (deps.take m) 0)
  (hpan:∀(a:Act) ch W,a.defers=a0.defers->R.r w W->PΦ ch W->Q (.panic ch) a W)
  (hend:∀x W,R.r w W->(∀j,j<m->fact Φs x W j)->qBk P Q (fA0 dsts x (List.range m) a0) W (os.drop m)):
  (Code.region id os.toArray true).wp P Q a0 w:=
 wp_region_any hm (qBJ _ _ _ _ (qCa m dsts deps Φs PΦ hm hB hT hsteps hpan hend))
end
end Go.Proofs.YtfmfefibadpobaaGreatDoor
namespace Go.Proofs.YtfmfefibadpobaaGreatDoor
set_option maxRecDepth 100000
open Go.RowKit Go.Shelf
set_option linter.unusedVariables false
section
variable {P:Program} {ops:Array Oper} {md:Region.Mode} {l n:Nat}
theorem qF3 {o:Oper} {a:Act} {K:Act->World->Prop} {Q:Exit->Act->World->Prop} {w:World} (hnd:∀c,o.op≠ .defer c) (hh:o.wp P a w K Q):o.wpIn (Fence.wide.inRound l) n P a w K Q:=by
 unfold Oper.wp at hh;unfold Oper.wpIn;refine⟨λ_ _=>trivial,?_⟩;rw[show(Fence.wide.inRound l).round =some l from rfl,Oper.semAt_some _ _ _ hnd];generalize (execOp a.eval o).run P w=r at*
 cases r with
 | ok x w'=>
  cases x<;>simp only[Oper.upon]at hh<;>simp only[Oper.uponIn]
  case value u=>exact hh
  case skip=>exact hh
  case defer d=>exact hh
  case enter f args=>exact⟨(λb=>by cases b),CallsIn.inRound l (callsIn_wide.2 hh)⟩
  case row row args=>exact⟨(λb=>by cases b),λc g _=>let ⟨v,h,r,s⟩:=hh c g;⟨v,h,r,stepsIn_wide.2 s⟩⟩
 | halt x w'=>
  cases x<;>simp only[Oper.upon]at hh<;>simp only[Oper.uponIn]
  all_goals exact hh
theorem qBm {Q:Exit->Act->World->Prop} (hnd:∀o∈ops,∀c,o.op≠ .defer c):∀(fuel:Nat) (listed:Array Bool) (a:Act) (w:World),qAg P md ops Q fuel listed a w->wpAnyIn (Fence.wide.inRound l) n P md ops Q fuel listed a w
 | 0,_,_,_,h=>h
 | fuel+1,listed,a,w,h=>⟨h.1,λi hi=>by
   have h2:=qBD (λa' w'=>qBm hnd fuel _ a' w') (h.2 i hi);unfold stOp at h2;unfold wpOpIn
   split
   ·rename_i ho;simp only[ho]at h2;exact h2
   ·rename_i o ho;simp only[ho]at h2
    split
    ·rename_i hw;simp only[hw,if_true]at h2;exact qF3 (hnd o (Array.mem_of_getElem? ho)) h2
    ·rename_i hw;simp only[hw]at h2;exact⟨λ_ _=>trivial,h2⟩⟩
theorem qDs {R:WRel} {id:Nat} {a0:Act} {w:World} {Q:Exit->Act->World->Prop} {os:List Oper} (m:Nat) (dsts:List (Option Tmp)) (deps:List (List Nat)) (Φs:List (MPredR R)) (PΦ:List PanicEntry->World->Prop)
  (hm:P.follows .mixedOrders =true) (hB:qAz os.toArray a0.tmps.size dsts deps=true) (hT:qBO os.toArray m=true) (hnd:qDV os=true)
  (hsteps:qAj P os.toArray a0 w dsts Φs PΦ (os.take m) (deps.take m) 0)
  (hpan:∀(a:Act) ch W,a.defers=a0.defers->R.r w W->PΦ ch W->Q (.panic ch) a W)
  (hend:∀x W,R.r w W->(∀j,j<m->fact Φs x W j)->qBk P Q (fA0 dsts x (List.range m) a0) W (os.drop m)):
  (Code.region id os.toArray true).wpIn (Fence.wide.inRound l) n P Q a0 w:=
 wpIn_region_any hm (qBm (qDH hnd) _ _ _ _ (qCa m dsts deps Φs PΦ hm hB hT hsteps hpan hend))
theorem qBz {o:Oper} {a:Act} {K K':Act->World->Prop} {Q Q':Exit->Act->World->Prop} (hK:∀a w,K a w->K' a w) (hQ:∀e a w,Q e a w->e≠ .normal ->Q' e a w) (r:Result Next) (h:o.upon P a K Q r):o.upon P a K' Q' r:=by
 have g:LetsOut Q->LetsOut Q':=λ⟨a,w,h⟩=>⟨a,w,hQ _ _ _ h (by simp)⟩
 cases r with
 | ok x w'=>
  cases x<;>simp only[Oper.upon]at h ⊢
  case value v=>exact hK _ _ h
  case skip=>exact hK _ _ h
  case defer d=>exact hK _ _ h
  case enter f args=>
   refine Calls.mono h λe c b=>?_
   cases e with
   | returned v=>exact hK _ _ b
   | panicked ch=>exact hQ _ _ _ b (by simp)
   | outgrown=>exact g b
  case row row args=>exact Rows.mono h λv c b=>hK _ _ b
 | halt x w'=>
  cases x<;>simp only[Oper.upon]at h ⊢
  case panic v=>exact hQ _ _ _ h (by simp)
section
variable {R:WRel} {dsts:List (Option Tmp)} {Φs:List (MPredR R)} {PΦ:List PanicEntry->World->Prop}
theorem qB1 {a0:Act} {w:World} {ds:List (List Nat)} {i:Nat}:qAj P ops a0 w dsts Φs PΦ [] ds i:=trivial
theorem mSc {a0:Act} {w:World} {o:Oper} {os:List Oper} {d:List Nat} {ds:List (List Nat)} {i:Nat} (h:qCG P ops a0 w dsts Φs PΦ d i o) (h2:qAj P ops a0 w dsts Φs PΦ os ds (i+1)):qAj P ops a0 w dsts Φs PΦ (o::os) (d::ds) i:=⟨h,h2⟩
theorem mSl {a0:Act} {w:World} {o:Oper} {d:List Nat} {i:Nat} (hg:o.guard=none)
  (h:∀(x:Nat->Value) (W:World),R.r w W->qAo Φs x W d->∀Q:Exit->Act->World->Prop,(∀v W',R.r W W'->(Φs.getD i MPredR.any).p v W'->Q .normal ((fA0 dsts x d a0).put o.dst v) W')->(∀ch a' W',R.r w W'->PΦ ch W'->Q (.panic ch) a' W')→
   wpList P ops Q [o] (fA0 dsts x d a0) W):qCG P ops a0 w dsts Φs PΦ d i o:=by
 intro x W k m;have j:Region.wanted o (yielded ops (fA0 dsts x d a0).tmps)=true:=by unfold Region.wanted;rw[hg]
 rw[if_pos j];intro K hK;have c:=h x W k m (λe a' W'=>(e= .normal /\K a' W')∨(∃ch,e= .panic ch/\R.r w W'/\PΦ ch W')) (λv W' b f=> .inl ⟨rfl,hK v W' b f⟩) (λch a' W' b f=> .inr ⟨ch,rfl,b,f⟩);unfold wpList at c;rw[if_pos j]at c
 rcases c with c| ⟨-,a',W',c⟩
 ·refine qBz (λa' p b=>?_) (λe a' p b g=>?_) _ c
  ·unfold wpList at b
   rcases b with b| ⟨ch,b,-⟩
   ·exact b.2
   ·cases b
  ·rcases b with b|b
   ·exact absurd b.1 g
   ·exact b
 ·rcases c with c| ⟨ch,c,-⟩
  ·cases c.1
  ·cases c
end
theorem qG0 {o:Oper} {a:Act} {W:World} {Q:Exit->Act->World->Prop} (ops:Array Oper) (hg:o.guard=none)
  (h:∀Q':Exit->Act->World->Prop,(∀a W,Q .normal a W->Q' .normal a W)->(∀ch a W,Q (.panic ch) a W->Q' (.panic ch) a W)->wpList P ops Q' [o] a W):o.guard=none/\o.wp P a W (Q .normal) Q:=by
 refine⟨hg,?_⟩;have i:Region.wanted o (yielded ops a.tmps)=true:=by unfold Region.wanted;rw[hg]
 have c:=h (λe d f=>(e= .normal /\Q .normal d f)∨(∃ch,e= .panic ch/\Q (.panic ch) d f)) (λa W h=> .inl ⟨rfl,h⟩) (λch a W h=> .inr ⟨ch,rfl,h⟩);unfold wpList at c;rw[if_pos i]at c
 rcases c with c| ⟨-,d,f,c⟩
 ·refine qBz (λd j b=>?_) (λe d j b g=>?_) _ c
  ·unfold wpList at b
   rcases b with b| ⟨ch,b,-⟩
   ·exact b.2
   ·cases b
  ·rcases b with b| ⟨ch,rfl,b⟩
   ·exact absurd b.1 g
   ·exact b
 ·rcases c with c| ⟨ch,c,-⟩
  ·cases c.1
  ·cases c
end
section
variable {P:Program} {l n:Nat} {R:WRel} {PΦ:List PanicEntry->World->Prop}
theorem qCI {a:Act} {W:World} {Q:Exit->Act->World->Prop} (ops:Array Oper) (os:List Oper) (hg:(os.all λo=>o.guard.isNone)=true)
  (h:∀Q':Exit->Act->World->Prop,(∀a W,Q .normal a W->Q' .normal a W)->(∀ch a W,Q (.panic ch) a W->Q' (.panic ch) a W)->wpList P ops Q' os a W) (h1:os.length<=1):
  qBk P Q a W os:=by
 cases os with
 | nil=>
  have:=h (λe c b=>e= .normal /\Q .normal c b∨∃ch,e= .panic ch/\Q (.panic ch) c b) (λa W h=> .inl ⟨rfl,h⟩) (λch a W h=> .inr ⟨ch,rfl,h⟩)
  rcases this with h2| ⟨ch,h2,-⟩
  ·exact h2.2
  ·cases h2
 | cons o r=>
  obtain rfl:r=[]:=by simpa using h1
  exact qG0 ops (by simpa using hg) h
theorem qBc {ops:List Oper} {m:Nat} (hT:qBO ops.toArray m=true):(ops.drop m).length <=1:=by
 have:=(qCH hT).one;simp at this ⊢;omega
theorem qDc {id:Nat} {a0:Act} {w:World} {Q:Exit->Act->World->Prop} {os:List Oper} (m:Nat) (dsts:List (Option Tmp)) (deps:List (List Nat)) (Φs:List (MPredR R)) (PΦ:List PanicEntry->World->Prop)
  (hm:P.follows .mixedOrders =true) (hB:qAz os.toArray a0.tmps.size dsts deps=true) (hT:qBO os.toArray m=true) (hnd:qDV os=true) (hg:((os.drop m).all λo=>o.guard.isNone)=true)
  (hsteps:qAj P os.toArray a0 w dsts Φs PΦ (os.take m) (deps.take m) 0)
  (hpan:∀(a:Act) ch W,a.defers=a0.defers->R.r w W->PΦ ch W->Q (.panic ch) a W)
  (hend:∀x W,R.r w W->(∀j,j<m->fact Φs x W j)->∀Q':Exit->Act->World->Prop,(∀a W,Q .normal a W->Q' .normal a W)->(∀ch a W,Q (.panic ch) a W->Q' (.panic ch) a W)->wpList P os.toArray Q' (os.drop m) (fA0 dsts x (List.range m) a0) W):
  (Code.region id os.toArray true).wpIn (Fence.wide.inRound l) n P Q a0 w:=
 qDs m dsts deps Φs PΦ hm hB hT hnd hsteps hpan λx W hR hf=>qCI _ _ hg (hend x W hR hf) (qBc hT)
theorem qBd {id:Nat} {a0:Act} {w:World} {Q:Exit->Act->World->Prop} {os:List Oper} (m:Nat) (dsts:List (Option Tmp)) (deps:List (List Nat)) (Φs:List (MPredR R)) (PΦ:List PanicEntry->World->Prop)
  (hm:P.follows .mixedOrders =true) (hB:qAz os.toArray a0.tmps.size dsts deps=true) (hT:qBO os.toArray m=true) (hg:((os.drop m).all λo=>o.guard.isNone)=true)
  (hsteps:qAj P os.toArray a0 w dsts Φs PΦ (os.take m) (deps.take m) 0)
  (hpan:∀(a:Act) ch W,a.defers=a0.defers->R.r w W->PΦ ch W->Q (.panic ch) a W)
  (hend:∀x W,R.r w W->(∀j,j<m->fact Φs x W j)->∀Q':Exit->Act->World->Prop,(∀a W,Q .normal a W->Q' .normal a W)->(∀ch a W,Q (.panic ch) a W->Q' (.panic ch) a W)->wpList P os.toArray Q' (os.drop m) (fA0 dsts x (List.range m) a0) W):
  (Code.region id os.toArray true).wp P Q a0 w:=
 qEY m dsts deps Φs PΦ hm hB hT hsteps hpan λx W hR hf=>qCI _ _ hg (hend x W hR hf) (qBc hT)
end
theorem qBw (w:World) (a:Addr) (v:Value):(w.setCell a v).setCell a v=w.setCell a v:=by
 unfold World.setCell
 congr 1
 apply Array.ext_getElem?;intro i;simp only[Array.getElem?_modify]
 split
 ·cases w.heap[i]? with
  | none=>rfl
  | some o=>
   cases hs:a.spot.isSome<;>cases o<;>simp
 ·rfl
def setRel (p:Addr) (v:Value):WRel where
 r w W:=∃n,W=w.drewN n∨W=(w.drewN n).setCell p v
 refl w:=⟨0,.inl rfl⟩
 drew w:=⟨1,.inl rfl⟩
 trans:=by
  rintro a b c ⟨n,h⟩ ⟨m,k⟩;refine⟨n+m,?_⟩;have e:(a.drewN n).drewN m=a.drewN (n+m):=by unfold World.drewN;simp[Nat.add_assoc]
  have e2:((a.drewN n).setCell p v).drewN m=(a.drewN (n+m)).setCell p v:=by rw[<-e];rfl
  rcases h with rfl|rfl<;>rcases k with rfl|rfl
  ·exact .inl e
  ·exact .inr (by rw[e])
  ·exact .inr e2
  ·exact .inr (by rw[e2,qBw])
theorem setRel.other {p:Addr} {v:Value} {w W:World} (h:(setRel p v).r w W) {B i:Nat} (hB:B≠p.block):W.cell? ⟨B,i,none⟩=w.cell? ⟨B,i,none⟩:=by
 obtain⟨n,rfl|rfl⟩:=h
 ·rfl
 ·exact World.cell?_of_block (Below.heap_setCell _ _ _ _ hB)
def MPredR.stored (p:Addr) (v:Value) (w0:World):MPredR (setRel p v) where
 p _ W:=∃n,W=(w0.drewN n).setCell p v
 mono:=by
  rintro _ w w' h ⟨n,rfl⟩;obtain⟨m,h|h⟩:=(setRel p v).trans ⟨n,.inr rfl⟩ h
  ·obtain⟨k,rfl|rfl⟩:=(show∃k,w'=((w0.drewN n).setCell p v).drewN k∨w'=(((w0.drewN n).setCell p v).drewN k).setCell p v from by assumption)
   ·exact⟨n+k,by unfold World.drewN;simp[World.setCell,Nat.add_assoc]⟩
   ·exact⟨n+k,by rw[show((w0.drewN n).setCell p v).drewN k=(w0.drewN (n+k)).setCell p v from by unfold World.drewN;simp[World.setCell,Nat.add_assoc],qBw]⟩
  ·exact⟨m,h⟩
theorem drewN_drewN (w:World) (n m:Nat):(w.drewN n).drewN m=w.drewN (n+m):=by unfold World.drewN;simp[Nat.add_assoc]
theorem setRel.put (p:Addr) (v:Value) (W:World):(setRel p v).r W (W.setCell p v):=⟨0,.inr rfl⟩
theorem setRel.stored {p:Addr} {v:Value} {w0 W:World} (h:(setRel p v).r w0 W) {x:Value}:(MPredR.stored p v w0).p x (W.setCell p v):=by
 obtain⟨n,rfl|rfl⟩:=h
 ·exact⟨n,rfl⟩
 ·exact⟨n,by rw[qBw]⟩
theorem setRel.self {p:Addr} {v:Value} {w W:World} (h:(setRel p v).r w W) {u:Value} (hu:w.cell? p=some u):∃u',W.cell? p=some u':=by
 obtain⟨n,rfl|rfl⟩:=h
 ·exact⟨u,hu⟩
 ·obtain⟨u',b⟩:=cell?_setCell_some (w:=w.drewN n) (p:=p) (x:=v) (q:=p) (v:=u) hu;exact⟨u',b⟩
theorem setRel.selfFrozen {p:Addr} {v:Value} {w W:World} (h:(setRel p v).r w W) (hu:w.frozen? p=false):W.frozen? p=false:=by
 obtain⟨n,rfl|rfl⟩:=h
 ·exact hu
 ·have:((w.drewN n).setCell p v).frozen? p=(w.drewN n).frozen? p:=by simp[go_sem]
  rw[this];exact hu
end Go.Proofs.YtfmfefibadpobaaGreatDoor
namespace Go.Proofs.YtfmfefibadpobaaGreatDoor
set_option maxRecDepth 100000
open Go.RowKit Go.Shelf
set_option linter.unusedVariables false
section
variable {P:Program} {ops:Array Oper} {dsts:List (Option Tmp)} {PΦ:List PanicEntry->World->Prop}
def updV (x:Nat->Value) (i:Nat) (v:Value):Nat->Value:=λj=>if j=i then v else x j
structure JInv (ops:Array Oper) (a0:Act) (dsts:List (Option Tmp)) (J:Array Bool->(Nat->Value)->World->Prop) (m:Nat) (listed:Array Bool) (x:Nat->Value) (a:Act) (W:World):Prop where
 ls:listed.size=ops.size
 size:a.tmps.size=a0.tmps.size
 defers:a.defers=a0.defers
 done:∀j d,j<m->listed.getD j true=true->dsts.getD j none=some d->a.tmps[d]? =some (x j)
 rest:∀t,(∀j,j<m->listed.getD j true=true->dsts.getD j none≠some t)->a.tmps[t]? =a0.tmps[t]?
 jay:J listed x W
 tail:m<ops.size->listed.getD m true=false
 closed:∀(j:Nat) (o:Oper),ops[j]? =some o->listed.getD j true=true->∀e∈o.after,Region.binds .any e=true->listed.getD e.on true=true
theorem qFE {o:Oper} {a b:Act} {K:Act->World->Prop} {Q:Exit->Act->World->Prop} (hab:a.defers=b.defers) (hsz:a.tmps.size=b.tmps.size) (hin:∀d,o.dst=some d->d<b.tmps.size) {φ :Value->World->Prop} (r:Result Next)
  (hK:∀v W',φ v W'->K (a.put o.dst v) W') (hQ:∀ch W',PΦ ch W'->Q (.panic ch) a W')
  (h:o.upon P b (λa' W'=>a'.defers=b.defers/\∃v,(∀d,o.dst=some d->a'.tmps[d]? =some v)/\ φ v W') (λe _ W'=>∃ch,e= .panic ch/\PΦ ch W') r):o.upon P a K Q r:=by
 have c:∀v W',((b.put o.dst v).defers =b.defers/\∃u,(∀d,o.dst=some d->(b.put o.dst v).tmps[d]? =some u)/\ φ u W')->K (a.put o.dst v) W':=by
  rintro v W' ⟨-,u,s,p⟩
  cases hd:o.dst with
  | none=>
   have:=hK u W' p;rw[hd]at this;exact this
  | some d=>
   rw[<-hd];have q:=s d hd;rw[qAU,if_pos ⟨hd,hin d hd⟩]at q
   cases q
   exact hK _ W' p
 cases r with
 | ok n w'=>
  cases n<;>simp only[Oper.upon]at h ⊢
  case value v=>exact c _ _ h
  case skip=>exact c _ _ h
  case defer d=>
   have:=h.1;rw[qA6]at this;simp at this
  case enter f args=>
   refine Calls.mono h λe m j=>?_
   cases e with
   | returned v=>exact c _ _ j
   | panicked ch=>
    obtain⟨g,i,k⟩:=j
    cases i
    exact hQ _ _ k
   | outgrown=>
    obtain⟨_,_,g,i,_⟩:=j
    cases i
  case row row args=>exact Rows.mono h λv m j=>c _ _ j
 | halt x w'=>
  cases x<;>simp only[Oper.upon]at h ⊢
  case panic v=>
   obtain⟨g,i,k⟩:=h
   cases i
   exact hQ _ _ k
def qGA (P:Program) (ops:Array Oper) (a0:Act) (dsts:List (Option Tmp)) (J:Array Bool->(Nat->Value)->World->Prop) (PΦ:List PanicEntry->World->Prop) (deps:List Nat) (i:Nat) (o:Oper):Prop:=
 ∀(listed:Array Bool) (x:Nat->Value) (W:World),listed.size=ops.size->listed.getD i true=false->(∀j∈deps,listed.getD j true=true)->J listed x W→
  if Region.wanted o (yielded ops (fA0 dsts x deps a0).tmps)then
   ∀K:Act->World->Prop,(∀v W',J (listed.setIfInBounds i true) (updV x i v) W'->K ((fA0 dsts x deps a0).put o.dst v) W')→
    o.wp P (fA0 dsts x deps a0) W K (λe _ W'=>∃ch,e= .panic ch/\PΦ ch W')
  else J (listed.setIfInBounds i true) (updV x i undef) W
theorem qHR {a0:Act} {J:Array Bool->(Nat->Value)->World->Prop} {Q:Exit->Act->World->Prop} {deps:List (List Nat)} {m:Nat} (ok:MonoOk ops a0.tmps.size dsts deps) (tl:TailOk ops m)
  (hsteps:∀(i:Nat) (o:Oper),i<m->ops[i]? =some o->qGA P ops a0 dsts J PΦ (deps.getD i []) i o)
  (hpan:∀(a:Act) ch W,a.defers=a0.defers->PΦ ch W->Q (.panic ch) a W)
  (hend:∀listed x W,(∀j,j<m->listed.getD j true=true)->J listed x W->if m<ops.size then stOp P ops Q m (Q .normal) (fA0 dsts x (List.range m) a0) W else Q .normal (fA0 dsts x (List.range m) a0) W):
  ∀(fuel:Nat) (listed:Array Bool) (x:Nat->Value) (a:Act) (W:World),JInv ops a0 dsts J m listed x a W->(List.range ops.size).countP (λi=> !listed.getD i true)<=fuel->qAg P .any ops Q fuel listed a W:=by
 intro fuel
 have ap:∀(listed:Array Bool) (x:Nat->Value) (a:Act) (W:World),JInv ops a0 dsts J m listed x a W->(∀j,j<m->listed.getD j true=true)->a=fA0 dsts x (List.range m) a0:=by
  intro listed x a W b c;have A:a.defers=(fA0 dsts x (List.range m) a0).defers :=by rw[qAc,b.defers]
  have I:a.tmps=(fA0 dsts x (List.range m) a0).tmps :=by
   refine Array.ext_getElem? λt=>?_
   by_cases Y:∃j,j<m/\dsts.getD j none=some t
   ·obtain⟨j,p,r⟩:=Y;have Z:j<ops.size:=Nat.lt_of_lt_of_le p tl.le;rw[b.done j t p (c j p) r,qBF x t j r]
    ·obtain⟨o,B⟩:∃o,ops[j]? =some o:=⟨ops[j],Array.getElem?_eq_getElem Z⟩;exact ok.inn j o t B ((ok.dst j o B).trans r)
    ·exact λk hk af=>ok.one k j t (Nat.lt_of_lt_of_le (List.mem_range.1 hk) tl.le) Z af r
    ·exact .inr (List.mem_range.2 p)
   ·rw[b.rest t λj p _ r=>Y ⟨j,p,r⟩,qAi x t _ _ λj p r=>Y ⟨j,List.mem_range.1 p,r⟩]
  obtain⟨aB,aA⟩:=a;simp only at A I;generalize fA0 dsts x (List.range m) a0=f at A I;obtain⟨ft,fd⟩:=f;simp only at A I;rw[A,I]
 have D:∀(listed:Array Bool) j,listed.size=ops.size->j<ops.size->listed.getD j false=listed.getD j true:=by
  intro listed j aw p;have hs:j<listed.size:=by omega
  simp only[Array.getD_eq_getD_getElem?,Array.getElem?_eq_getElem hs,Option.getD_some]
 have ac:∀(listed:Array Bool),listed.size=ops.size->Region.ready .any ops listed=[]->∀j,j<ops.size->listed.getD j true=true:=by
  intro listed aw hr j
  induction j using Nat.strongRecOn with
  | ind j ih=>
   intro p
   cases hlj:listed.getD j true with
   | true=>rfl
   | false=>
    have:j∈Region.ready .any ops listed:=by
     rw[mem_ready];refine⟨hlj,ops[j],Array.getElem?_eq_getElem p,λe N M=>?_⟩;have a1:=ok.back j ops[j] (Array.getElem?_eq_getElem p) e N M;rw[D _ _ aw (by omega)];exact ih e.on a1 (by omega)
    rw[hr]at this;simp at this
 have U:∀(listed:Array Bool),(∀j,j<ops.size->listed.getD j true=true)->Region.ready .any ops listed=[]:=by
  intro listed c;refine List.eq_nil_iff_forall_not_mem.2 λj p=>?_;obtain⟨A,o,B,_⟩:=mem_ready.1 p;rw[c j (gsl B)]at A
  cases A
 have V:∀(fuel:Nat) (listed:Array Bool) (a:Act) (W:World),(∀j,j<ops.size->listed.getD j true=true)->Q .normal a W->qAg P .any ops Q fuel listed a W:=by
  intro fuel listed a W c hq
  cases fuel with
  | zero=>exact⟨U _ c,hq⟩
  | succ fuel=>exact⟨λ_=>hq,λi hi=>by rw[U _ c]at hi;simp at hi⟩
 have y:∀(listed:Array Bool) i j,i<listed.size->(listed.setIfInBounds i true).getD j true=if i=j then true else listed.getD j true:=by
  intro listed i j hi;simp only[Array.getD_eq_getD_getElem?,Array.getElem?_setIfInBounds]
  by_cases h:i=j
  ·subst h;simp[hi]
  ·simp[h]
 -- all of the head is there
 have F:∀(listed:Array Bool) (x:Nat->Value) (a:Act) (W:World),JInv ops a0 dsts J m listed x a W->(∀j,j<m->listed.getD j true=true)->if m<ops.size then stOp P ops Q m (Q .normal) a W else Q .normal a W:=by
  intro listed x a W b c;rw[ap _ _ _ _ b c];exact hend listed x W c b.jay
 induction fuel with
 | zero=>
  intro listed x a W b hc
  have c:∀j,j<ops.size->listed.getD j true=true:=λj p=>by
   have h0:(List.range ops.size).countP (λi=> !listed.getD i true)=0:=by omega
   rw[List.countP_eq_zero]at h0;simpa using h0 j (List.mem_range.2 p)
  have h:=F _ _ _ _ b λj p=>c j (Nat.lt_of_lt_of_le p tl.le)
  by_cases hm:m<ops.size
  ·have:=c m hm;rw[b.tail hm]at this
   cases this
  ·rw[if_neg hm]at h;exact V 0 _ _ _ c h
 | succ fuel ih=>
  intro listed x a W b hc;refine⟨λhr=>?_,λi hi=>?_⟩
  ·have c:=ac listed b.ls hr;have h:=F _ _ _ _ b λj p=>c j (Nat.lt_of_lt_of_le p tl.le)
   by_cases hm:m<ops.size
   ·have:=c m hm;rw[b.tail hm]at this
    cases this
   ·rw[if_neg hm]at h;exact h
  ·obtain⟨ax,o,B,C⟩:=mem_ready.1 hi;have O:i<ops.size:=(gsl B);have s:i<listed.size:=by rw[b.ls];exact O
   have ah:=ok.dst i o B
   by_cases ar:i<m
   ·-- the results that o looks at are there
    have an:∀j∈deps.getD i [],j<m/\listed.getD j true=true/\∃d,dsts.getD j none=some d:=λj p=>by
     obtain⟨Z,r,e,N,M,ab⟩:=ok.dep i o B j p;have A:=C e N M;have I:=ok.back i o B e N M;rw[ab]at A I;rw[D _ _ b.ls Z]at A;exact⟨by omega,A,r⟩
    have E:=hsteps i o ar B listed x W b.ls ax (λj p=>(an j p).2.1) b.jay
    -- a and the act that is filled agree where o looks
    have X:∀t∈o.looksAt ops,(fA0 dsts x (deps.getD i []) a0).tmps[t]? =a.tmps[t]? :=by
     intro t Y
     by_cases aj:∃j,j<ops.size/\dsts.getD j none=some t
     ·obtain⟨j,p,r⟩:=aj;have av:=ok.looks i o B j t p r Y;obtain⟨A,I,_⟩:=an j av;rw[b.done j t A I r,qBF x t j r]
      ·obtain⟨oj,H⟩:∃oj,ops[j]? =some oj:=⟨ops[j],Array.getElem?_eq_getElem p⟩;exact ok.inn j oj t H ((ok.dst j oj H).trans r)
      ·exact λk hk af=>ok.one k j t (ok.dep i o B k hk).1 p af r
      ·exact .inr av
     ·rw[qAi x t _ _ λj p r=>aj ⟨j,(ok.dep i o B j p).1,r⟩,b.rest t λj p _ r=>aj ⟨j,Nat.lt_of_lt_of_le p tl.le,r⟩]
    have ae:execOp a.eval o=execOp (fA0 dsts x (deps.getD i []) a0).eval o:=execOp_congr o (ok.sel i o B) λz hz=>by
     cases z with
     | tmp t=>
      have:=X t (List.mem_append_left _ (List.mem_filterMap.2 ⟨.tmp t,by simpa using hz,rfl⟩));simp only[Act.eval,Array.getD_eq_getD_getElem?,this]
     | const v=>rfl
     | global g=>rfl
     | func f=>rfl
    have ak:Region.wanted o (yielded ops a.tmps)=Region.wanted o (yielded ops (fA0 dsts x (deps.getD i []) a0).tmps):=by
     unfold Region.wanted
     cases hg:o.guard with
     | none=>rfl
     | some gw=>
      obtain⟨g,a9⟩:=gw
      have hy:yielded ops a.tmps g=yielded ops (fA0 dsts x (deps.getD i []) a0).tmps g:=by
       unfold yielded
       cases Y:(ops[g]?).bind (·.dst)with
       | none=>rfl
       | some t=>
        have:=X t (by simp[Oper.looksAt,hg,Y]);simp only[Option.bind_some,this]
      simp only[hy]
    -- what comes next
    have S:∀v W',J (listed.setIfInBounds i true) (updV x i v) W'->qAg P .any ops Q fuel (listed.setIfInBounds i true) (a.put o.dst v) W':=by
     intro v W' hv;refine ih (listed.setIfInBounds i true) (updV x i v) _ _ ?_ ?_
     ·refine⟨by simp[b.ls],by rw[qBl,b.size],by rw[qA6,b.defers],?_,?_,hv,?_,?_⟩
      ·intro j d p hl r
       by_cases G:j=i
       ·subst G;have ao:o.dst=some d:=ah.trans r;rw[qAU,if_pos ⟨ao,by rw[b.size];exact ok.inn j o d B ao⟩];simp[updV]
       ·rw[y _ _ _ s,if_neg (Ne.symm G)]at hl;rw[qAU,if_neg]
        ·have:=b.done j d p hl r;simp only[updV,if_neg G];exact this
        ·rintro⟨A,_⟩;exact G (ok.one j i d (Nat.lt_of_lt_of_le p tl.le) O r (ah.symm.trans A))
      ·intro t Y
       have a2:o.dst≠some t:=by
        intro A;refine Y i ar ?_ (ah.symm.trans A);rw[y _ _ _ s,if_pos rfl]
       rw[qAU,if_neg λA=>a2 A.1];refine b.rest t λj p hl=>Y j p ?_;rw[y _ _ _ s]
       split
       ·rfl
       ·exact hl
      ·intro hm;rw[y _ _ _ s,if_neg (by omega)];exact b.tail hm
      ·intro j oj H hl e N M;rw[y _ _ _ s]
       by_cases G:j=i
       ·subst G;rw[B]at H
        cases H
        split
        ·rfl
        ·rw[<-D _ _ b.ls]
         ·exact C e N M
         ·have:=ok.back j o B e N M;omega
       ·rw[y _ _ _ s,if_neg (Ne.symm G)]at hl
        split
        ·rfl
        ·exact b.closed j oj H hl e N M
     ·refine Nat.le_of_lt_succ (Nat.lt_of_lt_of_le (qAx (λj p hq=>?_) i (List.mem_range.2 O) ?_ ?_) hc)
      ·rw[y _ _ _ s]at hq
       by_cases aq:i=j
       ·simp[aq]at hq
       ·simpa[aq]using hq
      ·rw[ax];rfl
      ·rw[y _ _ _ s,if_pos rfl];rfl
    unfold stOp;simp only[B];rw[ak]
    by_cases hw:Region.wanted o (yielded ops (fA0 dsts x (deps.getD i []) a0).tmps)=true
    ·rw[if_pos hw]at E ⊢
     have hK:=E (λa' W'=>a'.defers=(fA0 dsts x (deps.getD i []) a0).defers /\∃v,(∀d,o.dst=some d->a'.tmps[d]? =some v)/\J (listed.setIfInBounds i true) (updV x i v) W') λv W' hv=>
      ⟨qA6 _ _ _,v,λd r=>by rw[qAU,if_pos ⟨r,by rw[qA4];exact ok.inn i o d B r⟩],hv⟩
     unfold Oper.wp at hK ⊢;rw[ae];refine qFE (PΦ:=PΦ) (by rw[qAc,b.defers]) (by rw[qA4,b.size]) (λd r=>by rw[qA4];exact ok.inn i o d B r) _ S ?_ hK;intro ch W' A;exact hpan _ _ _ b.defers A
    ·rw[if_neg hw]at E ⊢;exact S undef W E
   ·-- the tail
    have au:i=m:=by have:=tl.one;omega
    subst au
    have c:∀k j,j<i->i - j<=k->listed.getD j true=true:=by
     intro k
     induction k with
     | zero=>intro j A I;omega
     | succ k ihk=>
      intro j p _;obtain⟨q,oq,aC,aD,ai,e,N,M,ab⟩:=tl.sink O j p
      by_cases a3:q=i
      ·subst a3;rw[B]at ai
       cases ai
       have A:=C e N M;rw[ab,D _ _ b.ls (by omega)]at A;exact A
      ·have A:=ihk q (by omega) (by omega);have I:=b.closed q oq ai A e N M;rw[ab]at I;exact I
    have L:∀j,j<i->listed.getD j true=true:=λj p=>c (i - j) j p (Nat.le_refl _);have h:=F _ _ _ _ b L;rw[if_pos O]at h;refine qBD (λa' W' hq=>V fuel _ _ _ (λj p=>?_) hq) h;rw[y _ _ _ s]
    split
    ·rfl
    ·exact L j (by have:=tl.one;omega)
theorem qDt {a0:Act} {J:Array Bool->(Nat->Value)->World->Prop} {m:Nat} (x:Nat->Value) {W:World} (hJ:J (Array.replicate ops.size false) x W) (tl:TailOk ops m):JInv ops a0 dsts J m (Array.replicate ops.size false) x a0 W:=by
 have h:∀j,j<ops.size->(Array.replicate ops.size false).getD j true=false:=λj c=>by
  simp[Array.getD_eq_getD_getElem?,c]
 refine⟨by simp,rfl,rfl,λj d c b=>?_,λt _=>rfl,hJ,λg=>h m g,λj o f b=>?_⟩
 ·rw[h j (Nat.lt_of_lt_of_le c tl.le)]at b;cases b
 ·rw[h j (gsl f)]at b;cases b
end
end Go.Proofs.YtfmfefibadpobaaGreatDoor
namespace Go.Proofs.YtfmfefibadpobaaGreatDoor
set_option maxRecDepth 100000
open Go.RowKit Go.Shelf
set_option linter.unusedVariables false
section
variable {P:Program} {ops:Array Oper} {dsts:List (Option Tmp)} {PΦ:List PanicEntry->World->Prop} {R T:WRel} {Φs:List (MPredR T)} {Ψs:List (MPredR R)} {Ω:MPredR R}
def qGB (P:Program) (ops:Array Oper) (a0:Act) (w:World) (dsts:List (Option Tmp)) (R T:WRel) (Φs:List (MPredR T)) (Ψs:List (MPredR R)) (PΦ:List PanicEntry->World->Prop) (deps:List Nat) (i:Nat) (o:Oper):Prop:=
 o.guard=none/\∀(x:Nat->Value) (W:World),T.r w W->qAo Φs x W deps→
  ∀Q:Exit->Act->World->Prop,(∀v W',R.r W W'->(Φs.getD i MPredR.any).p v W'->(Ψs.getD i MPredR.any).p v W'->Q .normal ((fA0 dsts x deps a0).put o.dst v) W')->(∀ch a' W',PΦ ch W'->Q (.panic ch) a' W')->wpList P ops Q [o] (fA0 dsts x deps a0) W
def qGC (P:Program) (ops:Array Oper) (a0:Act) (w:World) (dsts:List (Option Tmp)) (R T:WRel) (Φs:List (MPredR T)) (Ψs:List (MPredR R)) (Ω:MPredR R) (PΦ:List PanicEntry->World->Prop) (deps:List Nat) (i:Nat) (o:Oper):Prop:=
 o.guard=none/\∀(x:Nat->Value) (W:World),R.r w W->qAo Φs x W deps->qAo Ψs x W deps→
  ∀Q:Exit->Act->World->Prop,(∀v W',T.r W W'->(Φs.getD i MPredR.any).p v W'->Ω.p v W'->Q .normal ((fA0 dsts x deps a0).put o.dst v) W')->(∀ch a' W',PΦ ch W'->Q (.panic ch) a' W')->wpList P ops Q [o] (fA0 dsts x deps a0) W
def qAy (P:Program) (ops:Array Oper) (a0:Act) (w:World) (dsts:List (Option Tmp)) (R T:WRel) (Φs:List (MPredR T)) (Ψs:List (MPredR R)) (Ω:MPredR R) (PΦ:List PanicEntry->World->Prop) (s:Nat):List Oper->List (List Nat)->Nat->Prop
 | [],_,_=>True
 | o::os,[],i=>False
 | o::os,d::ds,i=>(if i=s then qGC P ops a0 w dsts R T Φs Ψs Ω PΦ d i o else qGB P ops a0 w dsts R T Φs Ψs PΦ d i o)/\qAy P ops a0 w dsts R T Φs Ψs Ω PΦ s os ds (i+1)
theorem qDI {a0:Act} {w:World} {s:Nat}:∀{os:List Oper} {deps:List (List Nat)} {k:Nat},qAy P ops a0 w dsts R T Φs Ψs Ω PΦ s os deps k->∀i o,os[i]? =some o->(if k+i=s then qGC P ops a0 w dsts R T Φs Ψs Ω PΦ (deps.getD i []) (k+i) o else qGB P ops a0 w dsts R T Φs Ψs PΦ (deps.getD i []) (k+i) o)
 | [],_,_,_,i,o,ho=>by simp at ho
 | o'::os,[],k,h,i,o,ho=>h.elim
 | o'::os,d::ds,k,h,0,o,ho=>by
  simp only[List.getElem?_cons_zero,Option.some.injEq]at ho;subst ho;exact h.1
 | o'::os,d::ds,k,h,i+1,o,ho=>by
  have:=qDI h.2 i o (by simpa using ho);rw[show k+1+i=k+(i+1)by omega]at this;simpa using this
theorem qDJ {a0:Act} {w:World} {ds:List (List Nat)} {i s:Nat}:qAy P ops a0 w dsts R T Φs Ψs Ω PΦ s [] ds i:=trivial
theorem qAL {a0:Act} {w:World} {o:Oper} {os:List Oper} {d:List Nat} {ds:List (List Nat)} {i s:Nat} (hne:i≠s) (h:qGB P ops a0 w dsts R T Φs Ψs PΦ d i o) (h2:qAy P ops a0 w dsts R T Φs Ψs Ω PΦ s os ds (i+1)):qAy P ops a0 w dsts R T Φs Ψs Ω PΦ s (o::os) (d::ds) i:=⟨by rw[if_neg hne];exact h,h2⟩
theorem qDu {a0:Act} {w:World} {o:Oper} {os:List Oper} {d:List Nat} {ds:List (List Nat)} {i s:Nat} (he:i=s) (h:qGC P ops a0 w dsts R T Φs Ψs Ω PΦ d i o) (h2:qAy P ops a0 w dsts R T Φs Ψs Ω PΦ s os ds (i+1)):qAy P ops a0 w dsts R T Φs Ψs Ω PΦ s (o::os) (d::ds) i:=⟨by rw[if_pos he];exact h,h2⟩
theorem qDK {o:Oper} {a:Act} {W:World} {K:Act->World->Prop} {φ :Value->World->Prop} (hg:o.guard=none)
  (h:∀Q:Exit->Act->World->Prop,(∀v W',φ v W'->Q .normal (a.put o.dst v) W')->(∀ch a' W',PΦ ch W'->Q (.panic ch) a' W')->wpList P ops Q [o] a W)
  (hK:∀v W',φ v W'->K (a.put o.dst v) W'):o.wp P a W K (λe _ W'=>∃ch,e= .panic ch/\PΦ ch W'):=by
 have f:Region.wanted o (yielded ops a.tmps)=true:=by unfold Region.wanted;rw[hg]
 have c:=h (λe a' W'=>(e= .normal /\K a' W')∨(∃ch,e= .panic ch/\PΦ ch W')) (λv W' b=> .inl ⟨rfl,hK v W' b⟩) (λch a' W' b=> .inr ⟨ch,rfl,b⟩);unfold wpList at c;rw[if_pos f]at c
 rcases c with c| ⟨-,a',W',c⟩
 ·refine qBz (λa' g b=>?_) (λe a' g b d=>?_) _ c
  ·unfold wpList at b
   rcases b with b| ⟨ch,b,-⟩
   ·exact b.2
   ·cases b
  ·rcases b with b|b
   ·exact absurd b.1 d
   ·exact b
 ·rcases c with c| ⟨ch,c,-⟩
  ·cases c.1
  ·cases c
def oneJ (w:World) (R T:WRel) (Φs:List (MPredR T)) (Ψs:List (MPredR R)) (Ω:MPredR R) (m s:Nat) (listed:Array Bool) (x:Nat->Value) (W:World):Prop:=
 T.r w W/\(∀j,j<m->listed.getD j true=true->fact Φs x W j)/\(listed.getD s true=false->R.r w W/\∀j,j<m->listed.getD j true=true->fact Ψs x W j)/\(listed.getD s true=true->Ω.p (x s) W)
theorem qCq {R:WRel} {Φs:List (MPredR R)} {x:Nat->Value} {W:World} {i j:Nat} (v:Value) (h:j≠i):fact Φs (updV x i v) W j=fact Φs x W j:=by
 unfold fact updV;rw[if_neg h]
theorem qCr {R:WRel} {Φs:List (MPredR R)} {x:Nat->Value} {W:World} {i:Nat} {v:Value}:fact Φs (updV x i v) W i=(Φs.getD i MPredR.any).p v W:=by
 unfold fact updV;rw[if_pos rfl]
theorem qCz {a0:Act} {w:World} {Q:Exit->Act->World->Prop} {os:List Oper} (hRT:∀a b,R.r a b->T.r a b) (m s:Nat) (hs:s<m) (dsts:List (Option Tmp)) (deps:List (List Nat)) (Φs:List (MPredR T)) (Ψs:List (MPredR R)) (Ω:MPredR R) (PΦ:List PanicEntry->World->Prop)
  (hB:qAz os.toArray a0.tmps.size dsts deps=true) (hT:qBO os.toArray m=true)
  (hsteps:qAy P os.toArray a0 w dsts R T Φs Ψs Ω PΦ s (os.take m) (deps.take m) 0)
  (hpan:∀(a:Act) ch W,a.defers=a0.defers->PΦ ch W->Q (.panic ch) a W)
  (hend:∀x W,T.r w W->(∀j,j<m->fact Φs x W j)->Ω.p (x s) W->qBk P Q (fA0 dsts x (List.range m) a0) W (os.drop m)):
  qAg P .any os.toArray Q os.toArray.size (Array.replicate os.toArray.size false) a0 {w with drawn:=w.drawn+1}:=by
 have ok:=qCp hB;have S:=qCH hT;have ae:s<os.toArray.size:=Nat.lt_of_lt_of_le hs S.le
 have q:∀(d:Array Bool) i j,i<d.size->(d.setIfInBounds i true).getD j true=if i=j then true else d.getD j true:=by
  intro d i j U;simp only[Array.getD_eq_getD_getElem?,Array.getElem?_setIfInBounds]
  by_cases h:i=j
  ·subst h;simp[U]
  ·simp[h]
 refine qHR (J:=oneJ w R T Φs Ψs Ω m s) (PΦ:=PΦ) ok S (λi o U V=>?_) hpan (λd x W E Z=>?_) _ _ (λ_=>undef) _ _ (qDt _ ?_ S) ?_
 ·intro d x W ad ag z Z;obtain⟨N,O,j3,j4⟩:=Z;have y:i<d.size:=by rw[ad];exact(gsl V)
  have af:(os.take m)[i]? =some o:=by rw[List.getElem?_take,if_pos U];simpa using V
  have B:=qDI hsteps i o af;rw[Nat.zero_add,show(deps.take m).getD i []=deps.getD i []by simp[List.getD_eq_getElem?_getD,U]]at B
  have F:∀j∈deps.getD i [],j<m:=λj k=>by
   obtain⟨an,hd,e,he,hb,ao⟩:=ok.dep i o V j k;have:=ok.back i o V e he hb;omega
  have G:qAo Φs x W (deps.getD i []):=qBb λj k=>O j (F j k) (z j k)
  by_cases A:i=s
  ·subst A;rw[if_pos rfl]at B;obtain⟨H,B⟩:=B;have M:Region.wanted o (yielded os.toArray (fA0 dsts x (deps.getD i []) a0).tmps)=true:=by unfold Region.wanted;rw[H]
   rw[if_pos M];intro K hK;obtain⟨k1,k2⟩:=j3 ag;refine qDK (ops:=os.toArray) (φ :=λv t=>T.r W t/\(Φs.getD i MPredR.any).p v t/\Ω.p v t) H (λQ hQ hP=>B x W k1 G (qBb λj k=>k2 j (F j k) (z j k)) Q (λv t a b c=>hQ v t ⟨a,b,c⟩) hP) λv t ⟨D,X,Y⟩=>hK v t ?_;refine⟨T.trans N D,λj k g=>?_,λg=>?_,λ_=>?_⟩
   ·by_cases f:j=i
    ·subst f;rw[qCr];exact X
    ·rw[qCq v f];rw[q _ _ _ y,if_neg (Ne.symm f)]at g;exact(O j k g).le D
   ·rw[q _ _ _ y,if_pos rfl]at g
    cases g
   ·unfold updV;rw[if_pos rfl];exact Y
  ·rw[if_neg A]at B;obtain⟨H,B⟩:=B;have M:Region.wanted o (yielded os.toArray (fA0 dsts x (deps.getD i []) a0).tmps)=true:=by unfold Region.wanted;rw[H]
   rw[if_pos M];intro K hK;refine qDK (ops:=os.toArray) (φ :=λv t=>R.r W t/\(Φs.getD i MPredR.any).p v t/\(Ψs.getD i MPredR.any).p v t) H (λQ hQ hP=>B x W N G Q (λv t a b c=>hQ v t ⟨a,b,c⟩) hP) λv t ⟨D,X,Y⟩=>hK v t ?_;refine⟨T.trans N (hRT _ _ D),λj k g=>?_,λg=>?_,λg=>?_⟩
   ·by_cases f:j=i
    ·subst f;rw[qCr];exact X
    ·rw[qCq v f];rw[q _ _ _ y,if_neg (Ne.symm f)]at g;exact(O j k g).le (hRT _ _ D)
   ·rw[q _ _ _ y,if_neg A]at g;obtain⟨k1,k2⟩:=j3 g;refine⟨R.trans k1 D,λj k I=>?_⟩
    by_cases f:j=i
    ·subst f;rw[qCr];exact Y
    ·rw[qCq v f];rw[q _ _ _ y,if_neg (Ne.symm f)]at I;exact(k2 j k I).le D
   ·rw[q _ _ _ y,if_neg A]at g;unfold updV;rw[if_neg (λe=>A e.symm)];exact Ω.mono _ _ _ D (j4 g)
 ·obtain⟨N,O,j3,j4⟩:=Z;have h:=hend x W N (λj k=>O j k (E j k)) (j4 (E s hs))
  by_cases C:m<os.toArray.size
  ·rw[if_pos C];have L:m<os.length:=by simpa using C
   rw[List.drop_eq_getElem_cons L]at h;unfold stOp;simp only[List.getElem?_toArray,List.getElem?_eq_getElem L];have M:Region.wanted os[m] (yielded os.toArray (fA0 dsts x (List.range m) a0).tmps)=true:=by unfold Region.wanted;rw[h.1]
   rw[if_pos M];exact h.2
  ·rw[if_neg C];rw[List.drop_eq_nil_of_le (by simpa using C)]at h;exact h
 ·have hf:∀j,j<os.toArray.size->(Array.replicate os.toArray.size false).getD j true=false:=λj k=>by
   simp only[Array.getD_eq_getD_getElem?,Array.getElem?_replicate,if_pos k,Option.getD_some]
  refine⟨T.drew w,λj k g=>?_,λ_=>⟨R.drew w,λj k g=>?_⟩,λg=>?_⟩
  ·rw[hf j (Nat.lt_of_lt_of_le k S.le)]at g;cases g
  ·rw[hf j (Nat.lt_of_lt_of_le k S.le)]at g;cases g
  ·rw[hf s ae]at g;cases g
 ·exact Nat.le_trans List.countP_le_length (by simp)
theorem qEs {id:Nat} {a0:Act} {w:World} {Q:Exit->Act->World->Prop} {os:List Oper} (hRT:∀a b,R.r a b->T.r a b) (m s:Nat) (hs:s<m) (dsts:List (Option Tmp)) (deps:List (List Nat)) (Φs:List (MPredR T)) (Ψs:List (MPredR R)) (Ω:MPredR R) (PΦ:List PanicEntry->World->Prop)
  (hm:P.follows .mixedOrders =true) (hB:qAz os.toArray a0.tmps.size dsts deps=true) (hT:qBO os.toArray m=true) (hg:((os.drop m).all λo=>o.guard.isNone)=true)
  (hsteps:qAy P os.toArray a0 w dsts R T Φs Ψs Ω PΦ s (os.take m) (deps.take m) 0)
  (hpan:∀(a:Act) ch W,a.defers=a0.defers->PΦ ch W->Q (.panic ch) a W)
  (hend:∀x W,T.r w W->(∀j,j<m->fact Φs x W j)->Ω.p (x s) W->∀Q':Exit->Act->World->Prop,(∀a W,Q .normal a W->Q' .normal a W)->(∀ch a W,Q (.panic ch) a W->Q' (.panic ch) a W)->wpList P os.toArray Q' (os.drop m) (fA0 dsts x (List.range m) a0) W):
  (Code.region id os.toArray true).wp P Q a0 w:=
 wp_region_any hm (qBJ _ _ _ _ (qCz hRT m s hs dsts deps Φs Ψs Ω PΦ hB hT hsteps hpan λx W hR hf hO=>qCI _ _ hg (hend x W hR hf hO) (qBc hT)))
theorem qEZ {l n:Nat} {id:Nat} {a0:Act} {w:World} {Q:Exit->Act->World->Prop} {os:List Oper} (hRT:∀a b,R.r a b->T.r a b) (m s:Nat) (hs:s<m) (dsts:List (Option Tmp)) (deps:List (List Nat)) (Φs:List (MPredR T)) (Ψs:List (MPredR R)) (Ω:MPredR R) (PΦ:List PanicEntry->World->Prop)
  (hm:P.follows .mixedOrders =true) (hB:qAz os.toArray a0.tmps.size dsts deps=true) (hT:qBO os.toArray m=true) (hnd:qDV os=true) (hg:((os.drop m).all λo=>o.guard.isNone)=true)
  (hsteps:qAy P os.toArray a0 w dsts R T Φs Ψs Ω PΦ s (os.take m) (deps.take m) 0)
  (hpan:∀(a:Act) ch W,a.defers=a0.defers->PΦ ch W->Q (.panic ch) a W)
  (hend:∀x W,T.r w W->(∀j,j<m->fact Φs x W j)->Ω.p (x s) W->∀Q':Exit->Act->World->Prop,(∀a W,Q .normal a W->Q' .normal a W)->(∀ch a W,Q (.panic ch) a W->Q' (.panic ch) a W)->wpList P os.toArray Q' (os.drop m) (fA0 dsts x (List.range m) a0) W):
  (Code.region id os.toArray true).wpIn (Fence.wide.inRound l) n P Q a0 w:=
 wpIn_region_any hm (qBm (qDH hnd) _ _ _ _ (qCz hRT m s hs dsts deps Φs Ψs Ω PΦ hB hT hsteps hpan λx W hR hf hO=>qCI _ _ hg (hend x W hR hf hO) (qBc hT)))
end
end Go.Proofs.YtfmfefibadpobaaGreatDoor
namespace Go.Proofs.YtfmfefibadpobaaGreatDoor
set_option maxRecDepth 100000
open Go.RowKit Go.Shelf
set_option linter.unusedVariables false
section
variable {P:Program} {ops:Array Oper} {dsts:List (Option Tmp)} {PΦ:List PanicEntry->World->Prop}
def updB (D:Nat->Bool) (i:Nat):Nat->Bool:=λj=>if j=i then true else D j
abbrev JRel:=(Nat->Bool)->(Nat->Value)->World->Prop
def qHS (P:Program) (ops:Array Oper) (a0:Act) (dsts:List (Option Tmp)) (J:JRel) (PΦ:List PanicEntry->World->Prop) (deps:List Nat) (i:Nat) (o:Oper):Prop:=
 o.guard=none/\∀(D:Nat->Bool) (x:Nat->Value) (W:World),D i=false->(∀j∈deps,D j=true)->J D x W→
  ∀Q:Exit->Act->World->Prop,(∀v W',J (updB D i) (updV x i v) W'->Q .normal ((fA0 dsts x deps a0).put o.dst v) W')->(∀ch a' W',PΦ ch W'->Q (.panic ch) a' W')->wpList P ops Q [o] (fA0 dsts x deps a0) W
def qCJ (P:Program) (ops:Array Oper) (a0:Act) (dsts:List (Option Tmp)) (J:JRel) (PΦ:List PanicEntry->World->Prop):List Oper->List (List Nat)->Nat->Prop
 | [],_,_=>True
 | o::os,[],i=>False
 | o::os,d::ds,i=>qHS P ops a0 dsts J PΦ d i o/\qCJ P ops a0 dsts J PΦ os ds (i+1)
theorem qCA {a0:Act} {J:JRel}:∀{os:List Oper} {deps:List (List Nat)} {k:Nat},qCJ P ops a0 dsts J PΦ os deps k->∀i o,os[i]? =some o->qHS P ops a0 dsts J PΦ (deps.getD i []) (k+i) o
 | [],_,_,_,i,o,ho=>by simp at ho
 | o'::os,[],k,h,i,o,ho=>h.elim
 | o'::os,d::ds,k,h,0,o,ho=>by
  simp only[List.getElem?_cons_zero,Option.some.injEq]at ho;subst ho;exact h.1
 | o'::os,d::ds,k,h,i+1,o,ho=>by
  have:=qCA h.2 i o (by simpa using ho);rw[show k+1+i=k+(i+1)by omega]at this;simpa using this
theorem qF4 {a0:Act} {w:World} {Q:Exit->Act->World->Prop} {os:List Oper} (m:Nat) (dsts:List (Option Tmp)) (deps:List (List Nat)) (J:JRel) (PΦ:List PanicEntry->World->Prop)
  (hB:qAz os.toArray a0.tmps.size dsts deps=true) (hT:qBO os.toArray m=true)
  (h0:∀D x,(∀j,j<os.length->D j=false)->J D x {w with drawn:=w.drawn+1})
  (hsteps:qCJ P os.toArray a0 dsts J PΦ (os.take m) (deps.take m) 0)
  (hpan:∀(a:Act) ch W,a.defers=a0.defers->PΦ ch W->Q (.panic ch) a W)
  (hend:∀D x W,(∀j,j<m->D j=true)->J D x W->qBk P Q (fA0 dsts x (List.range m) a0) W (os.drop m)):
  qAg P .any os.toArray Q os.toArray.size (Array.replicate os.toArray.size false) a0 {w with drawn:=w.drawn+1}:=by
 have ok:=qCp hB;have F:=qCH hT
 have k:∀(b:Array Bool) i,i<b.size->(λj=>(b.setIfInBounds i true).getD j true)=updB (λj=>b.getD j true) i:=by
  intro b i p
  funext j
  simp only[updB,Array.getD_eq_getD_getElem?,Array.getElem?_setIfInBounds]
  by_cases h:j=i
  ·subst h;simp[p]
  ·simp[h,Ne.symm h]
 refine qHR (J:=λb x W=>J (λj=>b.getD j true) x W) (PΦ:=PΦ) ok F (λi o p E=>?_) hpan (λb x W f r=>?_) _ _ (λ_=>undef) _ _ (qDt _ ?_ F) ?_
 ·intro b x W y A d r;have s:i<b.size:=by rw[y];exact(gsl E)
  have z:(os.take m)[i]? =some o:=by rw[List.getElem?_take,if_pos p];simpa using E
  have h0:=qCA hsteps i o z;rw[Nat.zero_add,show(deps.take m).getD i []=deps.getD i []by simp[List.getD_eq_getElem?_getD,p]]at h0;obtain⟨C,h0⟩:=h0;have B:Region.wanted o (yielded os.toArray (fA0 dsts x (deps.getD i []) a0).tmps)=true:=by unfold Region.wanted;rw[C]
  rw[if_pos B];intro K hK;refine qDK (ops:=os.toArray) (φ :=λv q=>J (updB (λj=>b.getD j true) i) (updV x i v) q) C (λQ I H=>h0 _ x W A d r Q I H) λv q G=>hK v q ?_;show J (λj=>(b.setIfInBounds i true).getD j true) _ _;rw[k _ _ s];exact G
 ·have h:=hend _ x W f r
  by_cases c:m<os.toArray.size
  ·rw[if_pos c];have g:m<os.length:=by simpa using c
   rw[List.drop_eq_getElem_cons g]at h;unfold stOp;simp only[List.getElem?_toArray,List.getElem?_eq_getElem g];have B:Region.wanted os[m] (yielded os.toArray (fA0 dsts x (List.range m) a0).tmps)=true:=by unfold Region.wanted;rw[h.1]
   rw[if_pos B];exact h.2
  ·rw[if_neg c];rw[List.drop_eq_nil_of_le (by simpa using c)]at h;exact h
 ·refine h0 _ _ λj L=>?_;have t:j<os.toArray.size:=by simpa using L
  simp only[Array.getD_eq_getD_getElem?,Array.getElem?_replicate,if_pos t,Option.getD_some]
 ·exact Nat.le_trans List.countP_le_length (by simp)
theorem qF5 {id:Nat} {a0:Act} {w:World} {Q:Exit->Act->World->Prop} {os:List Oper} (m:Nat) (dsts:List (Option Tmp)) (deps:List (List Nat)) (J:JRel) (PΦ:List PanicEntry->World->Prop)
  (hm:P.follows .mixedOrders =true) (hB:qAz os.toArray a0.tmps.size dsts deps=true) (hT:qBO os.toArray m=true) (hg:((os.drop m).all λo=>o.guard.isNone)=true)
  (h0:∀D x,(∀j,j<os.length->D j=false)->J D x {w with drawn:=w.drawn+1})
  (hsteps:qCJ P os.toArray a0 dsts J PΦ (os.take m) (deps.take m) 0)
  (hpan:∀(a:Act) ch W,a.defers=a0.defers->PΦ ch W->Q (.panic ch) a W)
  (hend:∀D x W,(∀j,j<m->D j=true)->J D x W->∀Q':Exit->Act->World->Prop,(∀a W,Q .normal a W->Q' .normal a W)->(∀ch a W,Q (.panic ch) a W->Q' (.panic ch) a W)->wpList P os.toArray Q' (os.drop m) (fA0 dsts x (List.range m) a0) W):
  (Code.region id os.toArray true).wp P Q a0 w:=
 wp_region_any hm (qBJ _ _ _ _ (qF4 m dsts deps J PΦ hB hT h0 hsteps hpan λD x W hD hJ=>qCI _ _ hg (hend D x W hD hJ) (qBc hT)))
end
section
variable {R:WRel} {P:Program} {ops:Array Oper} {dsts:List (Option Tmp)} {Φs:List (MPredR R)} {PΦ:List PanicEntry->World->Prop}
def qHq (P:Program) (ops:Array Oper) (a0:Act) (w:World) (dsts:List (Option Tmp)) (Φs:List (MPredR R)) (G:JRel) (PΦ:List PanicEntry->World->Prop) (deps:List Nat) (i:Nat) (o:Oper):Prop:=
 o.guard=none/\∀(D:Nat->Bool) (x:Nat->Value) (W:World),D i=false->(∀j∈deps,D j=true)->R.r w W->qAo Φs x W deps->G D x W→
  ∀Q:Exit->Act->World->Prop,(∀v W',R.r W W'->(Φs.getD i MPredR.any).p v W'->G (updB D i) (updV x i v) W'->Q .normal ((fA0 dsts x deps a0).put o.dst v) W')->(∀ch a' W',PΦ ch W'->Q (.panic ch) a' W')->wpList P ops Q [o] (fA0 dsts x deps a0) W
def qBH (P:Program) (ops:Array Oper) (a0:Act) (w:World) (dsts:List (Option Tmp)) (Φs:List (MPredR R)) (G:JRel) (PΦ:List PanicEntry->World->Prop):List Oper->List (List Nat)->Nat->Prop
 | [],_,_=>True
 | o::os,[],i=>False
 | o::os,d::ds,i=>qHq P ops a0 w dsts Φs G PΦ d i o/\qBH P ops a0 w dsts Φs G PΦ os ds (i+1)
theorem qBG {a0:Act} {w:World} {G:JRel} {ds:List (List Nat)} {i:Nat}:qBH P ops a0 w dsts Φs G PΦ [] ds i:=trivial
theorem sGc {a0:Act} {w:World} {G:JRel} {o:Oper} {os:List Oper} {d:List Nat} {ds:List (List Nat)} {i:Nat} (hg:o.guard=none)
  (h:∀(D:Nat->Bool) (x:Nat->Value) (W:World),D i=false->(∀j∈d,D j=true)->R.r w W->qAo Φs x W d->G D x W→
   ∀Q:Exit->Act->World->Prop,(∀v W',R.r W W'->(Φs.getD i MPredR.any).p v W'->G (updB D i) (updV x i v) W'->Q .normal ((fA0 dsts x d a0).put o.dst v) W')->(∀ch a' W',PΦ ch W'->Q (.panic ch) a' W')->wpList P ops Q [o] (fA0 dsts x d a0) W)
  (h2:qBH P ops a0 w dsts Φs G PΦ os ds (i+1)):qBH P ops a0 w dsts Φs G PΦ (o::os) (d::ds) i:=⟨⟨hg,h⟩,h2⟩
def gRel (w:World) (Φs:List (MPredR R)) (m:Nat) (G:JRel):JRel:=λD x W=>R.r w W/\(∀j,j<m->D j=true->fact Φs x W j)/\G D x W
theorem qCs {a0:Act} {w:World} {G:JRel} {m:Nat}:∀{os:List Oper} {deps:List (List Nat)} {k:Nat},(∀d∈deps,∀j∈d,j<m)->k+os.length<=m->qBH P ops a0 w dsts Φs G PΦ os deps k->qCJ P ops a0 dsts (gRel w Φs m G) PΦ os deps k
 | [],_,_,_,_,_=>trivial
 | o::os,[],k,_,_,h=>h.elim
 | o::os,d::ds,k,hd,hk,h=>by
  refine⟨⟨h.1.1,λD x W hi hdeps hJ Q hQ hP=>?_⟩,qCs (λd' hd'=>hd d' (by simp[hd'])) (by simp at hk;omega) h.2⟩;obtain⟨j1,j2,j3⟩:=hJ;refine h.1.2 D x W hi hdeps j1 (qBb λj hj=>j2 j (hd d (by simp) j hj) (hdeps j hj)) j3 Q (λv W' a b c=>hQ v W' ⟨R.trans j1 a,λj hj hl=>?_,c⟩) hP
  by_cases hji:j=k
  ·subst hji;rw[qCr];exact b
  ·rw[qCq v hji];have hl2:D j=true:=by simpa[updB,hji]using hl
   exact(j2 j hj hl2).le a
theorem qD1 {id:Nat} {a0:Act} {w:World} {Q:Exit->Act->World->Prop} {os:List Oper} (m:Nat) (dsts:List (Option Tmp)) (deps:List (List Nat)) (Φs:List (MPredR R)) (G:JRel) (PΦ:List PanicEntry->World->Prop)
  (hm:P.follows .mixedOrders =true) (hB:qAz os.toArray a0.tmps.size dsts deps=true) (hT:qBO os.toArray m=true) (hg:((os.drop m).all λo=>o.guard.isNone)=true)
  (hdm:((deps.take m).all λd=>d.all λj=>decide (j<m))=true)
  (h0:∀D x,(∀j,j<os.length->D j=false)->G D x {w with drawn:=w.drawn+1})
  (hsteps:qBH P os.toArray a0 w dsts Φs G PΦ (os.take m) (deps.take m) 0)
  (hpan:∀(a:Act) ch W,a.defers=a0.defers->PΦ ch W->Q (.panic ch) a W)
  (hend:∀D x W,(∀j,j<m->D j=true)->R.r w W->(∀j,j<m->fact Φs x W j)->G D x W->∀Q':Exit->Act->World->Prop,(∀a W,Q .normal a W->Q' .normal a W)->(∀ch a W,Q (.panic ch) a W->Q' (.panic ch) a W)->wpList P os.toArray Q' (os.drop m) (fA0 dsts x (List.range m) a0) W):
  (Code.region id os.toArray true).wp P Q a0 w:=by
 have i:m<=os.length:=by have:=(qCH hT).le;simpa using this
 refine qF5 m dsts deps (gRel w Φs m G) PΦ hm hB hT hg (λD x b=>⟨R.drew w,λj c g=>?_,h0 D x b⟩) (qCs ?_ (by rw[List.length_take];omega) hsteps) hpan λD x W b f=>hend D x W b f.1 (λj c=>f.2.1 j c (b j c)) f.2.2
 ·rw[b j (by omega)]at g;cases g
 ·intro d h j c;rw[List.all_eq_true]at hdm;have:=hdm d h;rw[List.all_eq_true]at this;simpa using this j c
def qAW (B:Nat):WRel:=⟨λa b=>B<=a.heap.size->Below B a b,λw _=>Below.refl _ _,λh k ha=>(h ha).trans (k (Nat.le_trans ha (h ha).size)),λw _=>Below.drew (Below.refl _ _)⟩
end
section
variable {R:WRel} {P:Program} {ops:Array Oper} {dsts:List (Option Tmp)} {Φs:List (MPredR R)} {PΦ:List PanicEntry->World->Prop}
end
end Go.Proofs.YtfmfefibadpobaaGreatDoor
namespace Go.Proofs.YtfmfefibadpobaaGreatDoor
set_option maxRecDepth 100000
open Go.RowKit Go.Shelf
set_option linter.unusedVariables false
structure TailsOk (ops:Array Oper) (m:Nat):Prop where
 le:m<=ops.size
 sink:∀i,m<=i->i<ops.size->∀j,j<i->∃q o,q<=i/\j<q/\ops[q]? =some o/\∃e∈o.after,Region.binds .any e=true/\e.on=j
def qBs (ops:Array Oper) (m:Nat):Bool:=
 decide (m<=ops.size)&&(List.range ops.size).all λi=>decide (i<m)||(List.range i).all λj=>(List.range (i+1)).any λq=>decide (j<q)&&match ops[q]? with |some o=>o.after.any λe=>Region.binds .any e&&e.on==j|none=>false
theorem qCV {ops:Array Oper} {m:Nat} (h:qBs ops m=true):TailsOk ops m:=by
 unfold qBs at h;simp only[Bool.and_eq_true,decide_eq_true_eq,List.all_eq_true,List.mem_range,Bool.or_eq_true,List.any_eq_true]at h;obtain⟨f,g⟩:=h;refine⟨f,λi s r j t=>?_⟩
 rcases g i r with h3|h3
 ·omega
 ·obtain⟨q,hq,c,b⟩:=h3 j t
  cases ho:ops[q]? with
  | none=>rw[ho]at b;cases b
  | some o=>
   rw[ho]at b;simp only[Array.any_eq_true',Bool.and_eq_true,beq_iff_eq]at b;obtain⟨e,p,k,d⟩:=b;exact⟨q,o,by omega,c,ho,e,p,k,d⟩
def qCB (P:Program) (ops:Array Oper) (Q:Exit->Act->World->Prop):Nat->Nat->Act->World->Prop
 | 0,_=>Q .normal
 | k+1,i=>stOp P ops Q i (qCB P ops Q k (i+1))
theorem qDv {ops:Array Oper} {f:Nat->Bool} {k:Nat} (h:∀q,k<=q->q<ops.size->f q=false):ops.size - k<=(List.range ops.size).countP (λj=> !f j):=by
 by_cases g:k<=ops.size
 ·obtain⟨d,b⟩:∃d,ops.size=k+d:=⟨ops.size - k,by omega⟩;rw[b,List.range_add,List.countP_append]
  have:(List.map (λx=>k+x) (List.range d)).countP (λj=> !f j)=d:=by
   rw[List.countP_eq_length.2,List.length_map,List.length_range];intro q hq;obtain⟨x,c,rfl⟩:=List.mem_map.1 hq;rw[h (k+x) (by omega) (by have:=List.mem_range.1 c;omega)]
   rfl
  omega
 ·omega
section
variable {P:Program} {ops:Array Oper} {dsts:List (Option Tmp)} {PΦ:List PanicEntry->World->Prop}
structure JInvT (ops:Array Oper) (a0:Act) (dsts:List (Option Tmp)) (J:Array Bool->(Nat->Value)->World->Prop) (m:Nat) (listed:Array Bool) (x:Nat->Value) (a:Act) (W:World):Prop where
 ls:listed.size=ops.size
 size:a.tmps.size=a0.tmps.size
 defers:a.defers=a0.defers
 done:∀j d,j<m->listed.getD j true=true->dsts.getD j none=some d->a.tmps[d]? =some (x j)
 rest:∀t,(∀j,j<m->listed.getD j true=true->dsts.getD j none≠some t)->a.tmps[t]? =a0.tmps[t]?
 jay:J listed x W
 tail:∀i,m<=i->i<ops.size->listed.getD i true=false
 closed:∀(j:Nat) (o:Oper),ops[j]? =some o->listed.getD j true=true->∀e∈o.after,Region.binds .any e=true->listed.getD e.on true=true
theorem qHj {a0:Act} {J:Array Bool->(Nat->Value)->World->Prop} {Q:Exit->Act->World->Prop} {deps:List (List Nat)} {m:Nat} (ok:MonoOk ops a0.tmps.size dsts deps) (tl:TailsOk ops m)
  (hsteps:∀(i:Nat) (o:Oper),i<m->ops[i]? =some o->qGA P ops a0 dsts J PΦ (deps.getD i []) i o)
  (hpan:∀(a:Act) ch W,a.defers=a0.defers->PΦ ch W->Q (.panic ch) a W)
  (hend:∀listed x W,(∀j,j<m->listed.getD j true=true)->J listed x W->qCB P ops Q (ops.size - m) m (fA0 dsts x (List.range m) a0) W):
  ∀(fuel:Nat) (listed:Array Bool) (x:Nat->Value) (a:Act) (W:World),JInvT ops a0 dsts J m listed x a W->(List.range ops.size).countP (λi=> !listed.getD i true)<=fuel->qAg P .any ops Q fuel listed a W:=by
 intro fuel
 have a5:∀(listed:Array Bool) (x:Nat->Value) (a:Act) (W:World),JInvT ops a0 dsts J m listed x a W->(∀j,j<m->listed.getD j true=true)->a=fA0 dsts x (List.range m) a0:=by
  intro listed x a W b p;have y:a.defers=(fA0 dsts x (List.range m) a0).defers :=by rw[qAc,b.defers]
  have Z:a.tmps=(fA0 dsts x (List.range m) a0).tmps :=by
   refine Array.ext_getElem? λt=>?_
   by_cases ht:∃j,j<m/\dsts.getD j none=some t
   ·obtain⟨j,s,C⟩:=ht;have am:j<ops.size:=Nat.lt_of_lt_of_le s tl.le;rw[b.done j t s (p j s) C,qBF x t j C]
    ·obtain⟨o,D⟩:∃o,ops[j]? =some o:=⟨ops[j],Array.getElem?_eq_getElem am⟩;exact ok.inn j o t D ((ok.dst j o D).trans C)
    ·exact λk hk au=>ok.one k j t (Nat.lt_of_lt_of_le (List.mem_range.1 hk) tl.le) am au C
    ·exact .inr (List.mem_range.2 s)
   ·rw[b.rest t λj s _ C=>ht ⟨j,s,C⟩,qAi x t _ _ λj s C=>ht ⟨j,List.mem_range.1 s,C⟩]
  obtain⟨aO,aN⟩:=a;simp only at y Z;generalize fA0 dsts x (List.range m) a0=f at y Z;obtain⟨ft,fd⟩:=f;simp only at y Z;rw[y,Z]
 have I:∀(listed:Array Bool) j,listed.size=ops.size->j<ops.size->listed.getD j false=listed.getD j true:=by
  intro listed j L s;have hs:j<listed.size:=by omega
  simp only[Array.getD_eq_getD_getElem?,Array.getElem?_eq_getElem hs,Option.getD_some]
 have Y:∀(listed:Array Bool),listed.size=ops.size->Region.ready .any ops listed=[]->∀j,j<ops.size->listed.getD j true=true:=by
  intro listed L hr j
  induction j using Nat.strongRecOn with
  | ind j ih=>
   intro s
   cases an:listed.getD j true with
   | true=>rfl
   | false=>
    have:j∈Region.ready .any ops listed:=by
     rw[mem_ready];refine⟨an,ops[j],Array.getElem?_eq_getElem s,λe H O=>?_⟩;have ae:=ok.back j ops[j] (Array.getElem?_eq_getElem s) e H O;rw[I _ _ L (by omega)];exact ih e.on ae (by omega)
    rw[hr]at this;simp at this
 have ag:∀(listed:Array Bool),(∀j,j<ops.size->listed.getD j true=true)->Region.ready .any ops listed=[]:=by
  intro listed p;refine List.eq_nil_iff_forall_not_mem.2 λj s=>?_;obtain⟨y,o,D,_⟩:=mem_ready.1 s;rw[p j (gsl D)]at y
  cases y
 have ah:∀(fuel:Nat) (listed:Array Bool) (a:Act) (W:World),(∀j,j<ops.size->listed.getD j true=true)->Q .normal a W->qAg P .any ops Q fuel listed a W:=by
  intro fuel listed a W p hq
  cases fuel with
  | zero=>exact⟨ag _ p,hq⟩
  | succ fuel=>exact⟨λ_=>hq,λi hi=>by rw[ag _ p]at hi;simp at hi⟩
 have c:∀(listed:Array Bool) i j,i<listed.size->(listed.setIfInBounds i true).getD j true=if i=j then true else listed.getD j true:=by
  intro listed i j hi;simp only[Array.getD_eq_getD_getElem?,Array.getElem?_setIfInBounds]
  by_cases h:i=j
  ·subst h;simp[hi]
  ·simp[h]
 have U:∀(listed:Array Bool),(∀(j:Nat) (o:Oper),ops[j]? =some o->listed.getD j true=true->∀e∈o.after,Region.binds .any e=true->listed.getD e.on true=true)->listed.size=ops.size->∀i,m<=i->i∈Region.ready .any ops listed->∀j,j<i->listed.getD j true=true:=by
  intro listed ac L i al hi;obtain⟨X,o,D,B⟩:=mem_ready.1 hi;have E:i<ops.size:=(gsl D)
  have p:∀k j,j<i->i - j<=k->listed.getD j true=true:=by
   intro k
   induction k with
   | zero=>intro j y Z;omega
   | succ k ihk=>
    intro j s _;obtain⟨q,oq,ap,M,aw,e,H,O,ao⟩:=tl.sink i al E j s
    by_cases ax:q=i
    ·subst ax;rw[D]at aw
     cases aw
     have y:=B e H O;rw[ao,I _ _ L (by omega)]at y;exact y
    ·have y:=ihk q (by omega) (by omega);have Z:=ac q oq aw y e H O;rw[ao]at Z;exact Z
  exact λj s=>p (i - j) j s (Nat.le_refl _)
 have aC:∀(k i fuel:Nat) (listed:Array Bool) (a:Act) (W:World),i+k=ops.size->listed.size=ops.size->m<=i->(∀j,j<i->listed.getD j true=true)->(∀j,i<=j->j<ops.size->listed.getD j true=false)→
   (∀(j:Nat) (o:Oper),ops[j]? =some o->listed.getD j true=true->∀e∈o.after,Region.binds .any e=true->listed.getD e.on true=true)->k<=fuel->qCB P ops Q k i a W->qAg P .any ops Q fuel listed a W:=by
  intro k
  induction k with
  | zero=>
   intro i fuel listed a W aF L aH S hu ac hf h;exact ah _ _ _ _ (λj s=>S j (by omega)) h
  | succ k ihk=>
   intro i fuel listed a W aF L aH S hu ac hf h;obtain⟨f,rfl⟩:∃f,fuel=f+1:=⟨fuel - 1,by omega⟩;have E:i<ops.size:=by omega
   refine⟨λhr=>?_,λq hq=>?_⟩
   ·have:=Y listed L hr i E;rw[hu i (Nat.le_refl _) E]at this
    cases this
   ·obtain⟨X,o,D,B⟩:=mem_ready.1 hq;have aR:q<ops.size:=(gsl D);have ax:i<=q:=Nat.le_of_not_lt λae=>by rw[S q ae]at X;cases X
    have O:=U listed ac L q (by omega) hq
    have:q=i:=by
     refine Nat.le_antisymm (Nat.le_of_not_lt λae=>?_) ax;have y:=O i ae;rw[hu i (Nat.le_refl _) E]at y
     cases y
    subst this;have aq:q<listed.size:=by omega
    refine qBD (λa' W' M=>ihk (q+1) f (listed.setIfInBounds q true) a' W' (by omega) (by simp[L]) (by omega) (λj s=>?_) (λj aQ aG=>?_) ?_ (by omega) M) h
    ·rw[c _ _ _ aq]
     split
     ·rfl
     ·exact S j (by omega)
    ·rw[c _ _ _ aq,if_neg (by omega)];exact hu j (by omega) aG
    ·intro j oj A an e H a2;rw[c _ _ _ aq]
     by_cases a8:j=q
     ·subst a8;rw[D]at A
      cases A
      split
      ·rfl
      ·exact S _ (ok.back j o D e H a2)
     ·rw[c _ _ _ aq,if_neg (Ne.symm a8)]at an
      split
      ·rfl
      ·exact ac j oj A an e H a2
 -- all of the head is there
 have V:∀(listed:Array Bool) (x:Nat->Value) (a:Act) (W:World),JInvT ops a0 dsts J m listed x a W->(∀j,j<m->listed.getD j true=true)->qCB P ops Q (ops.size - m) m a W:=by
  intro listed x a W b p;rw[a5 _ _ _ _ b p];exact hend listed x W p b.jay
 induction fuel with
 | zero=>
  intro listed x a W b hc
  have p:∀j,j<ops.size->listed.getD j true=true:=λj s=>by
   have h0:(List.range ops.size).countP (λi=> !listed.getD i true)=0:=by omega
   rw[List.countP_eq_zero]at h0;simpa using h0 j (List.mem_range.2 s)
  have h:=V _ _ _ _ b λj s=>p j (Nat.lt_of_lt_of_le s tl.le)
  by_cases hm:m<ops.size
  ·have:=p m hm;rw[b.tail m (Nat.le_refl _) hm]at this
   cases this
  ·rw[show ops.size - m=0 by omega]at h;exact ah 0 _ _ _ p h
 | succ fuel ih=>
  intro listed x a W b hc;refine⟨λhr=>?_,λi hi=>?_⟩
  ·have p:=Y listed b.ls hr;have h:=V _ _ _ _ b λj s=>p j (Nat.lt_of_lt_of_le s tl.le)
   by_cases hm:m<ops.size
   ·have:=p m hm;rw[b.tail m (Nat.le_refl _) hm]at this
    cases this
   ·rw[show ops.size - m=0 by omega]at h;exact h
  ·obtain⟨X,o,D,B⟩:=mem_ready.1 hi;have E:i<ops.size:=(gsl D);have r:i<listed.size:=by rw[b.ls];exact E
   have av:=ok.dst i o D
   by_cases al:i<m
   ·-- the results that o looks at are there
    have a3:∀j∈deps.getD i [],j<m/\listed.getD j true=true/\∃d,dsts.getD j none=some d:=λj s=>by
     obtain⟨am,C,e,H,O,ao⟩:=ok.dep i o D j s;have y:=B e H O;have Z:=ok.back i o D e H O;rw[ao]at y Z;rw[I _ _ b.ls am]at y;exact⟨by omega,y,C⟩
    have N:=hsteps i o al D listed x W b.ls X (λj s=>(a3 j s).2.1) b.jay
    -- a and the act that is filled agree where o looks
    have ai:∀t∈o.looksAt ops,(fA0 dsts x (deps.getD i []) a0).tmps[t]? =a.tmps[t]? :=by
     intro t ht
     by_cases ay:∃j,j<ops.size/\dsts.getD j none=some t
     ·obtain⟨j,s,C⟩:=ay;have a7:=ok.looks i o D j t s C ht;obtain⟨y,Z,_⟩:=a3 j a7;rw[b.done j t y Z C,qBF x t j C]
      ·obtain⟨oj,A⟩:∃oj,ops[j]? =some oj:=⟨ops[j],Array.getElem?_eq_getElem s⟩;exact ok.inn j oj t A ((ok.dst j oj A).trans C)
      ·exact λk hk au=>ok.one k j t (ok.dep i o D k hk).1 s au C
      ·exact .inr a7
     ·rw[qAi x t _ _ λj s C=>ay ⟨j,(ok.dep i o D j s).1,C⟩,b.rest t λj s _ C=>ay ⟨j,Nat.lt_of_lt_of_le s tl.le,C⟩]
    have ar:execOp a.eval o=execOp (fA0 dsts x (deps.getD i []) a0).eval o:=execOp_congr o (ok.sel i o D) λz hz=>by
     cases z with
     | tmp t=>
      have:=ai t (List.mem_append_left _ (List.mem_filterMap.2 ⟨.tmp t,by simpa using hz,rfl⟩));simp only[Act.eval,Array.getD_eq_getD_getElem?,this]
     | const v=>rfl
     | global g=>rfl
     | func f=>rfl
    have az:Region.wanted o (yielded ops a.tmps)=Region.wanted o (yielded ops (fA0 dsts x (deps.getD i []) a0).tmps):=by
     unfold Region.wanted
     cases hg:o.guard with
     | none=>rfl
     | some gw=>
      obtain⟨g,aM⟩:=gw
      have hy:yielded ops a.tmps g=yielded ops (fA0 dsts x (deps.getD i []) a0).tmps g:=by
       unfold yielded
       cases ht:(ops[g]?).bind (·.dst)with
       | none=>rfl
       | some t=>
        have:=ai t (by simp[Oper.looksAt,hg,ht]);simp only[Option.bind_some,this]
      simp only[hy]
    -- what comes next
    have af:∀v W',J (listed.setIfInBounds i true) (updV x i v) W'->qAg P .any ops Q fuel (listed.setIfInBounds i true) (a.put o.dst v) W':=by
     intro v W' hv;refine ih (listed.setIfInBounds i true) (updV x i v) _ _ ?_ ?_
     ·refine⟨by simp[b.ls],by rw[qBl,b.size],by rw[qA6,b.defers],?_,?_,hv,?_,?_⟩
      ·intro j d s S C
       by_cases F:j=i
       ·subst F;have a4:o.dst=some d:=av.trans C;rw[qAU,if_pos ⟨a4,by rw[b.size];exact ok.inn j o d D a4⟩];simp[updV]
       ·rw[c _ _ _ r,if_neg (Ne.symm F)]at S;rw[qAU,if_neg]
        ·have:=b.done j d s S C;simp only[updV,if_neg F];exact this
        ·rintro⟨y,_⟩;exact F (ok.one j i d (Nat.lt_of_lt_of_le s tl.le) E C (av.symm.trans y))
      ·intro t ht
       have aI:o.dst≠some t:=by
        intro y;refine ht i al ?_ (av.symm.trans y);rw[c _ _ _ r,if_pos rfl]
       rw[qAU,if_neg λy=>aI y.1];refine b.rest t λj s S=>ht j s ?_;rw[c _ _ _ r]
       split
       ·rfl
       ·exact S
      ·intro q ap M;rw[c _ _ _ r,if_neg (by omega)];exact b.tail q ap M
      ·intro j oj A S e H O;rw[c _ _ _ r]
       by_cases F:j=i
       ·subst F;rw[D]at A
        cases A
        split
        ·rfl
        ·rw[<-I _ _ b.ls]
         ·exact B e H O
         ·have:=ok.back j o D e H O;omega
       ·rw[c _ _ _ r,if_neg (Ne.symm F)]at S
        split
        ·rfl
        ·exact b.closed j oj A S e H O
     ·refine Nat.le_of_lt_succ (Nat.lt_of_lt_of_le (qAx (λj s hq=>?_) i (List.mem_range.2 E) ?_ ?_) hc)
      ·rw[c _ _ _ r]at hq
       by_cases ad:i=j
       ·simp[ad]at hq
       ·simpa[ad]using hq
      ·rw[X];rfl
      ·rw[c _ _ _ r,if_pos rfl];rfl
    unfold stOp;simp only[D];rw[az]
    by_cases hw:Region.wanted o (yielded ops (fA0 dsts x (deps.getD i []) a0).tmps)=true
    ·rw[if_pos hw]at N ⊢
     have hK:=N (λa' W'=>a'.defers=(fA0 dsts x (deps.getD i []) a0).defers /\∃v,(∀d,o.dst=some d->a'.tmps[d]? =some v)/\J (listed.setIfInBounds i true) (updV x i v) W') λv W' hv=>
      ⟨qA6 _ _ _,v,λd C=>by rw[qAU,if_pos ⟨C,by rw[qA4];exact ok.inn i o d D C⟩],hv⟩
     unfold Oper.wp at hK ⊢;rw[ar];refine qFE (PΦ:=PΦ) (by rw[qAc,b.defers]) (by rw[qA4,b.size]) (λd C=>by rw[qA4];exact ok.inn i o d D C) _ af ?_ hK;intro ch W' y;exact hpan _ _ _ b.defers y
    ·rw[if_neg hw]at N ⊢;exact af undef W N
   ·-- the tail
    have G:=U listed (λj oj A S e H O=>b.closed j oj A S e H O) b.ls i (by omega) hi
    have a6:i=m:=by
     refine Nat.le_antisymm (Nat.le_of_not_lt λh=>?_) (by omega);have y:=G m h;rw[b.tail m (Nat.le_refl _) (by omega)]at y
     cases y
    subst a6;have h:=V _ _ _ _ b G;have hk:ops.size - i=(ops.size - (i+1))+1:=by omega
    rw[hk]at h;refine qBD (λa' W' hq=>aC (ops.size - (i+1)) (i+1) fuel (listed.setIfInBounds i true) a' W' (by omega) (by simp[b.ls]) (by omega) (λq M=>?_) (λq ap M=>?_) ?_ ?_ hq) h
    ·rw[c _ _ _ r]
     split
     ·rfl
     ·exact G q (by omega)
    ·rw[c _ _ _ r,if_neg (by omega)];exact b.tail q (by omega) M
    ·intro j oj A S e H O;rw[c _ _ _ r]
     by_cases F:j=i
     ·subst F;rw[D]at A
      cases A
      split
      ·rfl
      ·exact G _ (ok.back j o D e H O)
     ·rw[c _ _ _ r,if_neg (Ne.symm F)]at S
      split
      ·rfl
      ·exact b.closed j oj A S e H O
    ·refine Nat.le_trans ?_ (Nat.le_of_lt_succ (Nat.lt_of_lt_of_le (qAx (q:=λj=> !(listed.setIfInBounds i true).getD j true) (λj s hq=>?_) i (List.mem_range.2 E) ?_ ?_) hc))
     ·refine Nat.le_trans ?_ (qDv (ops:=ops) (k:=i+1) (λq ap M=>?_))
      ·exact Nat.le_refl _
      ·rw[c _ _ _ r,if_neg (by omega)];exact b.tail q (by omega) M
     ·rw[c _ _ _ r]at hq
      by_cases ad:i=j
      ·simp[ad]at hq
      ·simpa[ad]using hq
     ·rw[X];rfl
     ·rw[c _ _ _ r,if_pos rfl];rfl
theorem qD2 {a0:Act} {J:Array Bool->(Nat->Value)->World->Prop} {m:Nat} (x:Nat->Value) {W:World} (hJ:J (Array.replicate ops.size false) x W) (hm:m<=ops.size):JInvT ops a0 dsts J m (Array.replicate ops.size false) x a0 W:=by
 have h:∀j,j<ops.size->(Array.replicate ops.size false).getD j true=false:=λj c=>by
  simp[Array.getD_eq_getD_getElem?,c]
 refine⟨by simp,rfl,rfl,λj d c b=>?_,λt _=>rfl,hJ,λi _ g=>h i g,λj o f b=>?_⟩
 ·rw[h j (Nat.lt_of_lt_of_le c hm)]at b;cases b
 ·rw[h j (gsl f)]at b;cases b

theorem qDd {Q:Exit->Act->World->Prop} (ops:Array Oper):∀(os:List Oper) (i:Nat) (a:Act) (W:World),(os.all λo=>o.guard.isNone)=true->(∀j,os[j]? =ops[i+j]?)-> 
  wpList P ops (λe a' W'=>e= .normal /\Q .normal a' W'∨∃ch,e= .panic ch/\Q (.panic ch) a' W') os a W->qCB P ops Q os.length i a W
 | [],i,a,W,_,_,h=>by
  rcases h with h2| ⟨ch,h2,-⟩
  ·exact h2.2
  ·cases h2
 | o::os,i,a,W,hg,ho,h=>by
  simp only[List.all_cons,Bool.and_eq_true,Option.isNone_iff_eq_none]at hg;have hi:ops[i]? =some o:=by have:=ho 0;simpa using this.symm
  have c:Region.wanted o (yielded ops a.tmps)=true:=by unfold Region.wanted;rw[hg.1]
  unfold wpList at h;rw[if_pos c]at h;rw[List.length_cons];unfold qCB stOp;simp only[hi];rw[if_pos c]
  rcases h with h| ⟨-,a',W',h⟩
  ·refine qBz (λa' d h2=>?_) (λe a' d h2 b=>?_) _ h
   ·exact qDd ops os (i+1) a' d hg.2 (λj=>by have:=ho (j+1);simpa[Nat.add_assoc,Nat.add_comm 1 j]using this) h2
   ·rcases h2 with h2| ⟨ch,h2,h3⟩
    ·exact absurd h2.1 b
    ·subst h2;exact h3
  ·rcases h with h| ⟨ch,h,-⟩
   ·cases h.1
   ·cases h
theorem qFF {id:Nat} {a0:Act} {w:World} {Q:Exit->Act->World->Prop} {os:List Oper} (m:Nat) (dsts:List (Option Tmp)) (deps:List (List Nat)) (J:JRel) (PΦ:List PanicEntry->World->Prop)
  (hm:P.follows .mixedOrders =true) (hB:qAz os.toArray a0.tmps.size dsts deps=true) (hT:qBs os.toArray m=true) (hg:((os.drop m).all λo=>o.guard.isNone)=true)
  (h0:∀D x,(∀j,j<os.length->D j=false)->J D x {w with drawn:=w.drawn+1})
  (hsteps:qCJ P os.toArray a0 dsts J PΦ (os.take m) (deps.take m) 0)
  (hpan:∀(a:Act) ch W,a.defers=a0.defers->PΦ ch W->Q (.panic ch) a W)
  (hend:∀D x W,(∀j,j<m->D j=true)->J D x W->∀Q':Exit->Act->World->Prop,(∀a W,Q .normal a W->Q' .normal a W)->(∀ch a W,Q (.panic ch) a W->Q' (.panic ch) a W)->wpList P os.toArray Q' (os.drop m) (fA0 dsts x (List.range m) a0) W):
  (Code.region id os.toArray true).wp P Q a0 w:=by
 have ok:=qCp hB;have z:=qCV hT;have I:m<=os.length:=by have:=z.le;simpa using this
 have g:∀(b:Array Bool) i,i<b.size->(λj=>(b.setIfInBounds i true).getD j true)=updB (λj=>b.getD j true) i:=by
  intro b i k
  funext j
  simp only[updB,Array.getD_eq_getD_getElem?,Array.getElem?_setIfInBounds]
  by_cases h:j=i
  ·subst h;simp[k]
  ·simp[h,Ne.symm h]
 refine wp_region_any hm (qBJ _ _ _ _ ?_);refine qHj (J:=λb x W=>J (λj=>b.getD j true) x W) (PΦ:=PΦ) ok z (λi o k C=>?_) hpan (λb x W f p=>?_) _ _ (λ_=>undef) _ _ (qD2 _ ?_ z.le) ?_
 ·intro b x W s y c p;have q:i<b.size:=by rw[s];exact(gsl C)
  have t:(os.take m)[i]? =some o:=by rw[List.getElem?_take,if_pos k];simpa using C
  have h0:=qCA hsteps i o t;rw[Nat.zero_add,show(deps.take m).getD i []=deps.getD i []by simp[List.getD_eq_getElem?_getD,k]]at h0;obtain⟨hg,h0⟩:=h0;have L:Region.wanted o (yielded os.toArray (fA0 dsts x (deps.getD i []) a0).tmps)=true:=by unfold Region.wanted;rw[hg]
  rw[if_pos L];intro K hK;refine qDK (ops:=os.toArray) (φ :=λv d=>J (updB (λj=>b.getD j true) i) (updV x i v) d) hg (λQ G F=>h0 _ x W y c p Q G F) λv d E=>hK v d ?_;show J (λj=>(b.setIfInBounds i true).getD j true) _ _;rw[g _ _ q];exact E
 ·have h:=hend _ x W f p (λe A d=>e= .normal /\Q .normal A d∨∃ch,e= .panic ch/\Q (.panic ch) A d) (λa W h=> .inl ⟨rfl,h⟩) (λch a W h=> .inr ⟨ch,rfl,h⟩);have B:=qDd os.toArray (os.drop m) m _ W hg (λj=>by simp) h;rw[List.length_drop]at B;simpa using B
 ·refine h0 _ _ λj H=>?_;have r:j<os.toArray.size:=by simpa using H
  simp only[Array.getD_eq_getD_getElem?,Array.getElem?_replicate,if_pos r,Option.getD_some]
 ·exact Nat.le_trans List.countP_le_length (by simp)
end
section
variable {R:WRel} {P:Program} {Φs:List (MPredR R)} {PΦ:List PanicEntry->World->Prop}
theorem qFG {id:Nat} {a0:Act} {w:World} {Q:Exit->Act->World->Prop} {os:List Oper} (m:Nat) (dsts:List (Option Tmp)) (deps:List (List Nat)) (Φs:List (MPredR R)) (G:JRel) (PΦ:List PanicEntry->World->Prop)
  (hm:P.follows .mixedOrders =true) (hB:qAz os.toArray a0.tmps.size dsts deps=true) (hT:qBs os.toArray m=true) (hg:((os.drop m).all λo=>o.guard.isNone)=true)
  (hdm:((deps.take m).all λd=>d.all λj=>decide (j<m))=true)
  (h0:∀D x,(∀j,j<os.length->D j=false)->G D x {w with drawn:=w.drawn+1})
  (hsteps:qBH P os.toArray a0 w dsts Φs G PΦ (os.take m) (deps.take m) 0)
  (hpan:∀(a:Act) ch W,a.defers=a0.defers->PΦ ch W->Q (.panic ch) a W)
  (hend:∀D x W,(∀j,j<m->D j=true)->R.r w W->(∀j,j<m->fact Φs x W j)->G D x W->∀Q':Exit->Act->World->Prop,(∀a W,Q .normal a W->Q' .normal a W)->(∀ch a W,Q (.panic ch) a W->Q' (.panic ch) a W)->wpList P os.toArray Q' (os.drop m) (fA0 dsts x (List.range m) a0) W):
  (Code.region id os.toArray true).wp P Q a0 w:=by
 have i:m<=os.length:=by have:=(qCV hT).le;simpa using this
 refine qFF m dsts deps (gRel w Φs m G) PΦ hm hB hT hg (λD x b=>⟨R.drew w,λj c g=>?_,h0 D x b⟩) (qCs ?_ (by rw[List.length_take];omega) hsteps) hpan λD x W b f=>hend D x W b f.1 (λj c=>f.2.1 j c (b j c)) f.2.2
 ·rw[b j (by omega)]at g;cases g
 ·intro d h j c;rw[List.all_eq_true]at hdm;have:=hdm d h;rw[List.all_eq_true]at this;simpa using this j c
theorem qAs {id:Nat} {a0:Act} {w:World} {Q:Exit->Act->World->Prop} {os:List Oper} (m:Nat) (dsts:List (Option Tmp)) (deps:List (List Nat)) (Φs:List (MPredR R)) (PΦ:List PanicEntry->World->Prop)
  (hm:P.follows .mixedOrders =true) (hB:qAz os.toArray a0.tmps.size dsts deps=true) (hT:qBs os.toArray m=true) (hg:((os.drop m).all λo=>o.guard.isNone)=true)
  (hdm:((deps.take m).all λd=>d.all λj=>decide (j<m))=true)
  (hsteps:qBH P os.toArray a0 w dsts Φs (λ_ _ _=>True) PΦ (os.take m) (deps.take m) 0)
  (hpan:∀(a:Act) ch W,a.defers=a0.defers->PΦ ch W->Q (.panic ch) a W)
  (hend:∀x W,R.r w W->(∀j,j<m->fact Φs x W j)->∀Q':Exit->Act->World->Prop,(∀a W,Q .normal a W->Q' .normal a W)->(∀ch a W,Q (.panic ch) a W->Q' (.panic ch) a W)->wpList P os.toArray Q' (os.drop m) (fA0 dsts x (List.range m) a0) W):
  (Code.region id os.toArray true).wp P Q a0 w:=
 qFG m dsts deps Φs (λ_ _ _=>True) PΦ hm hB hT hg hdm (λ_ _ _=>trivial) hsteps hpan λD x W _ hR hf _=>hend x W hR hf
theorem sMc {ops:Array Oper} {dsts:List (Option Tmp)} {a0:Act} {w:World} {o:Oper} {os:List Oper} {d:List Nat} {ds:List (List Nat)} {i:Nat} (hg:o.guard=none)
  (h:∀(x:Nat->Value) (W:World),R.r w W->qAo Φs x W d->∀Q:Exit->Act->World->Prop,(∀v W',R.r W W'->(Φs.getD i MPredR.any).p v W'->Q .normal ((fA0 dsts x d a0).put o.dst v) W')->(∀ch a' W',PΦ ch W'->Q (.panic ch) a' W')->wpList P ops Q [o] (fA0 dsts x d a0) W)
  (h2:qBH P ops a0 w dsts Φs (λ_ _ _=>True) PΦ os ds (i+1)):qBH P ops a0 w dsts Φs (λ_ _ _=>True) PΦ (o::os) (d::ds) i:=
 sGc hg (λ_ x W _ _ hR hf _ Q hQ hP=>h x W hR hf Q (λv W' a b=>hQ v W' a b trivial) hP) h2
end
end Go.Proofs.YtfmfefibadpobaaGreatDoor
namespace Go.Proofs.YtfmfefibadpobaaGreatDoor
set_option maxRecDepth 100000
open Go.RowKit Go.Shelf
set_option linter.unusedVariables false
section
variable {P:Program} {ops:Array Oper} {dsts:List (Option Tmp)} {PΦ:List PanicEntry->World->Prop}
def qDL (m:Nat) (ops:Array Oper) (n:Nat) (dsts:List (Option Tmp)) (deps:List (List Nat)):Bool:=
 decide (dsts.length=ops.size)&&(List.range ops.size).all λi=>
  match ops[i]? with
  | none=>false
  | some (o:Oper)=>
   qDW o&&(o.dst==dsts.getD i none)&&
   (match o.dst with |some d=>decide (d<n)&&(List.range ops.size).all λj=>j==i||dsts.getD j none != some d|none=>true)&&
   ((List.range ops.size).filter λj=>(decide (j<m)||decide (m<=i))&&match dsts.getD j none with |some d=>(o.looksAt ops).contains d|none=>false)==deps.getD i []&&
   ((deps.getD i []).all λj=>o.after.any λe=>Region.binds .any e&&e.on==j)&&
   (o.after.all λe=> !Region.binds .any e||decide (e.on<i))
structure MonoOkM (m:Nat) (ops:Array Oper) (n:Nat) (dsts:List (Option Tmp)) (deps:List (List Nat)):Prop where
 len:dsts.length=ops.size
 sel:∀(i:Nat) (o:Oper),ops[i]? =some o->∀cs b,o.op≠ .select cs b
 dst:∀(i:Nat) (o:Oper),ops[i]? =some o->o.dst=dsts.getD i none
 inn:∀(i:Nat) (o:Oper) (d:Tmp),ops[i]? =some o->o.dst=some d->d<n
 one:∀i j d,i<ops.size->j<ops.size->dsts.getD i none=some d->dsts.getD j none=some d->i=j
 looks:∀(i:Nat) (o:Oper),ops[i]? =some o->∀j d,j<m->j<ops.size->dsts.getD j none=some d->d∈o.looksAt ops->j∈deps.getD i []
 dep:∀(i:Nat) (o:Oper),ops[i]? =some o->∀j∈deps.getD i [],j<ops.size/\(∃d,dsts.getD j none=some d)/\∃e∈o.after,Region.binds .any e=true/\e.on=j
 back:∀(i:Nat) (o:Oper),ops[i]? =some o->∀e∈o.after,Region.binds .any e=true->e.on<i
theorem qG1 {m n:Nat} {deps:List (List Nat)} (h:qDL m ops n dsts deps=true):MonoOkM m ops n dsts deps:=by
 unfold qDL at h;simp only[Bool.and_eq_true,decide_eq_true_eq,List.all_eq_true,List.mem_range]at h;obtain⟨q,h⟩:=h;have r:∀(i:Nat) (o:Oper),ops[i]? =some o->i<ops.size:=λi o c=>(gsl c)
 have H:∀(i:Nat) (o:Oper),ops[i]? =some o->((((((qDW o)=true/\(o.dst==dsts.getD i none)=true)∧
   (match o.dst with |some d=>decide (d<n)&&(List.range ops.size).all λj=>j==i||dsts.getD j none != some d|none=>true)=true)∧
   (((List.range ops.size).filter λj=>(decide (j<m)||decide (m<=i))&&match dsts.getD j none with |some d=>(o.looksAt ops).contains d|none=>false)==deps.getD i [])=true)∧
   (∀j∈deps.getD i [],(o.after.any λe=>Region.binds .any e&&e.on==j)=true))∧
   (o.after.all λe=> !Region.binds .any e||decide (e.on<i))=true):=by
  intro i o c;have:=h i (r i o c);rw[c]at this;simpa only[Bool.and_eq_true,List.all_eq_true]using this
 refine⟨q,?_,?_,?_,?_,?_,?_,?_⟩
 ·intro i o c D b C;have:=(H i o c).1.1.1.1.1;unfold qDW at this;rw[C]at this
  cases this
 ·intro i o c;simpa using(H i o c).1.1.1.1.2
 ·intro i o d c k;have:=(H i o c).1.1.1.2;rw[k]at this;simp only[Bool.and_eq_true,decide_eq_true_eq]at this;exact this.1
 ·intro i j d A f y z;obtain⟨o,c⟩:∃o,ops[i]? =some o:=⟨ops[i],Array.getElem?_eq_getElem A⟩;have x:o.dst=dsts.getD i none:=by simpa using(H i o c).1.1.1.1.2
  have:=(H i o c).1.1.1.2;rw[x,y]at this;simp only[Bool.and_eq_true,List.all_eq_true,List.mem_range]at this;have:=this.2 j f;rw[z]at this;simpa using(by simpa using this:j=i).symm
 ·intro i o c j d t f k B;have:=(H i o c).1.1.2;have e:(List.range ops.size).filter (λj=>(decide (j<m)||decide (m<=i))&&match dsts.getD j none with |some d=>(o.looksAt ops).contains d|none=>false)=deps.getD i []:=by simpa using this
  rw[<-e,List.mem_filter];refine⟨List.mem_range.2 f,?_⟩;rw[k];simpa[t]using B
 ·intro i o c j f;have v:=(H i o c).1.1.2;have e:(List.range ops.size).filter (λj=>(decide (j<m)||decide (m<=i))&&match dsts.getD j none with |some d=>(o.looksAt ops).contains d|none=>false)=deps.getD i []:=by simpa using v
  have p:j<ops.size/\∃d,dsts.getD j none=some d:=by
   rw[<-e,List.mem_filter]at f;refine⟨List.mem_range.1 f.1,?_⟩
   cases k:dsts.getD j none with
   | some d=>exact⟨d,rfl⟩
   | none=>
    have:=f.2;rw[k]at this;simp at this
  have:=(H i o c).1.2 j f;rw[Array.any_eq_true']at this;obtain⟨e,s,g⟩:=this;simp only[Bool.and_eq_true,beq_iff_eq]at g;exact⟨p.1,p.2,e,s,g.1,g.2⟩
 ·intro i o c e s g;have:=(H i o c).2;rw[Array.all_eq_true']at this;have:=this e s;rw[g]at this;simpa using this
theorem qHk {a0:Act} {J:Array Bool->(Nat->Value)->World->Prop} {Q:Exit->Act->World->Prop} {deps:List (List Nat)} {m:Nat} (ok:MonoOkM m ops a0.tmps.size dsts deps) (tl:TailsOk ops m)
  (hsteps:∀(i:Nat) (o:Oper),i<m->ops[i]? =some o->qGA P ops a0 dsts J PΦ (deps.getD i []) i o)
  (hpan:∀(a:Act) ch W,a.defers=a0.defers->PΦ ch W->Q (.panic ch) a W)
  (hend:∀listed x W,(∀j,j<m->listed.getD j true=true)->J listed x W->qCB P ops Q (ops.size - m) m (fA0 dsts x (List.range m) a0) W):
  ∀(fuel:Nat) (listed:Array Bool) (x:Nat->Value) (a:Act) (W:World),JInvT ops a0 dsts J m listed x a W->(List.range ops.size).countP (λi=> !listed.getD i true)<=fuel->qAg P .any ops Q fuel listed a W:=by
 intro fuel
 have a5:∀(listed:Array Bool) (x:Nat->Value) (a:Act) (W:World),JInvT ops a0 dsts J m listed x a W->(∀j,j<m->listed.getD j true=true)->a=fA0 dsts x (List.range m) a0:=by
  intro listed x a W b p;have y:a.defers=(fA0 dsts x (List.range m) a0).defers :=by rw[qAc,b.defers]
  have Z:a.tmps=(fA0 dsts x (List.range m) a0).tmps :=by
   refine Array.ext_getElem? λt=>?_
   by_cases ht:∃j,j<m/\dsts.getD j none=some t
   ·obtain⟨j,s,C⟩:=ht;have am:j<ops.size:=Nat.lt_of_lt_of_le s tl.le;rw[b.done j t s (p j s) C,qBF x t j C]
    ·obtain⟨o,D⟩:∃o,ops[j]? =some o:=⟨ops[j],Array.getElem?_eq_getElem am⟩;exact ok.inn j o t D ((ok.dst j o D).trans C)
    ·exact λk hk av=>ok.one k j t (Nat.lt_of_lt_of_le (List.mem_range.1 hk) tl.le) am av C
    ·exact .inr (List.mem_range.2 s)
   ·rw[b.rest t λj s _ C=>ht ⟨j,s,C⟩,qAi x t _ _ λj s C=>ht ⟨j,List.mem_range.1 s,C⟩]
  obtain⟨aP,aO⟩:=a;simp only at y Z;generalize fA0 dsts x (List.range m) a0=f at y Z;obtain⟨ft,fd⟩:=f;simp only at y Z;rw[y,Z]
 have I:∀(listed:Array Bool) j,listed.size=ops.size->j<ops.size->listed.getD j false=listed.getD j true:=by
  intro listed j L s;have hs:j<listed.size:=by omega
  simp only[Array.getD_eq_getD_getElem?,Array.getElem?_eq_getElem hs,Option.getD_some]
 have Y:∀(listed:Array Bool),listed.size=ops.size->Region.ready .any ops listed=[]->∀j,j<ops.size->listed.getD j true=true:=by
  intro listed L hr j
  induction j using Nat.strongRecOn with
  | ind j ih=>
   intro s
   cases an:listed.getD j true with
   | true=>rfl
   | false=>
    have:j∈Region.ready .any ops listed:=by
     rw[mem_ready];refine⟨an,ops[j],Array.getElem?_eq_getElem s,λe H O=>?_⟩;have ae:=ok.back j ops[j] (Array.getElem?_eq_getElem s) e H O;rw[I _ _ L (by omega)];exact ih e.on ae (by omega)
    rw[hr]at this;simp at this
 have ag:∀(listed:Array Bool),(∀j,j<ops.size->listed.getD j true=true)->Region.ready .any ops listed=[]:=by
  intro listed p;refine List.eq_nil_iff_forall_not_mem.2 λj s=>?_;obtain⟨y,o,D,_⟩:=mem_ready.1 s;rw[p j (gsl D)]at y
  cases y
 have ah:∀(fuel:Nat) (listed:Array Bool) (a:Act) (W:World),(∀j,j<ops.size->listed.getD j true=true)->Q .normal a W->qAg P .any ops Q fuel listed a W:=by
  intro fuel listed a W p hq
  cases fuel with
  | zero=>exact⟨ag _ p,hq⟩
  | succ fuel=>exact⟨λ_=>hq,λi hi=>by rw[ag _ p]at hi;simp at hi⟩
 have c:∀(listed:Array Bool) i j,i<listed.size->(listed.setIfInBounds i true).getD j true=if i=j then true else listed.getD j true:=by
  intro listed i j hi;simp only[Array.getD_eq_getD_getElem?,Array.getElem?_setIfInBounds]
  by_cases h:i=j
  ·subst h;simp[hi]
  ·simp[h]
 have U:∀(listed:Array Bool),(∀(j:Nat) (o:Oper),ops[j]? =some o->listed.getD j true=true->∀e∈o.after,Region.binds .any e=true->listed.getD e.on true=true)->listed.size=ops.size->∀i,m<=i->i∈Region.ready .any ops listed->∀j,j<i->listed.getD j true=true:=by
  intro listed ac L i al hi;obtain⟨X,o,D,B⟩:=mem_ready.1 hi;have E:i<ops.size:=(gsl D)
  have p:∀k j,j<i->i - j<=k->listed.getD j true=true:=by
   intro k
   induction k with
   | zero=>intro j y Z;omega
   | succ k ihk=>
    intro j s _;obtain⟨q,oq,ap,M,ax,e,H,O,ao⟩:=tl.sink i al E j s
    by_cases ay:q=i
    ·subst ay;rw[D]at ax
     cases ax
     have y:=B e H O;rw[ao,I _ _ L (by omega)]at y;exact y
    ·have y:=ihk q (by omega) (by omega);have Z:=ac q oq ax y e H O;rw[ao]at Z;exact Z
  exact λj s=>p (i - j) j s (Nat.le_refl _)
 have aD:∀(k i fuel:Nat) (listed:Array Bool) (a:Act) (W:World),i+k=ops.size->listed.size=ops.size->m<=i->(∀j,j<i->listed.getD j true=true)->(∀j,i<=j->j<ops.size->listed.getD j true=false)→
   (∀(j:Nat) (o:Oper),ops[j]? =some o->listed.getD j true=true->∀e∈o.after,Region.binds .any e=true->listed.getD e.on true=true)->k<=fuel->qCB P ops Q k i a W->qAg P .any ops Q fuel listed a W:=by
  intro k
  induction k with
  | zero=>
   intro i fuel listed a W aG L aI S hu ac hf h;exact ah _ _ _ _ (λj s=>S j (by omega)) h
  | succ k ihk=>
   intro i fuel listed a W aG L aI S hu ac hf h;obtain⟨f,rfl⟩:∃f,fuel=f+1:=⟨fuel - 1,by omega⟩;have E:i<ops.size:=by omega
   refine⟨λhr=>?_,λq hq=>?_⟩
   ·have:=Y listed L hr i E;rw[hu i (Nat.le_refl _) E]at this
    cases this
   ·obtain⟨X,o,D,B⟩:=mem_ready.1 hq;have aS:q<ops.size:=(gsl D);have ay:i<=q:=Nat.le_of_not_lt λae=>by rw[S q ae]at X;cases X
    have O:=U listed ac L q (by omega) hq
    have:q=i:=by
     refine Nat.le_antisymm (Nat.le_of_not_lt λae=>?_) ay;have y:=O i ae;rw[hu i (Nat.le_refl _) E]at y
     cases y
    subst this;have aq:q<listed.size:=by omega
    refine qBD (λa' W' M=>ihk (q+1) f (listed.setIfInBounds q true) a' W' (by omega) (by simp[L]) (by omega) (λj s=>?_) (λj aR aH=>?_) ?_ (by omega) M) h
    ·rw[c _ _ _ aq]
     split
     ·rfl
     ·exact S j (by omega)
    ·rw[c _ _ _ aq,if_neg (by omega)];exact hu j (by omega) aH
    ·intro j oj A an e H a3;rw[c _ _ _ aq]
     by_cases a9:j=q
     ·subst a9;rw[D]at A
      cases A
      split
      ·rfl
      ·exact S _ (ok.back j o D e H a3)
     ·rw[c _ _ _ aq,if_neg (Ne.symm a9)]at an
      split
      ·rfl
      ·exact ac j oj A an e H a3
 -- all of the head is there
 have V:∀(listed:Array Bool) (x:Nat->Value) (a:Act) (W:World),JInvT ops a0 dsts J m listed x a W->(∀j,j<m->listed.getD j true=true)->qCB P ops Q (ops.size - m) m a W:=by
  intro listed x a W b p;rw[a5 _ _ _ _ b p];exact hend listed x W p b.jay
 induction fuel with
 | zero=>
  intro listed x a W b hc
  have p:∀j,j<ops.size->listed.getD j true=true:=λj s=>by
   have h0:(List.range ops.size).countP (λi=> !listed.getD i true)=0:=by omega
   rw[List.countP_eq_zero]at h0;simpa using h0 j (List.mem_range.2 s)
  have h:=V _ _ _ _ b λj s=>p j (Nat.lt_of_lt_of_le s tl.le)
  by_cases hm:m<ops.size
  ·have:=p m hm;rw[b.tail m (Nat.le_refl _) hm]at this
   cases this
  ·rw[show ops.size - m=0 by omega]at h;exact ah 0 _ _ _ p h
 | succ fuel ih=>
  intro listed x a W b hc;refine⟨λhr=>?_,λi hi=>?_⟩
  ·have p:=Y listed b.ls hr;have h:=V _ _ _ _ b λj s=>p j (Nat.lt_of_lt_of_le s tl.le)
   by_cases hm:m<ops.size
   ·have:=p m hm;rw[b.tail m (Nat.le_refl _) hm]at this
    cases this
   ·rw[show ops.size - m=0 by omega]at h;exact h
  ·obtain⟨X,o,D,B⟩:=mem_ready.1 hi;have E:i<ops.size:=(gsl D);have r:i<listed.size:=by rw[b.ls];exact E
   have aw:=ok.dst i o D
   by_cases al:i<m
   ·-- the results that o looks at are there
    have ar:∀j∈deps.getD i [],j<m/\listed.getD j true=true/\∃d,dsts.getD j none=some d:=λj s=>by
     obtain⟨am,C,e,H,O,ao⟩:=ok.dep i o D j s;have y:=B e H O;have Z:=ok.back i o D e H O;rw[ao]at y Z;rw[I _ _ b.ls am]at y;exact⟨by omega,y,C⟩
    have N:=hsteps i o al D listed x W b.ls X (λj s=>(ar j s).2.1) b.jay
    -- a and the act that is filled agree where o looks
    have ai:∀t∈o.looksAt ops,(fA0 dsts x (deps.getD i []) a0).tmps[t]? =a.tmps[t]? :=by
     intro t ht
     by_cases az:∃j,j<m/\dsts.getD j none=some t
     ·obtain⟨j,a8,C⟩:=az;have s:=Nat.lt_of_lt_of_le a8 tl.le;have a7:=ok.looks i o D j t a8 s C ht;obtain⟨y,Z,_⟩:=ar j a7;rw[b.done j t y Z C,qBF x t j C]
      ·obtain⟨oj,A⟩:∃oj,ops[j]? =some oj:=⟨ops[j],Array.getElem?_eq_getElem s⟩;exact ok.inn j oj t A ((ok.dst j oj A).trans C)
      ·exact λk hk av=>ok.one k j t (ok.dep i o D k hk).1 s av C
      ·exact .inr a7
     ·rw[qAi x t _ _ λj s C=>az ⟨j,(ar j s).1,C⟩,b.rest t λj s _ C=>az ⟨j,s,C⟩]
    have au:execOp a.eval o=execOp (fA0 dsts x (deps.getD i []) a0).eval o:=execOp_congr o (ok.sel i o D) λz hz=>by
     cases z with
     | tmp t=>
      have:=ai t (List.mem_append_left _ (List.mem_filterMap.2 ⟨.tmp t,by simpa using hz,rfl⟩));simp only[Act.eval,Array.getD_eq_getD_getElem?,this]
     | const v=>rfl
     | global g=>rfl
     | func f=>rfl
    have a1:Region.wanted o (yielded ops a.tmps)=Region.wanted o (yielded ops (fA0 dsts x (deps.getD i []) a0).tmps):=by
     unfold Region.wanted
     cases hg:o.guard with
     | none=>rfl
     | some gw=>
      obtain⟨g,aN⟩:=gw
      have hy:yielded ops a.tmps g=yielded ops (fA0 dsts x (deps.getD i []) a0).tmps g:=by
       unfold yielded
       cases ht:(ops[g]?).bind (·.dst)with
       | none=>rfl
       | some t=>
        have:=ai t (by simp[Oper.looksAt,hg,ht]);simp only[Option.bind_some,this]
      simp only[hy]
    -- what comes next
    have af:∀v W',J (listed.setIfInBounds i true) (updV x i v) W'->qAg P .any ops Q fuel (listed.setIfInBounds i true) (a.put o.dst v) W':=by
     intro v W' hv;refine ih (listed.setIfInBounds i true) (updV x i v) _ _ ?_ ?_
     ·refine⟨by simp[b.ls],by rw[qBl,b.size],by rw[qA6,b.defers],?_,?_,hv,?_,?_⟩
      ·intro j d s S C
       by_cases F:j=i
       ·subst F;have a4:o.dst=some d:=aw.trans C;rw[qAU,if_pos ⟨a4,by rw[b.size];exact ok.inn j o d D a4⟩];simp[updV]
       ·rw[c _ _ _ r,if_neg (Ne.symm F)]at S;rw[qAU,if_neg]
        ·have:=b.done j d s S C;simp only[updV,if_neg F];exact this
        ·rintro⟨y,_⟩;exact F (ok.one j i d (Nat.lt_of_lt_of_le s tl.le) E C (aw.symm.trans y))
      ·intro t ht
       have aJ:o.dst≠some t:=by
        intro y;refine ht i al ?_ (aw.symm.trans y);rw[c _ _ _ r,if_pos rfl]
       rw[qAU,if_neg λy=>aJ y.1];refine b.rest t λj s S=>ht j s ?_;rw[c _ _ _ r]
       split
       ·rfl
       ·exact S
      ·intro q ap M;rw[c _ _ _ r,if_neg (by omega)];exact b.tail q ap M
      ·intro j oj A S e H O;rw[c _ _ _ r]
       by_cases F:j=i
       ·subst F;rw[D]at A
        cases A
        split
        ·rfl
        ·rw[<-I _ _ b.ls]
         ·exact B e H O
         ·have:=ok.back j o D e H O;omega
       ·rw[c _ _ _ r,if_neg (Ne.symm F)]at S
        split
        ·rfl
        ·exact b.closed j oj A S e H O
     ·refine Nat.le_of_lt_succ (Nat.lt_of_lt_of_le (qAx (λj s hq=>?_) i (List.mem_range.2 E) ?_ ?_) hc)
      ·rw[c _ _ _ r]at hq
       by_cases ad:i=j
       ·simp[ad]at hq
       ·simpa[ad]using hq
      ·rw[X];rfl
      ·rw[c _ _ _ r,if_pos rfl];rfl
    unfold stOp;simp only[D];rw[a1]
    by_cases hw:Region.wanted o (yielded ops (fA0 dsts x (deps.getD i []) a0).tmps)=true
    ·rw[if_pos hw]at N ⊢
     have hK:=N (λa' W'=>a'.defers=(fA0 dsts x (deps.getD i []) a0).defers /\∃v,(∀d,o.dst=some d->a'.tmps[d]? =some v)/\J (listed.setIfInBounds i true) (updV x i v) W') λv W' hv=>
      ⟨qA6 _ _ _,v,λd C=>by rw[qAU,if_pos ⟨C,by rw[qA4];exact ok.inn i o d D C⟩],hv⟩
     unfold Oper.wp at hK ⊢;rw[au];refine qFE (PΦ:=PΦ) (by rw[qAc,b.defers]) (by rw[qA4,b.size]) (λd C=>by rw[qA4];exact ok.inn i o d D C) _ af ?_ hK;intro ch W' y;exact hpan _ _ _ b.defers y
    ·rw[if_neg hw]at N ⊢;exact af undef W N
   ·-- the tail
    have G:=U listed (λj oj A S e H O=>b.closed j oj A S e H O) b.ls i (by omega) hi
    have a6:i=m:=by
     refine Nat.le_antisymm (Nat.le_of_not_lt λh=>?_) (by omega);have y:=G m h;rw[b.tail m (Nat.le_refl _) (by omega)]at y
     cases y
    subst a6;have h:=V _ _ _ _ b G;have hk:ops.size - i=(ops.size - (i+1))+1:=by omega
    rw[hk]at h;refine qBD (λa' W' hq=>aD (ops.size - (i+1)) (i+1) fuel (listed.setIfInBounds i true) a' W' (by omega) (by simp[b.ls]) (by omega) (λq M=>?_) (λq ap M=>?_) ?_ ?_ hq) h
    ·rw[c _ _ _ r]
     split
     ·rfl
     ·exact G q (by omega)
    ·rw[c _ _ _ r,if_neg (by omega)];exact b.tail q (by omega) M
    ·intro j oj A S e H O;rw[c _ _ _ r]
     by_cases F:j=i
     ·subst F;rw[D]at A
      cases A
      split
      ·rfl
      ·exact G _ (ok.back j o D e H O)
     ·rw[c _ _ _ r,if_neg (Ne.symm F)]at S
      split
      ·rfl
      ·exact b.closed j oj A S e H O
    ·refine Nat.le_trans ?_ (Nat.le_of_lt_succ (Nat.lt_of_lt_of_le (qAx (q:=λj=> !(listed.setIfInBounds i true).getD j true) (λj s hq=>?_) i (List.mem_range.2 E) ?_ ?_) hc))
     ·refine Nat.le_trans ?_ (qDv (ops:=ops) (k:=i+1) (λq ap M=>?_))
      ·exact Nat.le_refl _
      ·rw[c _ _ _ r,if_neg (by omega)];exact b.tail q (by omega) M
     ·rw[c _ _ _ r]at hq
      by_cases ad:i=j
      ·simp[ad]at hq
      ·simpa[ad]using hq
     ·rw[X];rfl
     ·rw[c _ _ _ r,if_pos rfl];rfl
theorem qFH {id:Nat} {a0:Act} {w:World} {Q:Exit->Act->World->Prop} {os:List Oper} (m:Nat) (dsts:List (Option Tmp)) (deps:List (List Nat)) (J:JRel) (PΦ:List PanicEntry->World->Prop)
  (hm:P.follows .mixedOrders =true) (hB:qDL m os.toArray a0.tmps.size dsts deps=true) (hT:qBs os.toArray m=true) (hg:((os.drop m).all λo=>o.guard.isNone)=true)
  (h0:∀D x,(∀j,j<os.length->D j=false)->J D x {w with drawn:=w.drawn+1})
  (hsteps:qCJ P os.toArray a0 dsts J PΦ (os.take m) (deps.take m) 0)
  (hpan:∀(a:Act) ch W,a.defers=a0.defers->PΦ ch W->Q (.panic ch) a W)
  (hend:∀D x W,(∀j,j<m->D j=true)->J D x W->∀Q':Exit->Act->World->Prop,(∀a W,Q .normal a W->Q' .normal a W)->(∀ch a W,Q (.panic ch) a W->Q' (.panic ch) a W)->wpList P os.toArray Q' (os.drop m) (fA0 dsts x (List.range m) a0) W):
  (Code.region id os.toArray true).wp P Q a0 w:=by
 have ok:=qG1 hB;have z:=qCV hT;have I:m<=os.length:=by have:=z.le;simpa using this
 have g:∀(b:Array Bool) i,i<b.size->(λj=>(b.setIfInBounds i true).getD j true)=updB (λj=>b.getD j true) i:=by
  intro b i k
  funext j
  simp only[updB,Array.getD_eq_getD_getElem?,Array.getElem?_setIfInBounds]
  by_cases h:j=i
  ·subst h;simp[k]
  ·simp[h,Ne.symm h]
 refine wp_region_any hm (qBJ _ _ _ _ ?_);refine qHk (J:=λb x W=>J (λj=>b.getD j true) x W) (PΦ:=PΦ) ok z (λi o k C=>?_) hpan (λb x W f p=>?_) _ _ (λ_=>undef) _ _ (qD2 _ ?_ z.le) ?_
 ·intro b x W s y c p;have q:i<b.size:=by rw[s];exact(gsl C)
  have t:(os.take m)[i]? =some o:=by rw[List.getElem?_take,if_pos k];simpa using C
  have h0:=qCA hsteps i o t;rw[Nat.zero_add,show(deps.take m).getD i []=deps.getD i []by simp[List.getD_eq_getElem?_getD,k]]at h0;obtain⟨hg,h0⟩:=h0;have L:Region.wanted o (yielded os.toArray (fA0 dsts x (deps.getD i []) a0).tmps)=true:=by unfold Region.wanted;rw[hg]
  rw[if_pos L];intro K hK;refine qDK (ops:=os.toArray) (φ :=λv d=>J (updB (λj=>b.getD j true) i) (updV x i v) d) hg (λQ G F=>h0 _ x W y c p Q G F) λv d E=>hK v d ?_;show J (λj=>(b.setIfInBounds i true).getD j true) _ _;rw[g _ _ q];exact E
 ·have h:=hend _ x W f p (λe A d=>e= .normal /\Q .normal A d∨∃ch,e= .panic ch/\Q (.panic ch) A d) (λa W h=> .inl ⟨rfl,h⟩) (λch a W h=> .inr ⟨ch,rfl,h⟩);have B:=qDd os.toArray (os.drop m) m _ W hg (λj=>by simp) h;rw[List.length_drop]at B;simpa using B
 ·refine h0 _ _ λj H=>?_;have r:j<os.toArray.size:=by simpa using H
  simp only[Array.getD_eq_getD_getElem?,Array.getElem?_replicate,if_pos r,Option.getD_some]
 ·exact Nat.le_trans List.countP_le_length (by simp)
end
section
variable {R:WRel} {P:Program} {Φs:List (MPredR R)} {PΦ:List PanicEntry->World->Prop}
theorem qFI {id:Nat} {a0:Act} {w:World} {Q:Exit->Act->World->Prop} {os:List Oper} (m:Nat) (dsts:List (Option Tmp)) (deps:List (List Nat)) (Φs:List (MPredR R)) (G:JRel) (PΦ:List PanicEntry->World->Prop)
  (hm:P.follows .mixedOrders =true) (hB:qDL m os.toArray a0.tmps.size dsts deps=true) (hT:qBs os.toArray m=true) (hg:((os.drop m).all λo=>o.guard.isNone)=true)
  (hdm:((deps.take m).all λd=>d.all λj=>decide (j<m))=true)
  (h0:∀D x,(∀j,j<os.length->D j=false)->G D x {w with drawn:=w.drawn+1})
  (hsteps:qBH P os.toArray a0 w dsts Φs G PΦ (os.take m) (deps.take m) 0)
  (hpan:∀(a:Act) ch W,a.defers=a0.defers->PΦ ch W->Q (.panic ch) a W)
  (hend:∀D x W,(∀j,j<m->D j=true)->R.r w W->(∀j,j<m->fact Φs x W j)->G D x W->∀Q':Exit->Act->World->Prop,(∀a W,Q .normal a W->Q' .normal a W)->(∀ch a W,Q (.panic ch) a W->Q' (.panic ch) a W)->wpList P os.toArray Q' (os.drop m) (fA0 dsts x (List.range m) a0) W):
  (Code.region id os.toArray true).wp P Q a0 w:=by
 have i:m<=os.length:=by have:=(qCV hT).le;simpa using this
 refine qFH m dsts deps (gRel w Φs m G) PΦ hm hB hT hg (λD x b=>⟨R.drew w,λj c g=>?_,h0 D x b⟩) (qCs ?_ (by rw[List.length_take];omega) hsteps) hpan λD x W b f=>hend D x W b f.1 (λj c=>f.2.1 j c (b j c)) f.2.2
 ·rw[b j (by omega)]at g;cases g
 ·intro d h j c;rw[List.all_eq_true]at hdm;have:=hdm d h;rw[List.all_eq_true]at this;simpa using this j c
theorem qDw {id:Nat} {a0:Act} {w:World} {Q:Exit->Act->World->Prop} {os:List Oper} (m:Nat) (dsts:List (Option Tmp)) (deps:List (List Nat)) (Φs:List (MPredR R)) (PΦ:List PanicEntry->World->Prop)
  (hm:P.follows .mixedOrders =true) (hB:qDL m os.toArray a0.tmps.size dsts deps=true) (hT:qBs os.toArray m=true) (hg:((os.drop m).all λo=>o.guard.isNone)=true)
  (hdm:((deps.take m).all λd=>d.all λj=>decide (j<m))=true)
  (hsteps:qBH P os.toArray a0 w dsts Φs (λ_ _ _=>True) PΦ (os.take m) (deps.take m) 0)
  (hpan:∀(a:Act) ch W,a.defers=a0.defers->PΦ ch W->Q (.panic ch) a W)
  (hend:∀x W,R.r w W->(∀j,j<m->fact Φs x W j)->∀Q':Exit->Act->World->Prop,(∀a W,Q .normal a W->Q' .normal a W)->(∀ch a W,Q (.panic ch) a W->Q' (.panic ch) a W)->wpList P os.toArray Q' (os.drop m) (fA0 dsts x (List.range m) a0) W):
  (Code.region id os.toArray true).wp P Q a0 w:=
 qFI m dsts deps Φs (λ_ _ _=>True) PΦ hm hB hT hg hdm (λ_ _ _=>trivial) hsteps hpan λD x W _ hR hf _=>hend x W hR hf
end
end Go.Proofs.YtfmfefibadpobaaGreatDoor

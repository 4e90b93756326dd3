/- A region that draws its order, whose operations only make memory: each operation is shown once, in any later world, from what is known of the results that it .. -/
import Derived.Test.YtenjpccpldajoaaGreatDoorPk03
namespace Go.Proofs.YtenjpccpldajoaaGreatDoor
set_option maxRecDepth 100000
open Go.RowKit
set_option linter.unusedVariables false
def Le (w w':World):Prop:=Below w.heap.size w w'
theorem Le.refl (w:World):Le w w:=Below.refl _ _
theorem Le.trans {a b c:World} (h:Le a b) (k:Le b c):Le a c:=Below.tr h k
theorem Le.drew {w:World}:Le w ({w with drawn:=w.drawn+1}:World):=Below.drew (Below.refl _ _)
structure WRel where
 r:World→World→Prop
 refl:∀w,r w w
 trans:∀{a b c},r a b→r b c→r a c
 drew:∀w:World,r w {w with drawn:=w.drawn+1}
def leRel:WRel:=⟨Le,Le.refl,Le.trans,fun _=>Le.drew⟩
theorem lrR {W:World}:leRel.r W W:=Le.refl W
structure MPredR (R:WRel) where
 p:Value→World→Prop
 mono:∀v w w',R.r w w'→p v w→p v w'
abbrev MPred:=MPredR leRel
def MPredR.any {R:WRel}:MPredR R:=⟨fun _ _=>True,fun _ _ _ _ h=>h⟩
def MPredR.eq {R:WRel} (c:Value):MPredR R:=⟨fun v _=>v=c,fun _ _ _ _ h=>h⟩
def stOp (P:Program) (ops:Array Oper) (Q:Exit→Act→World→Prop) (i:Nat) (K:Act→World→Prop) (a:Act) (w:World):Prop:=
 match ops[i]? with
 | none=>K a w
 | some o=>if Region.wanted o (yielded ops a.tmps)then o.wp P a w K Q else K (a.put o.dst undef) w
def qBa (P:Program) (md:Region.Mode) (ops:Array Oper) (Q:Exit→Act→World→Prop):Nat→Array Bool→Act→World→Prop
 | 0,listed,a,w=>Region.ready md ops listed=[]∧Q .normal a w
 | fuel+1,listed,a,w=>(Region.ready md ops listed=[]→Q .normal a w)∧∀i∈Region.ready md ops listed,stOp P ops Q i (qBa P md ops Q fuel (listed.setIfInBounds i true)) a w
theorem qCI {P:Program} {ops:Array Oper} {Q:Exit→Act→World→Prop} {i:Nat} {K K':Act→World→Prop} {a:Act} {w:World} (h:∀a w,K a w→K' a w) (hh:stOp P ops Q i K a w):stOp P ops Q i K' a w:=by
 unfold stOp at*
 split
 ·rename_i ho;simp only[ho]at hh;exact h _ _ hh
 ·rename_i o ho;simp only[ho]at hh
  split
  ·rename_i hw;simp only[hw,if_true]at hh;exact Oper.wp_mono h hh
  ·rename_i hw;simp only[hw]at hh;exact h _ _ hh
theorem qCs {P:Program} {md:Region.Mode} {ops:Array Oper} {Q:Exit→Act→World→Prop}:∀(fuel:Nat) (listed:Array Bool) (a:Act) (w:World),qBa P md ops Q fuel listed a w→wpAny P md ops Q fuel listed a w
 | 0,_,_,_,h=>h
 | fuel+1,listed,a,w,h=>⟨h.1,fun i hi=>by
   have h2:=qCI (fun a' w'=>qCs fuel _ a' w') (h.2 i hi);unfold stOp at h2;unfold wpOp
   split
   ·rename_i ho;simp only[ho]at h2;exact h2
   ·rename_i o ho;simp only[ho]at h2
    split
    ·rename_i hw;simp only[hw,if_true]at h2;exact .inl h2
    ·rename_i hw;simp only[hw]at h2;exact h2⟩
def qET (P:Program) (Q:Exit→Act→World→Prop) (a:Act) (W:World):List Oper→Prop
 | []=>Q .normal a W
 | o::_=>o.guard=none∧o.wp P a W (Q .normal) Q
section
variable {R:WRel} {P:Program} {ops:Array Oper} {dsts:List (Option Tmp)} {Φs:List (MPredR R)} {PΦ:List PanicEntry→World→Prop}
def fact (Φs:List (MPredR R)) (x:Nat→Value) (W:World) (j:Nat):Prop:=(Φs.getD j MPredR.any).p (x j) W
theorem fact.le {x:Nat→Value} {W W':World} {j:Nat} (h:fact Φs x W j) (k:R.r W W'):fact Φs x W' j:=(Φs.getD j MPredR.any).mono _ _ _ k h
def qB6 (Φs:List (MPredR R)) (x:Nat→Value) (W:World):List Nat→Prop
 | []=>True
 | j::js=>fact Φs x W j∧qB6 Φs x W js
theorem qDU {x:Nat→Value} {W:World}:∀{js:List Nat},(∀j∈js,fact Φs x W j)→qB6 Φs x W js
 | [],_=>trivial
 | j::js,h=>⟨h j (by simp),qDU fun i hi=>h i (by simp[hi])⟩
def fA0 (dsts:List (Option Tmp)) (x:Nat→Value):List Nat→Act→Act
 | [],a=>a
 | j::js,a=>fA0 dsts x js (a.put (dsts.getD j none) (x j))
theorem fA:(∀dsts x a,fA0 dsts x [] a=a)∧(∀dsts x j js a,fA0 dsts x (j::js) a=fA0 dsts x js (a.put (dsts.getD j none) (x j)))∧(∀(a:Act) (d:Tmp) (v:Value),a.put (some d) v={a with tmps:=a.tmps.setIfInBounds d v})∧(∀(a:Act) (v:Value),a.put none v=a)∧
  (∀{α:Type} {x:α} {xs:List α} {n:Nat} {d:α},(x::xs).getD (n+1) d=xs.getD n d)∧(∀{α:Type} {x:α} {xs:List α} {d:α},(x::xs).getD 0 d=x)∧(∀{α:Type} (l:List α) (i:Nat) (a:α),l.toArray.setIfInBounds i a=(l.set i a).toArray)∧
  (∀{α:Type} {x:α} {xs:List α} {i:Nat} {a:α},(x::xs).set (i+1) a=x::xs.set i a)∧(∀{α:Type} {x:α} {xs:List α} {a:α},(x::xs).set 0 a=a::xs):=
 ⟨fun _ _ _=>rfl,fun _ _ _ _ _=>rfl,fun _ _ _=>rfl,fun _ _=>rfl,List.getD_cons_succ,List.getD_cons_zero,List.setIfInBounds_toArray,List.set_cons_succ,List.set_cons_zero⟩
def qGH (o:Oper):Bool:=match o.op with |Op.select .. =>false|_=>true
def qCh (ops:Array Oper) (n:Nat) (dsts:List (Option Tmp)) (deps:List (List Nat)):Bool:=
 decide (dsts.length=ops.size)&&(List.range ops.size).all fun i=>
  match ops[i]? with
  | none=>false
  | some (o:Oper)=>
   qGH o&&(o.dst==dsts.getD i none)&&
   (match o.dst with |some d=>decide (d<n)&&(List.range ops.size).all fun j=>j==i||dsts.getD j none != some d|none=>true)&&
   (((List.range ops.size).filter fun j=>match dsts.getD j none with |some d=>(o.looksAt ops).contains d|none=>false).all fun j=>(deps.getD i []).contains j)&&
   ((deps.getD i []).all fun j=>decide (j<ops.size)&&(dsts.getD j none).isSome &&o.after.any fun e=>Region.binds .any e&&e.on==j)&&
   (o.after.all fun e=> !Region.binds .any e||decide (e.on<i))
structure MonoOk (ops:Array Oper) (n:Nat) (dsts:List (Option Tmp)) (deps:List (List Nat)):Prop where
 len:dsts.length=ops.size
 sel:∀(i:Nat) (o:Oper),ops[i]? =some o→∀cs b,o.op≠ .select cs b
 dst:∀(i:Nat) (o:Oper),ops[i]? =some o→o.dst=dsts.getD i none
 inn:∀(i:Nat) (o:Oper) (d:Tmp),ops[i]? =some o→o.dst=some d→d<n
 one:∀i j d,i<ops.size→j<ops.size→dsts.getD i none=some d→dsts.getD j none=some d→i=j
 looks:∀(i:Nat) (o:Oper),ops[i]? =some o→∀j d,j<ops.size→dsts.getD j none=some d→d∈o.looksAt ops→j∈deps.getD i []
 dep:∀(i:Nat) (o:Oper),ops[i]? =some o→∀j∈deps.getD i [],j<ops.size∧(∃d,dsts.getD j none=some d)∧∃e∈o.after,Region.binds .any e=true∧e.on=j
 back:∀(i:Nat) (o:Oper),ops[i]? =some o→∀e∈o.after,Region.binds .any e=true→e.on<i
theorem qG6 {n:Nat} {deps:List (List Nat)} (h:qCh ops n dsts deps=true):MonoOk ops n dsts deps:=by
 unfold qCh at h;simp only[Bool.and_eq_true,decide_eq_true_eq,List.all_eq_true,List.mem_range]at h;obtain⟨hlen,h⟩:=h;have hat:∀(i:Nat) (o:Oper),ops[i]? =some o→i<ops.size:=fun i o ho=>(gsl ho)
 have H:∀(i:Nat) (o:Oper),ops[i]? =some o→((((((qGH o)=true∧(o.dst==dsts.getD i none)=true)∧
   (match o.dst with |some d=>decide (d<n)&&(List.range ops.size).all fun j=>j==i||dsts.getD j none != some d|none=>true)=true)∧
   (∀j∈(List.range ops.size).filter (fun j=>match dsts.getD j none with |some d=>(o.looksAt ops).contains d|none=>false),(deps.getD i []).contains j=true))∧
   (∀j∈deps.getD i [],((decide (j<ops.size)&&(dsts.getD j none).isSome)&&o.after.any fun e=>Region.binds .any e&&e.on==j)=true))∧
   (o.after.all fun e=> !Region.binds .any e||decide (e.on<i))=true):=by
  intro i o ho;have:=h i (hat i o ho);rw[ho]at this;simpa only[Bool.and_eq_true,List.all_eq_true]using this
 refine⟨hlen,?_,?_,?_,?_,?_,?_,?_⟩
 ·intro i o ho cs b hs;have:=(H i o ho).1.1.1.1.1;unfold qGH at this;rw[hs]at this
  cases this
 ·intro i o ho;simpa using(H i o ho).1.1.1.1.2
 ·intro i o d ho hd;have:=(H i o ho).1.1.1.2;rw[hd]at this;simp only[Bool.and_eq_true,decide_eq_true_eq]at this;exact this.1
 ·intro i j d hi hj h1 h2;obtain⟨o,ho⟩:∃o,ops[i]? =some o:=⟨ops[i],Array.getElem?_eq_getElem hi⟩;have e1:o.dst=dsts.getD i none:=by simpa using(H i o ho).1.1.1.1.2
  have:=(H i o ho).1.1.1.2;rw[e1,h1]at this;simp only[Bool.and_eq_true,List.all_eq_true,List.mem_range]at this;have:=this.2 j hj;rw[h2]at this;simpa using(by simpa using this:j=i).symm
 ·intro i o ho j d hj hd hl
  have:=(H i o ho).1.1.2 j (by
   rw[List.mem_filter];refine⟨List.mem_range.2 hj,?_⟩;rw[hd]
   simpa using hl)
  simpa using this
 ·intro i o ho j hj;have:=(H i o ho).1.2 j hj;simp only[Bool.and_eq_true,decide_eq_true_eq]at this;obtain⟨⟨h1,h2⟩,h3⟩:=this;rw[Array.any_eq_true']at h3;obtain⟨e,he,hb⟩:=h3;simp only[Bool.and_eq_true,beq_iff_eq]at hb;exact⟨h1,Option.isSome_iff_exists.1 h2,e,he,hb.1,hb.2⟩
 ·intro i o ho e he hb;have:=(H i o ho).2;rw[Array.all_eq_true']at this;have:=this e he;rw[hb]at this;simpa using this
def qD4 (P:Program) (ops:Array Oper) (a0:Act) (w:World) (dsts:List (Option Tmp)) (Φs:List (MPredR R)) (PΦ:List PanicEntry→World→Prop) (deps:List Nat) (i:Nat) (o:Oper):Prop:=
 ∀(x:Nat→Value) (W:World),R.r w W→qB6 Φs x W deps→
  if Region.wanted o (yielded ops (fA0 dsts x deps a0).tmps)then
   ∀K:Act→World→Prop,(∀v W',R.r W W'→(Φs.getD i MPredR.any).p v W'→K ((fA0 dsts x deps a0).put o.dst v) W')→
    o.wp P (fA0 dsts x deps a0) W K (fun e _ W'=>∃ch,e= .panic ch∧R.r w W'∧PΦ ch W')
  else(Φs.getD i MPredR.any).p undef W
def qBc (P:Program) (ops:Array Oper) (a0:Act) (w:World) (dsts:List (Option Tmp)) (Φs:List (MPredR R)) (PΦ:List PanicEntry→World→Prop):List Oper→List (List Nat)→Nat→Prop
 | [],_,_=>True
 | o::os,[],i=>False
 | o::os,d::ds,i=>qD4 P ops a0 w dsts Φs PΦ d i o∧qBc P ops a0 w dsts Φs PΦ os ds (i+1)
theorem qF1 {a0:Act} {w:World}:∀{os:List Oper} {deps:List (List Nat)} {k:Nat},qBc P ops a0 w dsts Φs PΦ os deps k→∀i o,os[i]? =some o→qD4 P ops a0 w dsts Φs PΦ (deps.getD i []) (k+i) o
 | [],_,_,_,i,o,ho=>by simp at ho
 | o'::os,[],k,h,i,o,ho=>h.elim
 | o'::os,d::ds,k,h,0,o,ho=>by
  simp only[List.getElem?_cons_zero,Option.some.injEq]at ho;subst ho;exact h.1
 | o'::os,d::ds,k,h,i+1,o,ho=>by
  have:=qF1 h.2 i o (by simpa using ho);rw[show k+1+i=k+(i+1)by omega]at this;simpa using this
theorem qAs (a:Act) (dst:Option Tmp) (v:Value) (t:Tmp):(a.put dst v).tmps[t]? =if dst=some t∧t<a.tmps.size then some v else a.tmps[t]? :=by
 cases dst with
 | none=>simp[Act.put]
 | some d=>
  simp only[Act.put,Array.getElem?_setIfInBounds,Option.some.injEq]
  by_cases h:d=t
  ·subst h
   by_cases h2:d<a.tmps.size
   ·simp[h2]
   ·simp[h2]
  ·simp[h]
theorem qD5 (a:Act) (dst:Option Tmp) (v:Value):(a.put dst v).tmps.size =a.tmps.size:=by cases dst<;>simp[Act.put]
theorem qBK (a:Act) (dst:Option Tmp) (v:Value):(a.put dst v).defers =a.defers:=by cases dst<;>rfl
theorem qBE (x:Nat→Value):∀(js:List Nat) (a:Act),(fA0 dsts x js a).tmps.size =a.tmps.size
 | [],a=>rfl
 | j::js,a=>by rw[fA0,qBE x js,qD5]
theorem qBY (x:Nat→Value):∀(js:List Nat) (a:Act),(fA0 dsts x js a).defers =a.defers
 | [],a=>rfl
 | j::js,a=>by rw[fA0,qBY x js,qBK]
theorem qBb (x:Nat→Value) (t:Tmp):∀(js:List Nat) (a:Act),(∀j∈js,dsts.getD j none≠some t)→(fA0 dsts x js a).tmps[t]? =a.tmps[t]?
 | [],a,_=>rfl
 | j::js,a,h=>by
  rw[fA0,qBb x t js _ fun k hk=>h k (by simp[hk]),qAs,if_neg fun hh=>h j (by simp) hh.1]
theorem qCO (x:Nat→Value) (t:Tmp) (j0:Nat) (hd:dsts.getD j0 none=some t):∀(js:List Nat) (a:Act),t<a.tmps.size→(∀j∈js,dsts.getD j none=some t→j=j0)→(a.tmps[t]? =some (x j0)∨j0∈js)→(fA0 dsts x js a).tmps[t]? =some (x j0)
 | [],a,_,_,h=>by
  rcases h with h|h
  ·exact h
  ·simp at h
 | j::js,a,ht,hu,h=>by
  rw[fA0];refine qCO x t j0 hd js _ (by rw[qD5];exact ht) (fun k hk=>hu k (by simp[hk])) ?_
  by_cases hj:j=j0
  ·subst hj
   left
   rw[qAs,if_pos ⟨hd,ht⟩]
  ·rcases h with h|h
   ·left
    rw[qAs,if_neg fun hh=>hj (hu j (by simp) hh.1)];exact h
   ·rcases List.mem_cons.1 h with h|h
    ·exact absurd h.symm hj
    ·exact .inr h
structure MInv (ops:Array Oper) (a0:Act) (w:World) (dsts:List (Option Tmp)) (Φs:List (MPredR R)) (m:Nat) (listed:Array Bool) (x:Nat→Value) (a:Act) (W:World):Prop where
 ls:listed.size=ops.size
 size:a.tmps.size=a0.tmps.size
 defers:a.defers=a0.defers
 done:∀j d,j<m→listed.getD j true=true→dsts.getD j none=some d→a.tmps[d]? =some (x j)
 rest:∀t,(∀j,j<m→listed.getD j true=true→dsts.getD j none≠some t)→a.tmps[t]? =a0.tmps[t]?
 fact:∀j,j<m→listed.getD j true=true→fact Φs x W j
 tail:m<ops.size→listed.getD m true=false
 le:R.r w W
 closed:∀(j:Nat) (o:Oper),ops[j]? =some o→listed.getD j true=true→∀e∈o.after,Region.binds .any e=true→listed.getD e.on true=true
theorem qBt {p q:Nat→Bool}:∀{l:List Nat},(∀j∈l,q j=true→p j=true)→∀i∈l,p i=true→q i=false→l.countP q<l.countP p
 | [],_,i,hi,_,_=>by simp at hi
 | j::l,h,i,hi,h1,h2=>by
  have hle:∀{l:List Nat},(∀j∈l,q j=true→p j=true)→l.countP q≤l.countP p:=fun h=>List.countP_mono_left h
  rcases List.mem_cons.1 hi with rfl|hi
  ·rw[List.countP_cons,List.countP_cons,h1,h2];have:=hle (l:=l) fun k hk=>h k (by simp[hk]);simp;omega
  ·have:=qBt (fun k hk=>h k (by simp[hk])) i hi h1 h2;rw[List.countP_cons,List.countP_cons];have h3:=h j (by simp)
   by_cases h4:q j=true
   ·rw[h4,h3 h4];simp;omega
   ·simp[h4];split<;>omega
theorem qMN {o:Oper} {a b:Act} {W w:World} {K:Act→World→Prop} {Q:Exit→Act→World→Prop} (hab:a.defers=b.defers) (hsz:a.tmps.size=b.tmps.size) (hin:∀d,o.dst=some d→d<b.tmps.size) {φ :Value→World→Prop} (r:Result Next)
  (hK:∀v W',R.r W W'→ φ v W'→K (a.put o.dst v) W') (hQ:∀ch W',R.r w W'→PΦ ch W'→Q (.panic ch) a W')
  (h:o.upon P b (fun a' W'=>a'.defers=b.defers∧R.r W W'∧(∀d,o.dst=some d→∃v,a'.tmps[d]? =some v∧ φ v W')∧(o.dst=none→∃v,φ v W')) (fun e _ W'=>∃ch,e= .panic ch∧R.r w W'∧PΦ ch W') r):o.upon P a K Q r:=by
 have hput:∀v W',((b.put o.dst v).defers =b.defers∧R.r W W'∧(∀d,o.dst=some d→∃u,(b.put o.dst v).tmps[d]? =some u∧ φ u W')∧(o.dst=none→∃v,φ v W'))→K (a.put o.dst v) W':=by
  rintro v W' ⟨-,h2,h3,h4⟩
  cases hd:o.dst with
  | none=>
   obtain⟨u,hu⟩:=h4 hd;have:=hK u W' h2 hu;rw[hd]at this;exact this
  | some d=>
   rw[←hd];refine hK v W' h2 ?_;obtain⟨u,hu,hp⟩:=h3 d hd;rw[qAs,if_pos ⟨hd,hin d hd⟩]at hu
   cases hu
   exact hp
 cases r with
 | ok n w'=>
  cases n<;>simp only[Oper.upon]at h ⊢
  case value v=>exact hput _ _ h
  case skip=>exact hput _ _ h
  case defer d=>
   have:=h.1;rw[qBK]at this;simp at this
  case enter f args=>
   refine Calls.mono h fun e w'' he=>?_
   cases e with
   | returned v=>exact hput _ _ he
   | panicked ch=>
    obtain⟨ch',e1,h1,h2⟩:=he
    cases e1
    exact hQ _ _ h1 h2
   | outgrown=>
    obtain⟨_,_,ch',e1,_⟩:=he
    cases e1
  case row row args=>exact Rows.mono h fun v w'' he=>hput _ _ he
 | halt x w'=>
  cases x<;>simp only[Oper.upon]at h ⊢
  case panic v=>
   obtain⟨ch',e1,h1,h2⟩:=h
   cases e1
   exact hQ _ _ h1 h2
structure TailOk (ops:Array Oper) (m:Nat):Prop where
 le:m≤ops.size
 one:ops.size≤m+1
 sink:m<ops.size→∀i,i<m→∃j o,j≤m∧i<j∧ops[j]? =some o∧∃e∈o.after,Region.binds .any e=true∧e.on=i
def qDV (ops:Array Oper) (m:Nat):Bool:=
 decide (m≤ops.size)&&decide (ops.size≤m+1)&&(decide (m=ops.size)||(List.range m).all fun i=>(List.range (m+1)).any fun j=>decide (i<j)&&match ops[j]? with |some o=>o.after.any fun e=>Region.binds .any e&&e.on==i|none=>false)
theorem qG7 {m:Nat} (h:qDV ops m=true):TailOk ops m:=by
 unfold qDV at h;simp only[Bool.and_eq_true,decide_eq_true_eq]at h;obtain⟨⟨h1,h2⟩,h3⟩:=h;refine⟨h1,h2,fun hlt i hi=>?_⟩;rw[decide_eq_false (by omega:¬m=ops.size),Bool.false_or,List.all_eq_true]at h3;have h4:=h3 i (List.mem_range.2 hi);rw[List.any_eq_true]at h4;obtain⟨j,hj,hc⟩:=h4;simp only[Bool.and_eq_true,decide_eq_true_eq]at hc;obtain⟨hij,hc⟩:=hc;have hjm:=List.mem_range.1 hj;refine⟨j,ops[j]'(by omega),by omega,hij,Array.getElem?_eq_getElem _,?_⟩;rw[Array.getElem?_eq_getElem (by omega)]at hc;simp only[Array.any_eq_true']at hc;obtain⟨e,he,hb⟩:=hc;simp only[Bool.and_eq_true,beq_iff_eq]at hb;exact⟨e,he,hb.1,hb.2⟩
theorem qNY {a0:Act} {w:World} {Q:Exit→Act→World→Prop} {deps:List (List Nat)} {m:Nat} (ok:MonoOk ops a0.tmps.size dsts deps) (tl:TailOk ops m)
  (hsteps:∀(i:Nat) (o:Oper),i<m→ops[i]? =some o→qD4 P ops a0 w dsts Φs PΦ (deps.getD i []) i o)
  (hpan:∀(a:Act) ch W,a.defers=a0.defers→R.r w W→PΦ ch W→Q (.panic ch) a W)
  (hend:∀x W,R.r w W→(∀j,j<m→fact Φs x W j)→if m<ops.size then stOp P ops Q m (Q .normal) (fA0 dsts x (List.range m) a0) W else Q .normal (fA0 dsts x (List.range m) a0) W):
  ∀(fuel:Nat) (listed:Array Bool) (x:Nat→Value) (a:Act) (W:World),MInv ops a0 w dsts Φs m listed x a W→(List.range ops.size).countP (fun i=> !listed.getD i true)≤fuel→qBa P .any ops Q fuel listed a W:=by
 intro fuel
 have hfin:∀(listed:Array Bool) (x:Nat→Value) (a:Act) (W:World),MInv ops a0 w dsts Φs m listed x a W→(∀j,j<m→listed.getD j true=true)→a=fA0 dsts x (List.range m) a0:=by
  intro listed x a W inv hall;have h1:a.defers=(fA0 dsts x (List.range m) a0).defers :=by rw[qBY,inv.defers]
  have h2:a.tmps=(fA0 dsts x (List.range m) a0).tmps :=by
   refine Array.ext_getElem? fun t=>?_
   by_cases ht:∃j,j<m∧dsts.getD j none=some t
   ·obtain⟨j,hj,hd⟩:=ht;have hjs:j<ops.size:=Nat.lt_of_lt_of_le hj tl.le;rw[inv.done j t hj (hall j hj) hd,qCO x t j hd]
    ·obtain⟨o,ho⟩:∃o,ops[j]? =some o:=⟨ops[j],Array.getElem?_eq_getElem hjs⟩;exact ok.inn j o t ho ((ok.dst j o ho).trans hd)
    ·exact fun k hk hkd=>ok.one k j t (Nat.lt_of_lt_of_le (List.mem_range.1 hk) tl.le) hjs hkd hd
    ·exact .inr (List.mem_range.2 hj)
   ·rw[inv.rest t fun j hj _ hd=>ht ⟨j,hj,hd⟩,qBb x t _ _ fun j hj hd=>ht ⟨j,List.mem_range.1 hj,hd⟩]
  obtain⟨at1,ad1⟩:=a;simp only at h1 h2;generalize fA0 dsts x (List.range m) a0=f at h1 h2;obtain⟨ft,fd⟩:=f;simp only at h1 h2;rw[h1,h2]
 have hgetD:∀(listed:Array Bool) j,listed.size=ops.size→j<ops.size→listed.getD j false=listed.getD j true:=by
  intro listed j hls hj;have hs:j<listed.size:=by omega
  simp only[Array.getD_eq_getD_getElem?,Array.getElem?_eq_getElem hs,Option.getD_some]
 have hready:∀(listed:Array Bool),listed.size=ops.size→Region.ready .any ops listed=[]→∀j,j<ops.size→listed.getD j true=true:=by
  intro listed hls hr j
  induction j using Nat.strongRecOn with
  | ind j ih=>
   intro hj
   cases hlj:listed.getD j true with
   | true=>rfl
   | false=>
    have:j∈Region.ready .any ops listed:=by
     rw[mem_ready];refine⟨hlj,ops[j],Array.getElem?_eq_getElem hj,fun e he hb=>?_⟩;have hlt:=ok.back j ops[j] (Array.getElem?_eq_getElem hj) e he hb;rw[hgetD _ _ hls (by omega)];exact ih e.on hlt (by omega)
    rw[hr]at this;simp at this
 have hnone:∀(listed:Array Bool),(∀j,j<ops.size→listed.getD j true=true)→Region.ready .any ops listed=[]:=by
  intro listed hall;refine List.eq_nil_iff_forall_not_mem.2 fun j hj=>?_;obtain⟨h1,o,ho,_⟩:=mem_ready.1 hj;rw[hall j (gsl ho)]at h1
  cases h1
 have hover:∀(fuel:Nat) (listed:Array Bool) (a:Act) (W:World),(∀j,j<ops.size→listed.getD j true=true)→Q .normal a W→qBa P .any ops Q fuel listed a W:=by
  intro fuel listed a W hall hq
  cases fuel with
  | zero=>exact⟨hnone _ hall,hq⟩
  | succ fuel=>exact⟨fun _=>hq,fun i hi=>by rw[hnone _ hall]at hi;simp at hi⟩
 have hset:∀(listed:Array Bool) i j,i<listed.size→(listed.setIfInBounds i true).getD j true=if i=j then true else listed.getD j true:=by
  intro listed i j hi;simp only[Array.getD_eq_getD_getElem?,Array.getElem?_setIfInBounds]
  by_cases h:i=j
  ·subst h;simp[hi]
  ·simp[h]
 -- all of the head is there
 have hdone:∀(listed:Array Bool) (x:Nat→Value) (a:Act) (W:World),MInv ops a0 w dsts Φs m listed x a W→(∀j,j<m→listed.getD j true=true)→if m<ops.size then stOp P ops Q m (Q .normal) a W else Q .normal a W:=by
  intro listed x a W inv hall;rw[hfin _ _ _ _ inv hall];exact hend x W inv.le fun j hj=>inv.fact j hj (hall j hj)
 induction fuel with
 | zero=>
  intro listed x a W inv hc
  have hall:∀j,j<ops.size→listed.getD j true=true:=fun j hj=>by
   have h0:(List.range ops.size).countP (fun i=> !listed.getD i true)=0:=by omega
   rw[List.countP_eq_zero]at h0;simpa using h0 j (List.mem_range.2 hj)
  have h:=hdone _ _ _ _ inv fun j hj=>hall j (Nat.lt_of_lt_of_le hj tl.le)
  by_cases hm:m<ops.size
  ·have:=hall m hm;rw[inv.tail hm]at this
   cases this
  ·rw[if_neg hm]at h;exact hover 0 _ _ _ hall h
 | succ fuel ih=>
  intro listed x a W inv hc;refine⟨fun hr=>?_,fun i hi=>?_⟩
  ·have hall:=hready listed inv.ls hr;have h:=hdone _ _ _ _ inv fun j hj=>hall j (Nat.lt_of_lt_of_le hj tl.le)
   by_cases hm:m<ops.size
   ·have:=hall m hm;rw[inv.tail hm]at this
    cases this
   ·rw[if_neg hm]at h;exact h
  ·obtain⟨hun,o,ho,hafter⟩:=mem_ready.1 hi;have hin:i<ops.size:=(gsl ho);have hils:i<listed.size:=by rw[inv.ls];exact hin
   have hod:=ok.dst i o ho
   by_cases him:i<m
   ·-- the results that o looks at are there
    have hdl:∀j∈deps.getD i [],j<m∧listed.getD j true=true∧∃d,dsts.getD j none=some d:=fun j hj=>by
     obtain⟨hjs,hd,e,he,hb,hon⟩:=ok.dep i o ho j hj;have h1:=hafter e he hb;have h2:=ok.back i o ho e he hb;rw[hon]at h1 h2;rw[hgetD _ _ inv.ls hjs]at h1;exact⟨by omega,h1,hd⟩
    have hfacts:qB6 Φs x W (deps.getD i []):=qDU fun j hj=>by
     obtain⟨h1,h2,d,hd⟩:=hdl j hj;exact inv.fact j h1 h2
    have hstep:=hsteps i o him ho x W inv.le hfacts
    -- a and the act that is filled agree where o looks
    have hsame:∀t∈o.looksAt ops,(fA0 dsts x (deps.getD i []) a0).tmps[t]? =a.tmps[t]? :=by
     intro t ht
     by_cases htd:∃j,j<ops.size∧dsts.getD j none=some t
     ·obtain⟨j,hj,hd⟩:=htd;have hjd:=ok.looks i o ho j t hj hd ht;obtain⟨h1,h2,_⟩:=hdl j hjd;rw[inv.done j t h1 h2 hd,qCO x t j hd]
      ·obtain⟨oj,hoj⟩:∃oj,ops[j]? =some oj:=⟨ops[j],Array.getElem?_eq_getElem hj⟩;exact ok.inn j oj t hoj ((ok.dst j oj hoj).trans hd)
      ·exact fun k hk hkd=>ok.one k j t (ok.dep i o ho k hk).1 hj hkd hd
      ·exact .inr hjd
     ·rw[qBb x t _ _ fun j hj hd=>htd ⟨j,(ok.dep i o ho j hj).1,hd⟩,inv.rest t fun j hj _ hd=>htd ⟨j,Nat.lt_of_lt_of_le hj tl.le,hd⟩]
    have heval:execOp a.eval o=execOp (fA0 dsts x (deps.getD i []) a0).eval o:=execOp_congr o (ok.sel i o ho) fun z hz=>by
     cases z with
     | tmp t=>
      have:=hsame t (List.mem_append_left _ (List.mem_filterMap.2 ⟨.tmp t,by simpa using hz,rfl⟩));simp only[Act.eval,Array.getD_eq_getD_getElem?,this]
     | const v=>rfl
     | global g=>rfl
     | func f=>rfl
    have hwant:Region.wanted o (yielded ops a.tmps)=Region.wanted o (yielded ops (fA0 dsts x (deps.getD i []) a0).tmps):=by
     unfold Region.wanted
     cases hg:o.guard with
     | none=>rfl
     | some gw=>
      obtain⟨g,want⟩:=gw
      have hy:yielded ops a.tmps g=yielded ops (fA0 dsts x (deps.getD i []) a0).tmps g:=by
       unfold yielded
       cases ht:(ops[g]?).bind (·.dst)with
       | none=>rfl
       | some t=>
        have:=hsame t (by simp[Oper.looksAt,hg,ht]);simp only[Option.bind_some,this]
      simp only[hy]
    -- what comes next
    have hnext:∀v W',R.r W W'→(Φs.getD i MPredR.any).p v W'→qBa P .any ops Q fuel (listed.setIfInBounds i true) (a.put o.dst v) W':=by
     intro v W' hle hv;refine ih (listed.setIfInBounds i true) (fun j=>if j=i then v else x j) _ _ ?_ ?_
     ·refine⟨by simp[inv.ls],by rw[qD5,inv.size],by rw[qBK,inv.defers],?_,?_,?_,?_,R.trans inv.le hle,?_⟩
      ·intro j d hj hl hd
       by_cases hji:j=i
       ·subst hji;have hdo:o.dst=some d:=hod.trans hd;rw[qAs,if_pos ⟨hdo,by rw[inv.size];exact ok.inn j o d ho hdo⟩,if_pos rfl]
       ·rw[hset _ _ _ hils,if_neg (Ne.symm hji)]at hl;rw[qAs,if_neg,if_neg hji]
        ·exact inv.done j d hj hl hd
        ·rintro⟨h1,_⟩;exact hji (ok.one j i d (Nat.lt_of_lt_of_le hj tl.le) hin hd (hod.symm.trans h1))
      ·intro t ht
       have hne:o.dst≠some t:=by
        intro h1;refine ht i him ?_ (hod.symm.trans h1);rw[hset _ _ _ hils,if_pos rfl]
       rw[qAs,if_neg fun h1=>hne h1.1];refine inv.rest t fun j hj hl=>ht j hj ?_;rw[hset _ _ _ hils]
       split
       ·rfl
       ·exact hl
      ·intro j hj hl
       by_cases hji:j=i
       ·subst hji;unfold Proofs.YtenjpccpldajoaaGreatDoor.fact;simp only[if_true];exact hv
       ·rw[hset _ _ _ hils,if_neg (Ne.symm hji)]at hl;have:=(inv.fact j hj hl).le hle;unfold Proofs.YtenjpccpldajoaaGreatDoor.fact at this ⊢;simp only[if_neg hji];exact this
      ·intro hm;rw[hset _ _ _ hils,if_neg (by omega)];exact inv.tail hm
      ·intro j oj hoj hl e he hb;rw[hset _ _ _ hils]
       by_cases hji:j=i
       ·subst hji;rw[ho]at hoj
        cases hoj
        split
        ·rfl
        ·rw[←hgetD _ _ inv.ls]
         ·exact hafter e he hb
         ·have:=ok.back j o ho e he hb;omega
       ·rw[hset _ _ _ hils,if_neg (Ne.symm hji)]at hl
        split
        ·rfl
        ·exact inv.closed j oj hoj hl e he hb
     ·refine Nat.le_of_lt_succ (Nat.lt_of_lt_of_le (qBt (fun j hj hq=>?_) i (List.mem_range.2 hin) ?_ ?_) hc)
      ·rw[hset _ _ _ hils]at hq
       by_cases hij:i=j
       ·simp[hij]at hq
       ·simpa[hij]using hq
      ·rw[hun];rfl
      ·rw[hset _ _ _ hils,if_pos rfl];rfl
    unfold stOp;simp only[ho];rw[hwant]
    by_cases hw:Region.wanted o (yielded ops (fA0 dsts x (deps.getD i []) a0).tmps)=true
    ·rw[if_pos hw]at hstep ⊢
     have hK:=hstep (fun a' W'=>a'.defers=(fA0 dsts x (deps.getD i []) a0).defers ∧R.r W W'∧(∀d,o.dst=some d→∃v,a'.tmps[d]? =some v∧(Φs.getD i MPredR.any).p v W')∧(o.dst=none→∃v,(Φs.getD i MPredR.any).p v W')) fun v W' hle hv=>
      ⟨qBK _ _ _,hle,fun d hd=>⟨v,by rw[qAs,if_pos ⟨hd,by rw[qBE];exact ok.inn i o d ho hd⟩],hv⟩,fun _=>⟨v,hv⟩⟩
     unfold Oper.wp at hK ⊢;rw[heval];refine qMN (PΦ:=PΦ) (w:=w) (by rw[qBY,inv.defers]) (by rw[qBE,inv.size]) (fun d hd=>by rw[qBE];exact ok.inn i o d ho hd) _ hnext ?_ hK;intro ch W' h1 h2;exact hpan _ _ _ inv.defers h1 h2
    ·rw[if_neg hw]at hstep ⊢;exact hnext undef W (R.refl W) hstep
   ·-- the tail
    have him2:i=m:=by have:=tl.one;omega
    subst him2
    have hall:∀k j,j<i→i - j≤k→listed.getD j true=true:=by
     intro k
     induction k with
     | zero=>intro j h1 h2;omega
     | succ k ihk=>
      intro j hj _;obtain⟨q,oq,hq1,hq2,hoq,e,he,hb,hon⟩:=tl.sink hin j hj
      by_cases hqi:q=i
      ·subst hqi;rw[ho]at hoq
       cases hoq
       have h1:=hafter e he hb;rw[hon,hgetD _ _ inv.ls (by omega)]at h1;exact h1
      ·have h1:=ihk q (by omega) (by omega);have h2:=inv.closed q oq hoq h1 e he hb;rw[hon]at h2;exact h2
    have hall':∀j,j<i→listed.getD j true=true:=fun j hj=>hall (i - j) j hj (Nat.le_refl _);have h:=hdone _ _ _ _ inv hall';rw[if_pos hin]at h;refine qCI (fun a' W' hq=>hover fuel _ _ _ (fun j hj=>?_) hq) h;rw[hset _ _ _ hils]
    split
    ·rfl
    ·exact hall' j (by have:=tl.one;omega)
theorem qIp {a0:Act} {w:World} {m:Nat} (x:Nat→Value) {W:World} (hle:R.r w W) (tl:TailOk ops m):MInv ops a0 w dsts Φs m (Array.replicate ops.size false) x a0 W:=by
 have h:∀j,j<ops.size→(Array.replicate ops.size false).getD j true=false:=fun j hj=>by
  simp[Array.getD_eq_getD_getElem?,hj]
 refine⟨by simp,rfl,rfl,fun j d hj hl=>?_,fun t _=>rfl,fun j hj hl=>?_,fun hm=>h m hm,hle,fun j o hoj hl=>?_⟩
 ·rw[h j (Nat.lt_of_lt_of_le hj tl.le)]at hl;cases hl
 ·rw[h j (Nat.lt_of_lt_of_le hj tl.le)]at hl;cases hl
 ·rw[h j (gsl hoj)]at hl;cases hl
theorem qEv {a0:Act} {w:World} {Q:Exit→Act→World→Prop} {os:List Oper} (m:Nat) (dsts:List (Option Tmp)) (deps:List (List Nat)) (Φs:List (MPredR R)) (PΦ:List PanicEntry→World→Prop)
  (hm:P.follows .mixedOrders =true) (hB:qCh os.toArray a0.tmps.size dsts deps=true) (hT:qDV os.toArray m=true)
  (hsteps:qBc P os.toArray a0 w dsts Φs PΦ (os.take m) (deps.take m) 0)
  (hpan:∀(a:Act) ch W,a.defers=a0.defers→R.r w W→PΦ ch W→Q (.panic ch) a W)
  (hend:∀x W,R.r w W→(∀j,j<m→fact Φs x W j)→qET P Q (fA0 dsts x (List.range m) a0) W (os.drop m)):
  qBa P .any os.toArray Q os.toArray.size (Array.replicate os.toArray.size false) a0 {w with drawn:=w.drawn+1}:=by
 have ok:=qG6 hB;have tl:=qG7 hT;refine(qNY (Φs:=Φs) ok tl (fun i o hi ho=>?_) hpan (fun x W hle hf=>?_) _ _ (fun _=>undef) _ _ (qIp _ (R.drew _) tl) ?_)
 ·have hos:(os.take m)[i]? =some o:=by rw[List.getElem?_take,if_pos hi];simpa using ho
  have:=qF1 hsteps i o hos;rw[Nat.zero_add]at this;have e:(deps.take m).getD i []=deps.getD i []:=by simp[List.getD_eq_getElem?_getD,hi]
  rwa[e]at this
 ·have h:=hend x W hle hf
  by_cases hmm:m<os.toArray.size
  ·rw[if_pos hmm];have hml:m<os.length:=by simpa using hmm
   rw[List.drop_eq_getElem_cons hml]at h;unfold stOp;simp only[List.getElem?_toArray,List.getElem?_eq_getElem hml];have hw:Region.wanted os[m] (yielded os.toArray (fA0 dsts x (List.range m) a0).tmps)=true:=by unfold Region.wanted;rw[h.1]
   rw[if_pos hw];exact h.2
  ·rw[if_neg hmm];rw[List.drop_eq_nil_of_le (by simpa using hmm)]at h;exact h
 ·exact Nat.le_trans List.countP_le_length (by simp)
theorem qHv {id:Nat} {a0:Act} {w:World} {Q:Exit→Act→World→Prop} {os:List Oper} (m:Nat) (dsts:List (Option Tmp)) (deps:List (List Nat)) (Φs:List (MPredR R)) (PΦ:List PanicEntry→World→Prop)
  (hm:P.follows .mixedOrders =true) (hB:qCh os.toArray a0.tmps.size dsts deps=true) (hT:qDV os.toArray m=true)
  (hsteps:qBc P os.toArray a0 w dsts Φs PΦ (os.take m) (deps.take m) 0)
  (hpan:∀(a:Act) ch W,a.defers=a0.defers→R.r w W→PΦ ch W→Q (.panic ch) a W)
  (hend:∀x W,R.r w W→(∀j,j<m→fact Φs x W j)→qET P Q (fA0 dsts x (List.range m) a0) W (os.drop m)):
  (Code.region id os.toArray true).wp P Q a0 w:=
 wp_region_any hm (qCs _ _ _ _ (qEv m dsts deps Φs PΦ hm hB hT hsteps hpan hend))
end
end Go.Proofs.YtenjpccpldajoaaGreatDoor
namespace Go.Proofs.YtenjpccpldajoaaGreatDoor
set_option maxRecDepth 100000
open Go.RowKit Go.Shelf
set_option linter.unusedVariables false
section
variable {P:Program} {ops:Array Oper} {md:Region.Mode} {l n:Nat}
theorem qKL {o:Oper} {a:Act} {K:Act→World→Prop} {Q:Exit→Act→World→Prop} {w:World} (hnd:∀c,o.op≠ .defer c) (hh:o.wp P a w K Q):o.wpIn (Fence.wide.inRound l) n P a w K Q:=by
 unfold Oper.wp at hh;unfold Oper.wpIn;refine⟨fun _ _=>trivial,?_⟩;rw[show(Fence.wide.inRound l).round =some l from rfl,Oper.semAt_some _ _ _ hnd];generalize (execOp a.eval o).run P w=r at*
 cases r with
 | ok x w'=>
  cases x<;>simp only[Oper.upon]at hh<;>simp only[Oper.uponIn]
  case value u=>exact hh
  case skip=>exact hh
  case defer d=>exact hh
  case enter f args=>exact⟨(fun hd=>by cases hd),CallsIn.inRound l (callsIn_wide.2 hh)⟩
  case row row args=>exact⟨(fun hd=>by cases hd),fun c cs _=>let ⟨v,w2,r,s⟩:=hh c cs;⟨v,w2,r,stepsIn_wide.2 s⟩⟩
 | halt x w'=>
  cases x<;>simp only[Oper.upon]at hh<;>simp only[Oper.uponIn]
  all_goals exact hh
theorem qD6 {Q:Exit→Act→World→Prop} (hnd:∀o∈ops,∀c,o.op≠ .defer c):∀(fuel:Nat) (listed:Array Bool) (a:Act) (w:World),qBa P md ops Q fuel listed a w→wpAnyIn (Fence.wide.inRound l) n P md ops Q fuel listed a w
 | 0,_,_,_,h=>h
 | fuel+1,listed,a,w,h=>⟨h.1,fun i hi=>by
   have h2:=qCI (fun a' w'=>qD6 hnd fuel _ a' w') (h.2 i hi);unfold stOp at h2;unfold wpOpIn
   split
   ·rename_i ho;simp only[ho]at h2;exact h2
   ·rename_i o ho;simp only[ho]at h2
    split
    ·rename_i hw;simp only[hw,if_true]at h2;exact qKL (hnd o (Array.mem_of_getElem? ho)) h2
    ·rename_i hw;simp only[hw]at h2;exact⟨fun _ _=>trivial,h2⟩⟩
theorem qHI {R:WRel} {id:Nat} {a0:Act} {w:World} {Q:Exit→Act→World→Prop} {os:List Oper} (m:Nat) (dsts:List (Option Tmp)) (deps:List (List Nat)) (Φs:List (MPredR R)) (PΦ:List PanicEntry→World→Prop)
  (hm:P.follows .mixedOrders =true) (hB:qCh os.toArray a0.tmps.size dsts deps=true) (hT:qDV os.toArray m=true) (hnd:qGG os=true)
  (hsteps:qBc P os.toArray a0 w dsts Φs PΦ (os.take m) (deps.take m) 0)
  (hpan:∀(a:Act) ch W,a.defers=a0.defers→R.r w W→PΦ ch W→Q (.panic ch) a W)
  (hend:∀x W,R.r w W→(∀j,j<m→fact Φs x W j)→qET P Q (fA0 dsts x (List.range m) a0) W (os.drop m)):
  (Code.region id os.toArray true).wpIn (Fence.wide.inRound l) n P Q a0 w:=
 wpIn_region_any hm (qD6 (qFb hnd) _ _ _ _ (qEv m dsts deps Φs PΦ hm hB hT hsteps hpan hend))
theorem qDW {o:Oper} {a:Act} {K K':Act→World→Prop} {Q Q':Exit→Act→World→Prop} (hK:∀a w,K a w→K' a w) (hQ:∀e a w,Q e a w→e≠ .normal →Q' e a w) (r:Result Next) (h:o.upon P a K Q r):o.upon P a K' Q' r:=by
 have hL:LetsOut Q→LetsOut Q':=fun⟨a,w,h⟩=>⟨a,w,hQ _ _ _ h (by simp)⟩
 cases r with
 | ok x w'=>
  cases x<;>simp only[Oper.upon]at h ⊢
  case value v=>exact hK _ _ h
  case skip=>exact hK _ _ h
  case defer d=>exact hK _ _ h
  case enter f args=>
   refine Calls.mono h fun e w'' he=>?_
   cases e with
   | returned v=>exact hK _ _ he
   | panicked ch=>exact hQ _ _ _ he (by simp)
   | outgrown=>exact hL he
  case row row args=>exact Rows.mono h fun v w'' he=>hK _ _ he
 | halt x w'=>
  cases x<;>simp only[Oper.upon]at h ⊢
  case panic v=>exact hQ _ _ _ h (by simp)
section
variable {R:WRel} {dsts:List (Option Tmp)} {Φs:List (MPredR R)} {PΦ:List PanicEntry→World→Prop}
theorem qAS {a0:Act} {w:World} {ds:List (List Nat)} {i:Nat}:qBc P ops a0 w dsts Φs PΦ [] ds i:=trivial
theorem mSc {a0:Act} {w:World} {o:Oper} {os:List Oper} {d:List Nat} {ds:List (List Nat)} {i:Nat} (h:qD4 P ops a0 w dsts Φs PΦ d i o) (h2:qBc P ops a0 w dsts Φs PΦ os ds (i+1)):qBc P ops a0 w dsts Φs PΦ (o::os) (d::ds) i:=⟨h,h2⟩
theorem mSl {a0:Act} {w:World} {o:Oper} {d:List Nat} {i:Nat} (hg:o.guard=none)
  (h:∀(x:Nat→Value) (W:World),R.r w W→qB6 Φs x W d→∀Q:Exit→Act→World→Prop,(∀v W',R.r W W'→(Φs.getD i MPredR.any).p v W'→Q .normal ((fA0 dsts x d a0).put o.dst v) W')→(∀ch a' W',R.r w W'→PΦ ch W'→Q (.panic ch) a' W')→
   wpList P ops Q [o] (fA0 dsts x d a0) W):qD4 P ops a0 w dsts Φs PΦ d i o:=by
 intro x W hR hf;have hw:Region.wanted o (yielded ops (fA0 dsts x d a0).tmps)=true:=by unfold Region.wanted;rw[hg]
 rw[if_pos hw];intro K hK;have h1:=h x W hR hf (fun e a' W'=>(e= .normal ∧K a' W')∨(∃ch,e= .panic ch∧R.r w W'∧PΦ ch W')) (fun v W' h2 h3=> .inl ⟨rfl,hK v W' h2 h3⟩) (fun ch a' W' h2 h3=> .inr ⟨ch,rfl,h2,h3⟩);unfold wpList at h1;rw[if_pos hw]at h1
 rcases h1 with h1| ⟨-,a',W',h1⟩
 ·refine qDW (fun a' w' h2=>?_) (fun e a' w' h2 hne=>?_) _ h1
  ·unfold wpList at h2
   rcases h2 with h2| ⟨ch,h2,-⟩
   ·exact h2.2
   ·cases h2
  ·rcases h2 with h2|h2
   ·exact absurd h2.1 hne
   ·exact h2
 ·rcases h1 with h1| ⟨ch,h1,-⟩
  ·cases h1.1
  ·cases h1
end
theorem qMO {o:Oper} {a:Act} {W:World} {Q:Exit→Act→World→Prop} (ops:Array Oper) (hg:o.guard=none)
  (h:∀Q':Exit→Act→World→Prop,(∀a W,Q .normal a W→Q' .normal a W)→(∀ch a W,Q (.panic ch) a W→Q' (.panic ch) a W)→wpList P ops Q' [o] a W):o.guard=none∧o.wp P a W (Q .normal) Q:=by
 refine⟨hg,?_⟩;have hw:Region.wanted o (yielded ops a.tmps)=true:=by unfold Region.wanted;rw[hg]
 have h1:=h (fun e a' W'=>(e= .normal ∧Q .normal a' W')∨(∃ch,e= .panic ch∧Q (.panic ch) a' W')) (fun a W h=> .inl ⟨rfl,h⟩) (fun ch a W h=> .inr ⟨ch,rfl,h⟩);unfold wpList at h1;rw[if_pos hw]at h1
 rcases h1 with h1| ⟨-,a',W',h1⟩
 ·refine qDW (fun a' w' h2=>?_) (fun e a' w' h2 hne=>?_) _ h1
  ·unfold wpList at h2
   rcases h2 with h2| ⟨ch,h2,-⟩
   ·exact h2.2
   ·cases h2
  ·rcases h2 with h2| ⟨ch,rfl,h2⟩
   ·exact absurd h2.1 hne
   ·exact h2
 ·rcases h1 with h1| ⟨ch,h1,-⟩
  ·cases h1.1
  ·cases h1
end
section
variable {P:Program} {l n:Nat} {R:WRel} {PΦ:List PanicEntry→World→Prop}
theorem qFG {a:Act} {W:World} {Q:Exit→Act→World→Prop} (ops:Array Oper) (os:List Oper) (hg:(os.all fun o=>o.guard.isNone)=true)
  (h:∀Q':Exit→Act→World→Prop,(∀a W,Q .normal a W→Q' .normal a W)→(∀ch a W,Q (.panic ch) a W→Q' (.panic ch) a W)→wpList P ops Q' os a W) (h1:os.length≤1):
  qET P Q a W os:=by
 cases os with
 | nil=>
  have:=h (fun e a' W'=>e= .normal ∧Q .normal a' W'∨∃ch,e= .panic ch∧Q (.panic ch) a' W') (fun a W h=> .inl ⟨rfl,h⟩) (fun ch a W h=> .inr ⟨ch,rfl,h⟩)
  rcases this with h2| ⟨ch,h2,-⟩
  ·exact h2.2
  ·cases h2
 | cons o r=>
  obtain rfl:r=[]:=by simpa using h1
  exact qMO ops (by simpa using hg) h
theorem qEH {ops:List Oper} {m:Nat} (hT:qDV ops.toArray m=true):(ops.drop m).length ≤1:=by
 have:=(qG7 hT).one;simp at this ⊢;omega
theorem qG8 {id:Nat} {a0:Act} {w:World} {Q:Exit→Act→World→Prop} {os:List Oper} (m:Nat) (dsts:List (Option Tmp)) (deps:List (List Nat)) (Φs:List (MPredR R)) (PΦ:List PanicEntry→World→Prop)
  (hm:P.follows .mixedOrders =true) (hB:qCh os.toArray a0.tmps.size dsts deps=true) (hT:qDV os.toArray m=true) (hnd:qGG os=true) (hg:((os.drop m).all fun o=>o.guard.isNone)=true)
  (hsteps:qBc P os.toArray a0 w dsts Φs PΦ (os.take m) (deps.take m) 0)
  (hpan:∀(a:Act) ch W,a.defers=a0.defers→R.r w W→PΦ ch W→Q (.panic ch) a W)
  (hend:∀x W,R.r w W→(∀j,j<m→fact Φs x W j)→∀Q':Exit→Act→World→Prop,(∀a W,Q .normal a W→Q' .normal a W)→(∀ch a W,Q (.panic ch) a W→Q' (.panic ch) a W)→wpList P os.toArray Q' (os.drop m) (fA0 dsts x (List.range m) a0) W):
  (Code.region id os.toArray true).wpIn (Fence.wide.inRound l) n P Q a0 w:=
 qHI m dsts deps Φs PΦ hm hB hT hnd hsteps hpan fun x W hR hf=>qFG _ _ hg (hend x W hR hf) (qEH hT)
theorem qAP {id:Nat} {a0:Act} {w:World} {Q:Exit→Act→World→Prop} {os:List Oper} (m:Nat) (dsts:List (Option Tmp)) (deps:List (List Nat)) (Φs:List (MPredR R)) (PΦ:List PanicEntry→World→Prop)
  (hm:P.follows .mixedOrders =true) (hB:qCh os.toArray a0.tmps.size dsts deps=true) (hT:qDV os.toArray m=true) (hg:((os.drop m).all fun o=>o.guard.isNone)=true)
  (hsteps:qBc P os.toArray a0 w dsts Φs PΦ (os.take m) (deps.take m) 0)
  (hpan:∀(a:Act) ch W,a.defers=a0.defers→R.r w W→PΦ ch W→Q (.panic ch) a W)
  (hend:∀x W,R.r w W→(∀j,j<m→fact Φs x W j)→∀Q':Exit→Act→World→Prop,(∀a W,Q .normal a W→Q' .normal a W)→(∀ch a W,Q (.panic ch) a W→Q' (.panic ch) a W)→wpList P os.toArray Q' (os.drop m) (fA0 dsts x (List.range m) a0) W):
  (Code.region id os.toArray true).wp P Q a0 w:=
 qHv m dsts deps Φs PΦ hm hB hT hsteps hpan fun x W hR hf=>qFG _ _ hg (hend x W hR hf) (qEH hT)
end
theorem qEC (w:World) (a:Addr) (v:Value):(w.setCell a v).setCell a v=w.setCell a v:=by
 unfold World.setCell
 congr 1
 apply Array.ext_getElem?;intro i;simp only[Array.getElem?_modify]
 split
 ·cases w.heap[i]? with
  | none=>rfl
  | some o=>
   cases hs:a.spot.isSome<;>cases o<;>simp
 ·rfl
def setRel (p:Addr) (v:Value):WRel where
 r w W:=∃n,W=w.drewN n∨W=(w.drewN n).setCell p v
 refl w:=⟨0,.inl rfl⟩
 drew w:=⟨1,.inl rfl⟩
 trans:=by
  rintro a b c ⟨n,h⟩ ⟨m,k⟩;refine⟨n+m,?_⟩;have e:(a.drewN n).drewN m=a.drewN (n+m):=by unfold World.drewN;simp[Nat.add_assoc]
  have e2:((a.drewN n).setCell p v).drewN m=(a.drewN (n+m)).setCell p v:=by rw[←e];rfl
  rcases h with rfl|rfl<;>rcases k with rfl|rfl
  ·exact .inl e
  ·exact .inr (by rw[e])
  ·exact .inr e2
  ·exact .inr (by rw[e2,qEC])
theorem setRel.other {p:Addr} {v:Value} {w W:World} (h:(setRel p v).r w W) {B i:Nat} (hB:B≠p.block):W.cell? ⟨B,i,none⟩=w.cell? ⟨B,i,none⟩:=by
 obtain⟨n,rfl|rfl⟩:=h
 ·rfl
 ·exact World.cell?_of_block (Below.heap_setCell _ _ _ _ hB)
def MPredR.stored (p:Addr) (v:Value) (w0:World):MPredR (setRel p v) where
 p _ W:=∃n,W=(w0.drewN n).setCell p v
 mono:=by
  rintro _ w w' h ⟨n,rfl⟩;obtain⟨m,h|h⟩:=(setRel p v).trans ⟨n,.inr rfl⟩ h
  ·obtain⟨k,rfl|rfl⟩:=(show∃k,w'=((w0.drewN n).setCell p v).drewN k∨w'=(((w0.drewN n).setCell p v).drewN k).setCell p v from by assumption)
   ·exact⟨n+k,by unfold World.drewN;simp[World.setCell,Nat.add_assoc]⟩
   ·exact⟨n+k,by rw[show((w0.drewN n).setCell p v).drewN k=(w0.drewN (n+k)).setCell p v from by unfold World.drewN;simp[World.setCell,Nat.add_assoc],qEC]⟩
  ·exact⟨m,h⟩
theorem qBu (w:World) (n m:Nat):(w.drewN n).drewN m=w.drewN (n+m):=by unfold World.drewN;simp[Nat.add_assoc]
theorem setRel.put (p:Addr) (v:Value) (W:World):(setRel p v).r W (W.setCell p v):=⟨0,.inr rfl⟩
theorem setRel.stored {p:Addr} {v:Value} {w0 W:World} (h:(setRel p v).r w0 W) {x:Value}:(MPredR.stored p v w0).p x (W.setCell p v):=by
 obtain⟨n,rfl|rfl⟩:=h
 ·exact⟨n,rfl⟩
 ·exact⟨n,by rw[qEC]⟩
theorem setRel.self {p:Addr} {v:Value} {w W:World} (h:(setRel p v).r w W) {u:Value} (hu:w.cell? p=some u):∃u',W.cell? p=some u':=by
 obtain⟨n,rfl|rfl⟩:=h
 ·exact⟨u,hu⟩
 ·obtain⟨u',hu'⟩:=cell?_setCell_some (w:=w.drewN n) (p:=p) (x:=v) (q:=p) (v:=u) hu;exact⟨u',hu'⟩
theorem setRel.selfFrozen {p:Addr} {v:Value} {w W:World} (h:(setRel p v).r w W) (hu:w.frozen? p=false):W.frozen? p=false:=by
 obtain⟨n,rfl|rfl⟩:=h
 ·exact hu
 ·have:((w.drewN n).setCell p v).frozen? p=(w.drewN n).frozen? p:=by simp[go_sem]
  rw[this];exact hu
end Go.Proofs.YtenjpccpldajoaaGreatDoor
namespace Go.Proofs.YtenjpccpldajoaaGreatDoor
set_option maxRecDepth 100000
open Go.RowKit Go.Shelf
set_option linter.unusedVariables false
section
variable {P:Program} {ops:Array Oper} {dsts:List (Option Tmp)} {PΦ:List PanicEntry→World→Prop}
def updV (x:Nat→Value) (i:Nat) (v:Value):Nat→Value:=fun j=>if j=i then v else x j
structure JInv (ops:Array Oper) (a0:Act) (dsts:List (Option Tmp)) (J:Array Bool→(Nat→Value)→World→Prop) (m:Nat) (listed:Array Bool) (x:Nat→Value) (a:Act) (W:World):Prop where
 ls:listed.size=ops.size
 size:a.tmps.size=a0.tmps.size
 defers:a.defers=a0.defers
 done:∀j d,j<m→listed.getD j true=true→dsts.getD j none=some d→a.tmps[d]? =some (x j)
 rest:∀t,(∀j,j<m→listed.getD j true=true→dsts.getD j none≠some t)→a.tmps[t]? =a0.tmps[t]?
 jay:J listed x W
 tail:m<ops.size→listed.getD m true=false
 closed:∀(j:Nat) (o:Oper),ops[j]? =some o→listed.getD j true=true→∀e∈o.after,Region.binds .any e=true→listed.getD e.on true=true
theorem qJL {o:Oper} {a b:Act} {K:Act→World→Prop} {Q:Exit→Act→World→Prop} (hab:a.defers=b.defers) (hsz:a.tmps.size=b.tmps.size) (hin:∀d,o.dst=some d→d<b.tmps.size) {φ :Value→World→Prop} (r:Result Next)
  (hK:∀v W',φ v W'→K (a.put o.dst v) W') (hQ:∀ch W',PΦ ch W'→Q (.panic ch) a W')
  (h:o.upon P b (fun a' W'=>a'.defers=b.defers∧∃v,(∀d,o.dst=some d→a'.tmps[d]? =some v)∧ φ v W') (fun e _ W'=>∃ch,e= .panic ch∧PΦ ch W') r):o.upon P a K Q r:=by
 have hput:∀v W',((b.put o.dst v).defers =b.defers∧∃u,(∀d,o.dst=some d→(b.put o.dst v).tmps[d]? =some u)∧ φ u W')→K (a.put o.dst v) W':=by
  rintro v W' ⟨-,u,h3,h4⟩
  cases hd:o.dst with
  | none=>
   have:=hK u W' h4;rw[hd]at this;exact this
  | some d=>
   rw[←hd];have hu:=h3 d hd;rw[qAs,if_pos ⟨hd,hin d hd⟩]at hu
   cases hu
   exact hK _ W' h4
 cases r with
 | ok n w'=>
  cases n<;>simp only[Oper.upon]at h ⊢
  case value v=>exact hput _ _ h
  case skip=>exact hput _ _ h
  case defer d=>
   have:=h.1;rw[qBK]at this;simp at this
  case enter f args=>
   refine Calls.mono h fun e w'' he=>?_
   cases e with
   | returned v=>exact hput _ _ he
   | panicked ch=>
    obtain⟨ch',e1,h2⟩:=he
    cases e1
    exact hQ _ _ h2
   | outgrown=>
    obtain⟨_,_,ch',e1,_⟩:=he
    cases e1
  case row row args=>exact Rows.mono h fun v w'' he=>hput _ _ he
 | halt x w'=>
  cases x<;>simp only[Oper.upon]at h ⊢
  case panic v=>
   obtain⟨ch',e1,h2⟩:=h
   cases e1
   exact hQ _ _ h2
def qLK (P:Program) (ops:Array Oper) (a0:Act) (dsts:List (Option Tmp)) (J:Array Bool→(Nat→Value)→World→Prop) (PΦ:List PanicEntry→World→Prop) (deps:List Nat) (i:Nat) (o:Oper):Prop:=
 ∀(listed:Array Bool) (x:Nat→Value) (W:World),listed.size=ops.size→listed.getD i true=false→(∀j∈deps,listed.getD j true=true)→J listed x W→
  if Region.wanted o (yielded ops (fA0 dsts x deps a0).tmps)then
   ∀K:Act→World→Prop,(∀v W',J (listed.setIfInBounds i true) (updV x i v) W'→K ((fA0 dsts x deps a0).put o.dst v) W')→
    o.wp P (fA0 dsts x deps a0) W K (fun e _ W'=>∃ch,e= .panic ch∧PΦ ch W')
  else J (listed.setIfInBounds i true) (updV x i undef) W
theorem qP5 {a0:Act} {J:Array Bool→(Nat→Value)→World→Prop} {Q:Exit→Act→World→Prop} {deps:List (List Nat)} {m:Nat} (ok:MonoOk ops a0.tmps.size dsts deps) (tl:TailOk ops m)
  (hsteps:∀(i:Nat) (o:Oper),i<m→ops[i]? =some o→qLK P ops a0 dsts J PΦ (deps.getD i []) i o)
  (hpan:∀(a:Act) ch W,a.defers=a0.defers→PΦ ch W→Q (.panic ch) a W)
  (hend:∀listed x W,(∀j,j<m→listed.getD j true=true)→J listed x W→if m<ops.size then stOp P ops Q m (Q .normal) (fA0 dsts x (List.range m) a0) W else Q .normal (fA0 dsts x (List.range m) a0) W):
  ∀(fuel:Nat) (listed:Array Bool) (x:Nat→Value) (a:Act) (W:World),JInv ops a0 dsts J m listed x a W→(List.range ops.size).countP (fun i=> !listed.getD i true)≤fuel→qBa P .any ops Q fuel listed a W:=by
 intro fuel
 have hfin:∀(listed:Array Bool) (x:Nat→Value) (a:Act) (W:World),JInv ops a0 dsts J m listed x a W→(∀j,j<m→listed.getD j true=true)→a=fA0 dsts x (List.range m) a0:=by
  intro listed x a W inv hall;have h1:a.defers=(fA0 dsts x (List.range m) a0).defers :=by rw[qBY,inv.defers]
  have h2:a.tmps=(fA0 dsts x (List.range m) a0).tmps :=by
   refine Array.ext_getElem? fun t=>?_
   by_cases ht:∃j,j<m∧dsts.getD j none=some t
   ·obtain⟨j,hj,hd⟩:=ht;have hjs:j<ops.size:=Nat.lt_of_lt_of_le hj tl.le;rw[inv.done j t hj (hall j hj) hd,qCO x t j hd]
    ·obtain⟨o,ho⟩:∃o,ops[j]? =some o:=⟨ops[j],Array.getElem?_eq_getElem hjs⟩;exact ok.inn j o t ho ((ok.dst j o ho).trans hd)
    ·exact fun k hk hkd=>ok.one k j t (Nat.lt_of_lt_of_le (List.mem_range.1 hk) tl.le) hjs hkd hd
    ·exact .inr (List.mem_range.2 hj)
   ·rw[inv.rest t fun j hj _ hd=>ht ⟨j,hj,hd⟩,qBb x t _ _ fun j hj hd=>ht ⟨j,List.mem_range.1 hj,hd⟩]
  obtain⟨at1,ad1⟩:=a;simp only at h1 h2;generalize fA0 dsts x (List.range m) a0=f at h1 h2;obtain⟨ft,fd⟩:=f;simp only at h1 h2;rw[h1,h2]
 have hgetD:∀(listed:Array Bool) j,listed.size=ops.size→j<ops.size→listed.getD j false=listed.getD j true:=by
  intro listed j hls hj;have hs:j<listed.size:=by omega
  simp only[Array.getD_eq_getD_getElem?,Array.getElem?_eq_getElem hs,Option.getD_some]
 have hready:∀(listed:Array Bool),listed.size=ops.size→Region.ready .any ops listed=[]→∀j,j<ops.size→listed.getD j true=true:=by
  intro listed hls hr j
  induction j using Nat.strongRecOn with
  | ind j ih=>
   intro hj
   cases hlj:listed.getD j true with
   | true=>rfl
   | false=>
    have:j∈Region.ready .any ops listed:=by
     rw[mem_ready];refine⟨hlj,ops[j],Array.getElem?_eq_getElem hj,fun e he hb=>?_⟩;have hlt:=ok.back j ops[j] (Array.getElem?_eq_getElem hj) e he hb;rw[hgetD _ _ hls (by omega)];exact ih e.on hlt (by omega)
    rw[hr]at this;simp at this
 have hnone:∀(listed:Array Bool),(∀j,j<ops.size→listed.getD j true=true)→Region.ready .any ops listed=[]:=by
  intro listed hall;refine List.eq_nil_iff_forall_not_mem.2 fun j hj=>?_;obtain⟨h1,o,ho,_⟩:=mem_ready.1 hj;rw[hall j (gsl ho)]at h1
  cases h1
 have hover:∀(fuel:Nat) (listed:Array Bool) (a:Act) (W:World),(∀j,j<ops.size→listed.getD j true=true)→Q .normal a W→qBa P .any ops Q fuel listed a W:=by
  intro fuel listed a W hall hq
  cases fuel with
  | zero=>exact⟨hnone _ hall,hq⟩
  | succ fuel=>exact⟨fun _=>hq,fun i hi=>by rw[hnone _ hall]at hi;simp at hi⟩
 have hset:∀(listed:Array Bool) i j,i<listed.size→(listed.setIfInBounds i true).getD j true=if i=j then true else listed.getD j true:=by
  intro listed i j hi;simp only[Array.getD_eq_getD_getElem?,Array.getElem?_setIfInBounds]
  by_cases h:i=j
  ·subst h;simp[hi]
  ·simp[h]
 -- all of the head is there
 have hdone:∀(listed:Array Bool) (x:Nat→Value) (a:Act) (W:World),JInv ops a0 dsts J m listed x a W→(∀j,j<m→listed.getD j true=true)→if m<ops.size then stOp P ops Q m (Q .normal) a W else Q .normal a W:=by
  intro listed x a W inv hall;rw[hfin _ _ _ _ inv hall];exact hend listed x W hall inv.jay
 induction fuel with
 | zero=>
  intro listed x a W inv hc
  have hall:∀j,j<ops.size→listed.getD j true=true:=fun j hj=>by
   have h0:(List.range ops.size).countP (fun i=> !listed.getD i true)=0:=by omega
   rw[List.countP_eq_zero]at h0;simpa using h0 j (List.mem_range.2 hj)
  have h:=hdone _ _ _ _ inv fun j hj=>hall j (Nat.lt_of_lt_of_le hj tl.le)
  by_cases hm:m<ops.size
  ·have:=hall m hm;rw[inv.tail hm]at this
   cases this
  ·rw[if_neg hm]at h;exact hover 0 _ _ _ hall h
 | succ fuel ih=>
  intro listed x a W inv hc;refine⟨fun hr=>?_,fun i hi=>?_⟩
  ·have hall:=hready listed inv.ls hr;have h:=hdone _ _ _ _ inv fun j hj=>hall j (Nat.lt_of_lt_of_le hj tl.le)
   by_cases hm:m<ops.size
   ·have:=hall m hm;rw[inv.tail hm]at this
    cases this
   ·rw[if_neg hm]at h;exact h
  ·obtain⟨hun,o,ho,hafter⟩:=mem_ready.1 hi;have hin:i<ops.size:=(gsl ho);have hils:i<listed.size:=by rw[inv.ls];exact hin
   have hod:=ok.dst i o ho
   by_cases him:i<m
   ·-- the results that o looks at are there
    have hdl:∀j∈deps.getD i [],j<m∧listed.getD j true=true∧∃d,dsts.getD j none=some d:=fun j hj=>by
     obtain⟨hjs,hd,e,he,hb,hon⟩:=ok.dep i o ho j hj;have h1:=hafter e he hb;have h2:=ok.back i o ho e he hb;rw[hon]at h1 h2;rw[hgetD _ _ inv.ls hjs]at h1;exact⟨by omega,h1,hd⟩
    have hstep:=hsteps i o him ho listed x W inv.ls hun (fun j hj=>(hdl j hj).2.1) inv.jay
    -- a and the act that is filled agree where o looks
    have hsame:∀t∈o.looksAt ops,(fA0 dsts x (deps.getD i []) a0).tmps[t]? =a.tmps[t]? :=by
     intro t ht
     by_cases htd:∃j,j<ops.size∧dsts.getD j none=some t
     ·obtain⟨j,hj,hd⟩:=htd;have hjd:=ok.looks i o ho j t hj hd ht;obtain⟨h1,h2,_⟩:=hdl j hjd;rw[inv.done j t h1 h2 hd,qCO x t j hd]
      ·obtain⟨oj,hoj⟩:∃oj,ops[j]? =some oj:=⟨ops[j],Array.getElem?_eq_getElem hj⟩;exact ok.inn j oj t hoj ((ok.dst j oj hoj).trans hd)
      ·exact fun k hk hkd=>ok.one k j t (ok.dep i o ho k hk).1 hj hkd hd
      ·exact .inr hjd
     ·rw[qBb x t _ _ fun j hj hd=>htd ⟨j,(ok.dep i o ho j hj).1,hd⟩,inv.rest t fun j hj _ hd=>htd ⟨j,Nat.lt_of_lt_of_le hj tl.le,hd⟩]
    have heval:execOp a.eval o=execOp (fA0 dsts x (deps.getD i []) a0).eval o:=execOp_congr o (ok.sel i o ho) fun z hz=>by
     cases z with
     | tmp t=>
      have:=hsame t (List.mem_append_left _ (List.mem_filterMap.2 ⟨.tmp t,by simpa using hz,rfl⟩));simp only[Act.eval,Array.getD_eq_getD_getElem?,this]
     | const v=>rfl
     | global g=>rfl
     | func f=>rfl
    have hwant:Region.wanted o (yielded ops a.tmps)=Region.wanted o (yielded ops (fA0 dsts x (deps.getD i []) a0).tmps):=by
     unfold Region.wanted
     cases hg:o.guard with
     | none=>rfl
     | some gw=>
      obtain⟨g,want⟩:=gw
      have hy:yielded ops a.tmps g=yielded ops (fA0 dsts x (deps.getD i []) a0).tmps g:=by
       unfold yielded
       cases ht:(ops[g]?).bind (·.dst)with
       | none=>rfl
       | some t=>
        have:=hsame t (by simp[Oper.looksAt,hg,ht]);simp only[Option.bind_some,this]
      simp only[hy]
    -- what comes next
    have hnext:∀v W',J (listed.setIfInBounds i true) (updV x i v) W'→qBa P .any ops Q fuel (listed.setIfInBounds i true) (a.put o.dst v) W':=by
     intro v W' hv;refine ih (listed.setIfInBounds i true) (updV x i v) _ _ ?_ ?_
     ·refine⟨by simp[inv.ls],by rw[qD5,inv.size],by rw[qBK,inv.defers],?_,?_,hv,?_,?_⟩
      ·intro j d hj hl hd
       by_cases hji:j=i
       ·subst hji;have hdo:o.dst=some d:=hod.trans hd;rw[qAs,if_pos ⟨hdo,by rw[inv.size];exact ok.inn j o d ho hdo⟩];simp[updV]
       ·rw[hset _ _ _ hils,if_neg (Ne.symm hji)]at hl;rw[qAs,if_neg]
        ·have:=inv.done j d hj hl hd;simp only[updV,if_neg hji];exact this
        ·rintro⟨h1,_⟩;exact hji (ok.one j i d (Nat.lt_of_lt_of_le hj tl.le) hin hd (hod.symm.trans h1))
      ·intro t ht
       have hne:o.dst≠some t:=by
        intro h1;refine ht i him ?_ (hod.symm.trans h1);rw[hset _ _ _ hils,if_pos rfl]
       rw[qAs,if_neg fun h1=>hne h1.1];refine inv.rest t fun j hj hl=>ht j hj ?_;rw[hset _ _ _ hils]
       split
       ·rfl
       ·exact hl
      ·intro hm;rw[hset _ _ _ hils,if_neg (by omega)];exact inv.tail hm
      ·intro j oj hoj hl e he hb;rw[hset _ _ _ hils]
       by_cases hji:j=i
       ·subst hji;rw[ho]at hoj
        cases hoj
        split
        ·rfl
        ·rw[←hgetD _ _ inv.ls]
         ·exact hafter e he hb
         ·have:=ok.back j o ho e he hb;omega
       ·rw[hset _ _ _ hils,if_neg (Ne.symm hji)]at hl
        split
        ·rfl
        ·exact inv.closed j oj hoj hl e he hb
     ·refine Nat.le_of_lt_succ (Nat.lt_of_lt_of_le (qBt (fun j hj hq=>?_) i (List.mem_range.2 hin) ?_ ?_) hc)
      ·rw[hset _ _ _ hils]at hq
       by_cases hij:i=j
       ·simp[hij]at hq
       ·simpa[hij]using hq
      ·rw[hun];rfl
      ·rw[hset _ _ _ hils,if_pos rfl];rfl
    unfold stOp;simp only[ho];rw[hwant]
    by_cases hw:Region.wanted o (yielded ops (fA0 dsts x (deps.getD i []) a0).tmps)=true
    ·rw[if_pos hw]at hstep ⊢
     have hK:=hstep (fun a' W'=>a'.defers=(fA0 dsts x (deps.getD i []) a0).defers ∧∃v,(∀d,o.dst=some d→a'.tmps[d]? =some v)∧J (listed.setIfInBounds i true) (updV x i v) W') fun v W' hv=>
      ⟨qBK _ _ _,v,fun d hd=>by rw[qAs,if_pos ⟨hd,by rw[qBE];exact ok.inn i o d ho hd⟩],hv⟩
     unfold Oper.wp at hK ⊢;rw[heval];refine qJL (PΦ:=PΦ) (by rw[qBY,inv.defers]) (by rw[qBE,inv.size]) (fun d hd=>by rw[qBE];exact ok.inn i o d ho hd) _ hnext ?_ hK;intro ch W' h1;exact hpan _ _ _ inv.defers h1
    ·rw[if_neg hw]at hstep ⊢;exact hnext undef W hstep
   ·-- the tail
    have him2:i=m:=by have:=tl.one;omega
    subst him2
    have hall:∀k j,j<i→i - j≤k→listed.getD j true=true:=by
     intro k
     induction k with
     | zero=>intro j h1 h2;omega
     | succ k ihk=>
      intro j hj _;obtain⟨q,oq,hq1,hq2,hoq,e,he,hb,hon⟩:=tl.sink hin j hj
      by_cases hqi:q=i
      ·subst hqi;rw[ho]at hoq
       cases hoq
       have h1:=hafter e he hb;rw[hon,hgetD _ _ inv.ls (by omega)]at h1;exact h1
      ·have h1:=ihk q (by omega) (by omega);have h2:=inv.closed q oq hoq h1 e he hb;rw[hon]at h2;exact h2
    have hall':∀j,j<i→listed.getD j true=true:=fun j hj=>hall (i - j) j hj (Nat.le_refl _);have h:=hdone _ _ _ _ inv hall';rw[if_pos hin]at h;refine qCI (fun a' W' hq=>hover fuel _ _ _ (fun j hj=>?_) hq) h;rw[hset _ _ _ hils]
    split
    ·rfl
    ·exact hall' j (by have:=tl.one;omega)
theorem qLL {a0:Act} {J:Array Bool→(Nat→Value)→World→Prop} {m:Nat} (x:Nat→Value) {W:World} (hJ:J (Array.replicate ops.size false) x W) (tl:TailOk ops m):JInv ops a0 dsts J m (Array.replicate ops.size false) x a0 W:=by
 have h:∀j,j<ops.size→(Array.replicate ops.size false).getD j true=false:=fun j hj=>by
  simp[Array.getD_eq_getD_getElem?,hj]
 refine⟨by simp,rfl,rfl,fun j d hj hl=>?_,fun t _=>rfl,hJ,fun hm=>h m hm,fun j o hoj hl=>?_⟩
 ·rw[h j (Nat.lt_of_lt_of_le hj tl.le)]at hl;cases hl
 ·rw[h j (gsl hoj)]at hl;cases hl
end
end Go.Proofs.YtenjpccpldajoaaGreatDoor
namespace Go.Proofs.YtenjpccpldajoaaGreatDoor
set_option maxRecDepth 100000
open Go.RowKit Go.Shelf
set_option linter.unusedVariables false
section
variable {P:Program} {ops:Array Oper} {dsts:List (Option Tmp)} {PΦ:List PanicEntry→World→Prop} {R T:WRel} {Φs:List (MPredR T)} {Ψs:List (MPredR R)} {Ω:MPredR R}
def qLM (P:Program) (ops:Array Oper) (a0:Act) (w:World) (dsts:List (Option Tmp)) (R T:WRel) (Φs:List (MPredR T)) (Ψs:List (MPredR R)) (PΦ:List PanicEntry→World→Prop) (deps:List Nat) (i:Nat) (o:Oper):Prop:=
 o.guard=none∧∀(x:Nat→Value) (W:World),T.r w W→qB6 Φs x W deps→
  ∀Q:Exit→Act→World→Prop,(∀v W',R.r W W'→(Φs.getD i MPredR.any).p v W'→(Ψs.getD i MPredR.any).p v W'→Q .normal ((fA0 dsts x deps a0).put o.dst v) W')→(∀ch a' W',PΦ ch W'→Q (.panic ch) a' W')→wpList P ops Q [o] (fA0 dsts x deps a0) W
def qLN (P:Program) (ops:Array Oper) (a0:Act) (w:World) (dsts:List (Option Tmp)) (R T:WRel) (Φs:List (MPredR T)) (Ψs:List (MPredR R)) (Ω:MPredR R) (PΦ:List PanicEntry→World→Prop) (deps:List Nat) (i:Nat) (o:Oper):Prop:=
 o.guard=none∧∀(x:Nat→Value) (W:World),R.r w W→qB6 Φs x W deps→qB6 Ψs x W deps→
  ∀Q:Exit→Act→World→Prop,(∀v W',T.r W W'→(Φs.getD i MPredR.any).p v W'→Ω.p v W'→Q .normal ((fA0 dsts x deps a0).put o.dst v) W')→(∀ch a' W',PΦ ch W'→Q (.panic ch) a' W')→wpList P ops Q [o] (fA0 dsts x deps a0) W
def qBv (P:Program) (ops:Array Oper) (a0:Act) (w:World) (dsts:List (Option Tmp)) (R T:WRel) (Φs:List (MPredR T)) (Ψs:List (MPredR R)) (Ω:MPredR R) (PΦ:List PanicEntry→World→Prop) (s:Nat):List Oper→List (List Nat)→Nat→Prop
 | [],_,_=>True
 | o::os,[],i=>False
 | o::os,d::ds,i=>(if i=s then qLN P ops a0 w dsts R T Φs Ψs Ω PΦ d i o else qLM P ops a0 w dsts R T Φs Ψs PΦ d i o)∧qBv P ops a0 w dsts R T Φs Ψs Ω PΦ s os ds (i+1)
theorem qFc {a0:Act} {w:World} {s:Nat}:∀{os:List Oper} {deps:List (List Nat)} {k:Nat},qBv P ops a0 w dsts R T Φs Ψs Ω PΦ s os deps k→∀i o,os[i]? =some o→(if k+i=s then qLN P ops a0 w dsts R T Φs Ψs Ω PΦ (deps.getD i []) (k+i) o else qLM P ops a0 w dsts R T Φs Ψs PΦ (deps.getD i []) (k+i) o)
 | [],_,_,_,i,o,ho=>by simp at ho
 | o'::os,[],k,h,i,o,ho=>h.elim
 | o'::os,d::ds,k,h,0,o,ho=>by
  simp only[List.getElem?_cons_zero,Option.some.injEq]at ho;subst ho;exact h.1
 | o'::os,d::ds,k,h,i+1,o,ho=>by
  have:=qFc h.2 i o (by simpa using ho);rw[show k+1+i=k+(i+1)by omega]at this;simpa using this
theorem qFd {a0:Act} {w:World} {ds:List (List Nat)} {i s:Nat}:qBv P ops a0 w dsts R T Φs Ψs Ω PΦ s [] ds i:=trivial
theorem qA6 {a0:Act} {w:World} {o:Oper} {os:List Oper} {d:List Nat} {ds:List (List Nat)} {i s:Nat} (hne:i≠s) (h:qLM P ops a0 w dsts R T Φs Ψs PΦ d i o) (h2:qBv P ops a0 w dsts R T Φs Ψs Ω PΦ s os ds (i+1)):qBv P ops a0 w dsts R T Φs Ψs Ω PΦ s (o::os) (d::ds) i:=⟨by rw[if_neg hne];exact h,h2⟩
theorem qHJ {a0:Act} {w:World} {o:Oper} {os:List Oper} {d:List Nat} {ds:List (List Nat)} {i s:Nat} (he:i=s) (h:qLN P ops a0 w dsts R T Φs Ψs Ω PΦ d i o) (h2:qBv P ops a0 w dsts R T Φs Ψs Ω PΦ s os ds (i+1)):qBv P ops a0 w dsts R T Φs Ψs Ω PΦ s (o::os) (d::ds) i:=⟨by rw[if_pos he];exact h,h2⟩
theorem qHK {o:Oper} {a:Act} {W:World} {K:Act→World→Prop} {φ :Value→World→Prop} (hg:o.guard=none)
  (h:∀Q:Exit→Act→World→Prop,(∀v W',φ v W'→Q .normal (a.put o.dst v) W')→(∀ch a' W',PΦ ch W'→Q (.panic ch) a' W')→wpList P ops Q [o] a W)
  (hK:∀v W',φ v W'→K (a.put o.dst v) W'):o.wp P a W K (fun e _ W'=>∃ch,e= .panic ch∧PΦ ch W'):=by
 have hw:Region.wanted o (yielded ops a.tmps)=true:=by unfold Region.wanted;rw[hg]
 have h1:=h (fun e a' W'=>(e= .normal ∧K a' W')∨(∃ch,e= .panic ch∧PΦ ch W')) (fun v W' h2=> .inl ⟨rfl,hK v W' h2⟩) (fun ch a' W' h2=> .inr ⟨ch,rfl,h2⟩);unfold wpList at h1;rw[if_pos hw]at h1
 rcases h1 with h1| ⟨-,a',W',h1⟩
 ·refine qDW (fun a' w' h2=>?_) (fun e a' w' h2 hne=>?_) _ h1
  ·unfold wpList at h2
   rcases h2 with h2| ⟨ch,h2,-⟩
   ·exact h2.2
   ·cases h2
  ·rcases h2 with h2|h2
   ·exact absurd h2.1 hne
   ·exact h2
 ·rcases h1 with h1| ⟨ch,h1,-⟩
  ·cases h1.1
  ·cases h1
def oneJ (w:World) (R T:WRel) (Φs:List (MPredR T)) (Ψs:List (MPredR R)) (Ω:MPredR R) (m s:Nat) (listed:Array Bool) (x:Nat→Value) (W:World):Prop:=
 T.r w W∧(∀j,j<m→listed.getD j true=true→fact Φs x W j)∧(listed.getD s true=false→R.r w W∧∀j,j<m→listed.getD j true=true→fact Ψs x W j)∧(listed.getD s true=true→Ω.p (x s) W)
theorem qFH {R:WRel} {Φs:List (MPredR R)} {x:Nat→Value} {W:World} {i j:Nat} (v:Value) (h:j≠i):fact Φs (updV x i v) W j=fact Φs x W j:=by
 unfold fact updV;rw[if_neg h]
theorem qFI {R:WRel} {Φs:List (MPredR R)} {x:Nat→Value} {W:World} {i:Nat} {v:Value}:fact Φs (updV x i v) W i=(Φs.getD i MPredR.any).p v W:=by
 unfold fact updV;rw[if_pos rfl]
theorem qF2 {a0:Act} {w:World} {Q:Exit→Act→World→Prop} {os:List Oper} (hRT:∀a b,R.r a b→T.r a b) (m s:Nat) (hs:s<m) (dsts:List (Option Tmp)) (deps:List (List Nat)) (Φs:List (MPredR T)) (Ψs:List (MPredR R)) (Ω:MPredR R) (PΦ:List PanicEntry→World→Prop)
  (hB:qCh os.toArray a0.tmps.size dsts deps=true) (hT:qDV os.toArray m=true)
  (hsteps:qBv P os.toArray a0 w dsts R T Φs Ψs Ω PΦ s (os.take m) (deps.take m) 0)
  (hpan:∀(a:Act) ch W,a.defers=a0.defers→PΦ ch W→Q (.panic ch) a W)
  (hend:∀x W,T.r w W→(∀j,j<m→fact Φs x W j)→Ω.p (x s) W→qET P Q (fA0 dsts x (List.range m) a0) W (os.drop m)):
  qBa P .any os.toArray Q os.toArray.size (Array.replicate os.toArray.size false) a0 {w with drawn:=w.drawn+1}:=by
 have ok:=qG6 hB;have tl:=qG7 hT;have hms:s<os.toArray.size:=Nat.lt_of_lt_of_le hs tl.le
 have hset:∀(listed:Array Bool) i j,i<listed.size→(listed.setIfInBounds i true).getD j true=if i=j then true else listed.getD j true:=by
  intro listed i j hi;simp only[Array.getD_eq_getD_getElem?,Array.getElem?_setIfInBounds]
  by_cases h:i=j
  ·subst h;simp[hi]
  ·simp[h]
 refine qP5 (J:=oneJ w R T Φs Ψs Ω m s) (PΦ:=PΦ) ok tl (fun i o hi ho=>?_) hpan (fun listed x W hall hJ=>?_) _ _ (fun _=>undef) _ _ (qLL _ ?_ tl) ?_
 ·intro listed x W hls hun hdeps hJ;obtain⟨j1,j2,j3,j4⟩:=hJ;have his:i<listed.size:=by rw[hls];exact(gsl ho)
  have hos:(os.take m)[i]? =some o:=by rw[List.getElem?_take,if_pos hi];simpa using ho
  have h0:=qFc hsteps i o hos;rw[Nat.zero_add,show(deps.take m).getD i []=deps.getD i []by simp[List.getD_eq_getElem?_getD,hi]]at h0
  have hdm:∀j∈deps.getD i [],j<m:=fun j hj=>by
   obtain⟨hjs,hd,e,he,hb,hon⟩:=ok.dep i o ho j hj;have:=ok.back i o ho e he hb;omega
  have hfΦ:qB6 Φs x W (deps.getD i []):=qDU fun j hj=>j2 j (hdm j hj) (hdeps j hj)
  by_cases hsi:i=s
  ·subst hsi;rw[if_pos rfl]at h0;obtain⟨hg,h0⟩:=h0;have hw:Region.wanted o (yielded os.toArray (fA0 dsts x (deps.getD i []) a0).tmps)=true:=by unfold Region.wanted;rw[hg]
   rw[if_pos hw];intro K hK;obtain⟨k1,k2⟩:=j3 hun;refine qHK (ops:=os.toArray) (φ :=fun v W'=>T.r W W'∧(Φs.getD i MPredR.any).p v W'∧Ω.p v W') hg (fun Q hQ hP=>h0 x W k1 hfΦ (qDU fun j hj=>k2 j (hdm j hj) (hdeps j hj)) Q (fun v W' a b c=>hQ v W' ⟨a,b,c⟩) hP) fun v W' ⟨h1,h2,h3⟩=>hK v W' ?_;refine⟨T.trans j1 h1,fun j hj hl=>?_,fun hl=>?_,fun _=>?_⟩
   ·by_cases hji:j=i
    ·subst hji;rw[qFI];exact h2
    ·rw[qFH v hji];rw[hset _ _ _ his,if_neg (Ne.symm hji)]at hl;exact(j2 j hj hl).le h1
   ·rw[hset _ _ _ his,if_pos rfl]at hl
    cases hl
   ·unfold updV;rw[if_pos rfl];exact h3
  ·rw[if_neg hsi]at h0;obtain⟨hg,h0⟩:=h0;have hw:Region.wanted o (yielded os.toArray (fA0 dsts x (deps.getD i []) a0).tmps)=true:=by unfold Region.wanted;rw[hg]
   rw[if_pos hw];intro K hK;refine qHK (ops:=os.toArray) (φ :=fun v W'=>R.r W W'∧(Φs.getD i MPredR.any).p v W'∧(Ψs.getD i MPredR.any).p v W') hg (fun Q hQ hP=>h0 x W j1 hfΦ Q (fun v W' a b c=>hQ v W' ⟨a,b,c⟩) hP) fun v W' ⟨h1,h2,h3⟩=>hK v W' ?_;refine⟨T.trans j1 (hRT _ _ h1),fun j hj hl=>?_,fun hl=>?_,fun hl=>?_⟩
   ·by_cases hji:j=i
    ·subst hji;rw[qFI];exact h2
    ·rw[qFH v hji];rw[hset _ _ _ his,if_neg (Ne.symm hji)]at hl;exact(j2 j hj hl).le (hRT _ _ h1)
   ·rw[hset _ _ _ his,if_neg hsi]at hl;obtain⟨k1,k2⟩:=j3 hl;refine⟨R.trans k1 h1,fun j hj hl2=>?_⟩
    by_cases hji:j=i
    ·subst hji;rw[qFI];exact h3
    ·rw[qFH v hji];rw[hset _ _ _ his,if_neg (Ne.symm hji)]at hl2;exact(k2 j hj hl2).le h1
   ·rw[hset _ _ _ his,if_neg hsi]at hl;unfold updV;rw[if_neg (fun e=>hsi e.symm)];exact Ω.mono _ _ _ h1 (j4 hl)
 ·obtain⟨j1,j2,j3,j4⟩:=hJ;have h:=hend x W j1 (fun j hj=>j2 j hj (hall j hj)) (j4 (hall s hs))
  by_cases hmm:m<os.toArray.size
  ·rw[if_pos hmm];have hml:m<os.length:=by simpa using hmm
   rw[List.drop_eq_getElem_cons hml]at h;unfold stOp;simp only[List.getElem?_toArray,List.getElem?_eq_getElem hml];have hw:Region.wanted os[m] (yielded os.toArray (fA0 dsts x (List.range m) a0).tmps)=true:=by unfold Region.wanted;rw[h.1]
   rw[if_pos hw];exact h.2
  ·rw[if_neg hmm];rw[List.drop_eq_nil_of_le (by simpa using hmm)]at h;exact h
 ·have hf:∀j,j<os.toArray.size→(Array.replicate os.toArray.size false).getD j true=false:=fun j hj=>by
   simp only[Array.getD_eq_getD_getElem?,Array.getElem?_replicate,if_pos hj,Option.getD_some]
  refine⟨T.drew w,fun j hj hl=>?_,fun _=>⟨R.drew w,fun j hj hl=>?_⟩,fun hl=>?_⟩
  ·rw[hf j (Nat.lt_of_lt_of_le hj tl.le)]at hl;cases hl
  ·rw[hf j (Nat.lt_of_lt_of_le hj tl.le)]at hl;cases hl
  ·rw[hf s hms]at hl;cases hl
 ·exact Nat.le_trans List.countP_le_length (by simp)
theorem qIq {id:Nat} {a0:Act} {w:World} {Q:Exit→Act→World→Prop} {os:List Oper} (hRT:∀a b,R.r a b→T.r a b) (m s:Nat) (hs:s<m) (dsts:List (Option Tmp)) (deps:List (List Nat)) (Φs:List (MPredR T)) (Ψs:List (MPredR R)) (Ω:MPredR R) (PΦ:List PanicEntry→World→Prop)
  (hm:P.follows .mixedOrders =true) (hB:qCh os.toArray a0.tmps.size dsts deps=true) (hT:qDV os.toArray m=true) (hg:((os.drop m).all fun o=>o.guard.isNone)=true)
  (hsteps:qBv P os.toArray a0 w dsts R T Φs Ψs Ω PΦ s (os.take m) (deps.take m) 0)
  (hpan:∀(a:Act) ch W,a.defers=a0.defers→PΦ ch W→Q (.panic ch) a W)
  (hend:∀x W,T.r w W→(∀j,j<m→fact Φs x W j)→Ω.p (x s) W→∀Q':Exit→Act→World→Prop,(∀a W,Q .normal a W→Q' .normal a W)→(∀ch a W,Q (.panic ch) a W→Q' (.panic ch) a W)→wpList P os.toArray Q' (os.drop m) (fA0 dsts x (List.range m) a0) W):
  (Code.region id os.toArray true).wp P Q a0 w:=
 wp_region_any hm (qCs _ _ _ _ (qF2 hRT m s hs dsts deps Φs Ψs Ω PΦ hB hT hsteps hpan fun x W hR hf hO=>qFG _ _ hg (hend x W hR hf hO) (qEH hT)))
theorem qHw {l n:Nat} {id:Nat} {a0:Act} {w:World} {Q:Exit→Act→World→Prop} {os:List Oper} (hRT:∀a b,R.r a b→T.r a b) (m s:Nat) (hs:s<m) (dsts:List (Option Tmp)) (deps:List (List Nat)) (Φs:List (MPredR T)) (Ψs:List (MPredR R)) (Ω:MPredR R) (PΦ:List PanicEntry→World→Prop)
  (hm:P.follows .mixedOrders =true) (hB:qCh os.toArray a0.tmps.size dsts deps=true) (hT:qDV os.toArray m=true) (hnd:qGG os=true) (hg:((os.drop m).all fun o=>o.guard.isNone)=true)
  (hsteps:qBv P os.toArray a0 w dsts R T Φs Ψs Ω PΦ s (os.take m) (deps.take m) 0)
  (hpan:∀(a:Act) ch W,a.defers=a0.defers→PΦ ch W→Q (.panic ch) a W)
  (hend:∀x W,T.r w W→(∀j,j<m→fact Φs x W j)→Ω.p (x s) W→∀Q':Exit→Act→World→Prop,(∀a W,Q .normal a W→Q' .normal a W)→(∀ch a W,Q (.panic ch) a W→Q' (.panic ch) a W)→wpList P os.toArray Q' (os.drop m) (fA0 dsts x (List.range m) a0) W):
  (Code.region id os.toArray true).wpIn (Fence.wide.inRound l) n P Q a0 w:=
 wpIn_region_any hm (qD6 (qFb hnd) _ _ _ _ (qF2 hRT m s hs dsts deps Φs Ψs Ω PΦ hB hT hsteps hpan fun x W hR hf hO=>qFG _ _ hg (hend x W hR hf hO) (qEH hT)))
end
end Go.Proofs.YtenjpccpldajoaaGreatDoor
namespace Go.Proofs.YtenjpccpldajoaaGreatDoor
set_option maxRecDepth 100000
open Go.RowKit Go.Shelf
set_option linter.unusedVariables false
section
variable {P:Program} {ops:Array Oper} {dsts:List (Option Tmp)} {PΦ:List PanicEntry→World→Prop}
def updB (D:Nat→Bool) (i:Nat):Nat→Bool:=fun j=>if j=i then true else D j
abbrev JRel:=(Nat→Bool)→(Nat→Value)→World→Prop
def qOR (P:Program) (ops:Array Oper) (a0:Act) (dsts:List (Option Tmp)) (J:JRel) (PΦ:List PanicEntry→World→Prop) (deps:List Nat) (i:Nat) (o:Oper):Prop:=
 o.guard=none∧∀(D:Nat→Bool) (x:Nat→Value) (W:World),D i=false→(∀j∈deps,D j=true)→J D x W→
  ∀Q:Exit→Act→World→Prop,(∀v W',J (updB D i) (updV x i v) W'→Q .normal ((fA0 dsts x deps a0).put o.dst v) W')→(∀ch a' W',PΦ ch W'→Q (.panic ch) a' W')→wpList P ops Q [o] (fA0 dsts x deps a0) W
def qFe (P:Program) (ops:Array Oper) (a0:Act) (dsts:List (Option Tmp)) (J:JRel) (PΦ:List PanicEntry→World→Prop):List Oper→List (List Nat)→Nat→Prop
 | [],_,_=>True
 | o::os,[],i=>False
 | o::os,d::ds,i=>qOR P ops a0 dsts J PΦ d i o∧qFe P ops a0 dsts J PΦ os ds (i+1)
theorem qFJ {a0:Act} {J:JRel}:∀{os:List Oper} {deps:List (List Nat)} {k:Nat},qFe P ops a0 dsts J PΦ os deps k→∀i o,os[i]? =some o→qOR P ops a0 dsts J PΦ (deps.getD i []) (k+i) o
 | [],_,_,_,i,o,ho=>by simp at ho
 | o'::os,[],k,h,i,o,ho=>h.elim
 | o'::os,d::ds,k,h,0,o,ho=>by
  simp only[List.getElem?_cons_zero,Option.some.injEq]at ho;subst ho;exact h.1
 | o'::os,d::ds,k,h,i+1,o,ho=>by
  have:=qFJ h.2 i o (by simpa using ho);rw[show k+1+i=k+(i+1)by omega]at this;simpa using this
end
section
variable {R:WRel} {P:Program} {ops:Array Oper} {dsts:List (Option Tmp)} {Φs:List (MPredR R)} {PΦ:List PanicEntry→World→Prop}
def qP6 (P:Program) (ops:Array Oper) (a0:Act) (w:World) (dsts:List (Option Tmp)) (Φs:List (MPredR R)) (G:JRel) (PΦ:List PanicEntry→World→Prop) (deps:List Nat) (i:Nat) (o:Oper):Prop:=
 o.guard=none∧∀(D:Nat→Bool) (x:Nat→Value) (W:World),D i=false→(∀j∈deps,D j=true)→R.r w W→qB6 Φs x W deps→G D x W→
  ∀Q:Exit→Act→World→Prop,(∀v W',R.r W W'→(Φs.getD i MPredR.any).p v W'→G (updB D i) (updV x i v) W'→Q .normal ((fA0 dsts x deps a0).put o.dst v) W')→(∀ch a' W',PΦ ch W'→Q (.panic ch) a' W')→wpList P ops Q [o] (fA0 dsts x deps a0) W
def qCa (P:Program) (ops:Array Oper) (a0:Act) (w:World) (dsts:List (Option Tmp)) (Φs:List (MPredR R)) (G:JRel) (PΦ:List PanicEntry→World→Prop):List Oper→List (List Nat)→Nat→Prop
 | [],_,_=>True
 | o::os,[],i=>False
 | o::os,d::ds,i=>qP6 P ops a0 w dsts Φs G PΦ d i o∧qCa P ops a0 w dsts Φs G PΦ os ds (i+1)
theorem qAR {a0:Act} {w:World} {G:JRel} {ds:List (List Nat)} {i:Nat}:qCa P ops a0 w dsts Φs G PΦ [] ds i:=trivial
theorem sGc {a0:Act} {w:World} {G:JRel} {o:Oper} {os:List Oper} {d:List Nat} {ds:List (List Nat)} {i:Nat} (hg:o.guard=none)
  (h:∀(D:Nat→Bool) (x:Nat→Value) (W:World),D i=false→(∀j∈d,D j=true)→R.r w W→qB6 Φs x W d→G D x W→
   ∀Q:Exit→Act→World→Prop,(∀v W',R.r W W'→(Φs.getD i MPredR.any).p v W'→G (updB D i) (updV x i v) W'→Q .normal ((fA0 dsts x d a0).put o.dst v) W')→(∀ch a' W',PΦ ch W'→Q (.panic ch) a' W')→wpList P ops Q [o] (fA0 dsts x d a0) W)
  (h2:qCa P ops a0 w dsts Φs G PΦ os ds (i+1)):qCa P ops a0 w dsts Φs G PΦ (o::os) (d::ds) i:=⟨⟨hg,h⟩,h2⟩
def gRel (w:World) (Φs:List (MPredR R)) (m:Nat) (G:JRel):JRel:=fun D x W=>R.r w W∧(∀j,j<m→D j=true→fact Φs x W j)∧G D x W
theorem qG9 {a0:Act} {w:World} {G:JRel} {m:Nat}:∀{os:List Oper} {deps:List (List Nat)} {k:Nat},(∀d∈deps,∀j∈d,j<m)→k+os.length≤m→qCa P ops a0 w dsts Φs G PΦ os deps k→qFe P ops a0 dsts (gRel w Φs m G) PΦ os deps k
 | [],_,_,_,_,_=>trivial
 | o::os,[],k,_,_,h=>h.elim
 | o::os,d::ds,k,hd,hk,h=>by
  refine⟨⟨h.1.1,fun D x W hi hdeps hJ Q hQ hP=>?_⟩,qG9 (fun d' hd'=>hd d' (by simp[hd'])) (by simp at hk;omega) h.2⟩;obtain⟨j1,j2,j3⟩:=hJ;refine h.1.2 D x W hi hdeps j1 (qDU fun j hj=>j2 j (hd d (by simp) j hj) (hdeps j hj)) j3 Q (fun v W' a b c=>hQ v W' ⟨R.trans j1 a,fun j hj hl=>?_,c⟩) hP
  by_cases hji:j=k
  ·subst hji;rw[qFI];exact b
  ·rw[qFH v hji];have hl2:D j=true:=by simpa[updB,hji]using hl
   exact(j2 j hj hl2).le a
end
section
variable {R:WRel} {P:Program} {ops:Array Oper} {dsts:List (Option Tmp)} {Φs:List (MPredR R)} {PΦ:List PanicEntry→World→Prop}
theorem qA1 {a0:Act} {w:World} {o:Oper} {d:List Nat} {i:Nat} (hw0:∀(x:Nat→Value) (W:World),qB6 Φs x W d→Region.wanted o (yielded ops (fA0 dsts x d a0).tmps)=true)
  (h:∀(x:Nat→Value) (W:World),R.r w W→qB6 Φs x W d→∀Q:Exit→Act→World→Prop,(∀v W',R.r W W'→(Φs.getD i MPredR.any).p v W'→Q .normal ((fA0 dsts x d a0).put o.dst v) W')→(∀ch a' W',R.r w W'→PΦ ch W'→Q (.panic ch) a' W')→
   wpList P ops Q [o] (fA0 dsts x d a0) W):qD4 P ops a0 w dsts Φs PΦ d i o:=by
 intro x W hR hf;have hw:=hw0 x W hf;rw[if_pos hw];intro K hK;have h1:=h x W hR hf (fun e a' W'=>(e= .normal ∧K a' W')∨(∃ch,e= .panic ch∧R.r w W'∧PΦ ch W')) (fun v W' h2 h3=> .inl ⟨rfl,hK v W' h2 h3⟩) (fun ch a' W' h2 h3=> .inr ⟨ch,rfl,h2,h3⟩);unfold wpList at h1;rw[if_pos hw]at h1
 rcases h1 with h1| ⟨-,a',W',h1⟩
 ·refine qDW (fun a' w' h2=>?_) (fun e a' w' h2 hne=>?_) _ h1
  ·unfold wpList at h2
   rcases h2 with h2| ⟨ch,h2,-⟩
   ·exact h2.2
   ·cases h2
  ·rcases h2 with h2|h2
   ·exact absurd h2.1 hne
   ·exact h2
 ·rcases h1 with h1| ⟨ch,h1,-⟩
  ·cases h1.1
  ·cases h1
end
end Go.Proofs.YtenjpccpldajoaaGreatDoor
namespace Go.Proofs.YtenjpccpldajoaaGreatDoor
set_option maxRecDepth 100000
open Go.RowKit Go.Shelf
set_option linter.unusedVariables false
structure TailsOk (ops:Array Oper) (m:Nat):Prop where
 le:m≤ops.size
 sink:∀i,m≤i→i<ops.size→∀j,j<i→∃q o,q≤i∧j<q∧ops[q]? =some o∧∃e∈o.after,Region.binds .any e=true∧e.on=j
def qDt (ops:Array Oper) (m:Nat):Bool:=
 decide (m≤ops.size)&&(List.range ops.size).all fun i=>decide (i<m)||(List.range i).all fun j=>(List.range (i+1)).any fun q=>decide (j<q)&&match ops[q]? with |some o=>o.after.any fun e=>Region.binds .any e&&e.on==j|none=>false
theorem qE8 {ops:Array Oper} {m:Nat} (h:qDt ops m=true):TailsOk ops m:=by
 unfold qDt at h;simp only[Bool.and_eq_true,decide_eq_true_eq,List.all_eq_true,List.mem_range,Bool.or_eq_true,List.any_eq_true]at h;obtain⟨h1,h2⟩:=h;refine⟨h1,fun i him hi j hj=>?_⟩
 rcases h2 i hi with h3|h3
 ·omega
 ·obtain⟨q,hq,hjq,hc⟩:=h3 j hj
  cases ho:ops[q]? with
  | none=>rw[ho]at hc;cases hc
  | some o=>
   rw[ho]at hc;simp only[Array.any_eq_true',Bool.and_eq_true,beq_iff_eq]at hc;obtain⟨e,he,hb,hon⟩:=hc;exact⟨q,o,by omega,hjq,ho,e,he,hb,hon⟩
def qEI (P:Program) (ops:Array Oper) (Q:Exit→Act→World→Prop):Nat→Nat→Act→World→Prop
 | 0,_=>Q .normal
 | k+1,i=>stOp P ops Q i (qEI P ops Q k (i+1))
theorem qHL {ops:Array Oper} {f:Nat→Bool} {k:Nat} (h:∀q,k≤q→q<ops.size→f q=false):ops.size - k≤(List.range ops.size).countP (fun j=> !f j):=by
 by_cases hk:k≤ops.size
 ·obtain⟨d,hd⟩:∃d,ops.size=k+d:=⟨ops.size - k,by omega⟩;rw[hd,List.range_add,List.countP_append]
  have:(List.map (fun x=>k+x) (List.range d)).countP (fun j=> !f j)=d:=by
   rw[List.countP_eq_length.2,List.length_map,List.length_range];intro q hq;obtain⟨x,hx,rfl⟩:=List.mem_map.1 hq;rw[h (k+x) (by omega) (by have:=List.mem_range.1 hx;omega)]
   rfl
  omega
 ·omega
section
variable {P:Program} {ops:Array Oper} {dsts:List (Option Tmp)} {PΦ:List PanicEntry→World→Prop}
structure JInvT (ops:Array Oper) (a0:Act) (dsts:List (Option Tmp)) (J:Array Bool→(Nat→Value)→World→Prop) (m:Nat) (listed:Array Bool) (x:Nat→Value) (a:Act) (W:World):Prop where
 ls:listed.size=ops.size
 size:a.tmps.size=a0.tmps.size
 defers:a.defers=a0.defers
 done:∀j d,j<m→listed.getD j true=true→dsts.getD j none=some d→a.tmps[d]? =some (x j)
 rest:∀t,(∀j,j<m→listed.getD j true=true→dsts.getD j none≠some t)→a.tmps[t]? =a0.tmps[t]?
 jay:J listed x W
 tail:∀i,m≤i→i<ops.size→listed.getD i true=false
 closed:∀(j:Nat) (o:Oper),ops[j]? =some o→listed.getD j true=true→∀e∈o.after,Region.binds .any e=true→listed.getD e.on true=true
theorem qPM {a0:Act} {J:Array Bool→(Nat→Value)→World→Prop} {Q:Exit→Act→World→Prop} {deps:List (List Nat)} {m:Nat} (ok:MonoOk ops a0.tmps.size dsts deps) (tl:TailsOk ops m)
  (hsteps:∀(i:Nat) (o:Oper),i<m→ops[i]? =some o→qLK P ops a0 dsts J PΦ (deps.getD i []) i o)
  (hpan:∀(a:Act) ch W,a.defers=a0.defers→PΦ ch W→Q (.panic ch) a W)
  (hend:∀listed x W,(∀j,j<m→listed.getD j true=true)→J listed x W→qEI P ops Q (ops.size - m) m (fA0 dsts x (List.range m) a0) W):
  ∀(fuel:Nat) (listed:Array Bool) (x:Nat→Value) (a:Act) (W:World),JInvT ops a0 dsts J m listed x a W→(List.range ops.size).countP (fun i=> !listed.getD i true)≤fuel→qBa P .any ops Q fuel listed a W:=by
 intro fuel
 have hfin:∀(listed:Array Bool) (x:Nat→Value) (a:Act) (W:World),JInvT ops a0 dsts J m listed x a W→(∀j,j<m→listed.getD j true=true)→a=fA0 dsts x (List.range m) a0:=by
  intro listed x a W inv hall;have h1:a.defers=(fA0 dsts x (List.range m) a0).defers :=by rw[qBY,inv.defers]
  have h2:a.tmps=(fA0 dsts x (List.range m) a0).tmps :=by
   refine Array.ext_getElem? fun t=>?_
   by_cases ht:∃j,j<m∧dsts.getD j none=some t
   ·obtain⟨j,hj,hd⟩:=ht;have hjs:j<ops.size:=Nat.lt_of_lt_of_le hj tl.le;rw[inv.done j t hj (hall j hj) hd,qCO x t j hd]
    ·obtain⟨o,ho⟩:∃o,ops[j]? =some o:=⟨ops[j],Array.getElem?_eq_getElem hjs⟩;exact ok.inn j o t ho ((ok.dst j o ho).trans hd)
    ·exact fun k hk hkd=>ok.one k j t (Nat.lt_of_lt_of_le (List.mem_range.1 hk) tl.le) hjs hkd hd
    ·exact .inr (List.mem_range.2 hj)
   ·rw[inv.rest t fun j hj _ hd=>ht ⟨j,hj,hd⟩,qBb x t _ _ fun j hj hd=>ht ⟨j,List.mem_range.1 hj,hd⟩]
  obtain⟨at1,ad1⟩:=a;simp only at h1 h2;generalize fA0 dsts x (List.range m) a0=f at h1 h2;obtain⟨ft,fd⟩:=f;simp only at h1 h2;rw[h1,h2]
 have hgetD:∀(listed:Array Bool) j,listed.size=ops.size→j<ops.size→listed.getD j false=listed.getD j true:=by
  intro listed j hls hj;have hs:j<listed.size:=by omega
  simp only[Array.getD_eq_getD_getElem?,Array.getElem?_eq_getElem hs,Option.getD_some]
 have hready:∀(listed:Array Bool),listed.size=ops.size→Region.ready .any ops listed=[]→∀j,j<ops.size→listed.getD j true=true:=by
  intro listed hls hr j
  induction j using Nat.strongRecOn with
  | ind j ih=>
   intro hj
   cases hlj:listed.getD j true with
   | true=>rfl
   | false=>
    have:j∈Region.ready .any ops listed:=by
     rw[mem_ready];refine⟨hlj,ops[j],Array.getElem?_eq_getElem hj,fun e he hb=>?_⟩;have hlt:=ok.back j ops[j] (Array.getElem?_eq_getElem hj) e he hb;rw[hgetD _ _ hls (by omega)];exact ih e.on hlt (by omega)
    rw[hr]at this;simp at this
 have hnone:∀(listed:Array Bool),(∀j,j<ops.size→listed.getD j true=true)→Region.ready .any ops listed=[]:=by
  intro listed hall;refine List.eq_nil_iff_forall_not_mem.2 fun j hj=>?_;obtain⟨h1,o,ho,_⟩:=mem_ready.1 hj;rw[hall j (gsl ho)]at h1
  cases h1
 have hover:∀(fuel:Nat) (listed:Array Bool) (a:Act) (W:World),(∀j,j<ops.size→listed.getD j true=true)→Q .normal a W→qBa P .any ops Q fuel listed a W:=by
  intro fuel listed a W hall hq
  cases fuel with
  | zero=>exact⟨hnone _ hall,hq⟩
  | succ fuel=>exact⟨fun _=>hq,fun i hi=>by rw[hnone _ hall]at hi;simp at hi⟩
 have hset:∀(listed:Array Bool) i j,i<listed.size→(listed.setIfInBounds i true).getD j true=if i=j then true else listed.getD j true:=by
  intro listed i j hi;simp only[Array.getD_eq_getD_getElem?,Array.getElem?_setIfInBounds]
  by_cases h:i=j
  ·subst h;simp[hi]
  ·simp[h]
 have hbefore:∀(listed:Array Bool),(∀(j:Nat) (o:Oper),ops[j]? =some o→listed.getD j true=true→∀e∈o.after,Region.binds .any e=true→listed.getD e.on true=true)→listed.size=ops.size→∀i,m≤i→i∈Region.ready .any ops listed→∀j,j<i→listed.getD j true=true:=by
  intro listed hcl hls i him hi;obtain⟨hun,o,ho,hafter⟩:=mem_ready.1 hi;have hin:i<ops.size:=(gsl ho)
  have hall:∀k j,j<i→i - j≤k→listed.getD j true=true:=by
   intro k
   induction k with
   | zero=>intro j h1 h2;omega
   | succ k ihk=>
    intro j hj _;obtain⟨q,oq,hq1,hq2,hoq,e,he,hb,hon⟩:=tl.sink i him hin j hj
    by_cases hqi:q=i
    ·subst hqi;rw[ho]at hoq
     cases hoq
     have h1:=hafter e he hb;rw[hon,hgetD _ _ hls (by omega)]at h1;exact h1
    ·have h1:=ihk q (by omega) (by omega);have h2:=hcl q oq hoq h1 e he hb;rw[hon]at h2;exact h2
  exact fun j hj=>hall (i - j) j hj (Nat.le_refl _)
 have hseq:∀(k i fuel:Nat) (listed:Array Bool) (a:Act) (W:World),i+k=ops.size→listed.size=ops.size→m≤i→(∀j,j<i→listed.getD j true=true)→(∀j,i≤j→j<ops.size→listed.getD j true=false)→
   (∀(j:Nat) (o:Oper),ops[j]? =some o→listed.getD j true=true→∀e∈o.after,Region.binds .any e=true→listed.getD e.on true=true)→k≤fuel→qEI P ops Q k i a W→qBa P .any ops Q fuel listed a W:=by
  intro k
  induction k with
  | zero=>
   intro i fuel listed a W hik hls hmi hl hu hcl hf h;exact hover _ _ _ _ (fun j hj=>hl j (by omega)) h
  | succ k ihk=>
   intro i fuel listed a W hik hls hmi hl hu hcl hf h;obtain⟨f,rfl⟩:∃f,fuel=f+1:=⟨fuel - 1,by omega⟩;have hin:i<ops.size:=by omega
   refine⟨fun hr=>?_,fun q hq=>?_⟩
   ·have:=hready listed hls hr i hin;rw[hu i (Nat.le_refl _) hin]at this
    cases this
   ·obtain⟨hun,o,ho,hafter⟩:=mem_ready.1 hq;have hqn:q<ops.size:=(gsl ho);have hqi:i≤q:=Nat.le_of_not_lt fun hlt=>by rw[hl q hlt]at hun;cases hun
    have hb:=hbefore listed hcl hls q (by omega) hq
    have:q=i:=by
     refine Nat.le_antisymm (Nat.le_of_not_lt fun hlt=>?_) hqi;have h1:=hb i hlt;rw[hu i (Nat.le_refl _) hin]at h1
     cases h1
    subst this;have hqs:q<listed.size:=by omega
    refine qCI (fun a' W' hq2=>ihk (q+1) f (listed.setIfInBounds q true) a' W' (by omega) (by simp[hls]) (by omega) (fun j hj=>?_) (fun j hj1 hj2=>?_) ?_ (by omega) hq2) h
    ·rw[hset _ _ _ hqs]
     split
     ·rfl
     ·exact hl j (by omega)
    ·rw[hset _ _ _ hqs,if_neg (by omega)];exact hu j (by omega) hj2
    ·intro j oj hoj hlj e he hbe;rw[hset _ _ _ hqs]
     by_cases hjq:j=q
     ·subst hjq;rw[ho]at hoj
      cases hoj
      split
      ·rfl
      ·exact hl _ (ok.back j o ho e he hbe)
     ·rw[hset _ _ _ hqs,if_neg (Ne.symm hjq)]at hlj
      split
      ·rfl
      ·exact hcl j oj hoj hlj e he hbe
 -- all of the head is there
 have hdone:∀(listed:Array Bool) (x:Nat→Value) (a:Act) (W:World),JInvT ops a0 dsts J m listed x a W→(∀j,j<m→listed.getD j true=true)→qEI P ops Q (ops.size - m) m a W:=by
  intro listed x a W inv hall;rw[hfin _ _ _ _ inv hall];exact hend listed x W hall inv.jay
 induction fuel with
 | zero=>
  intro listed x a W inv hc
  have hall:∀j,j<ops.size→listed.getD j true=true:=fun j hj=>by
   have h0:(List.range ops.size).countP (fun i=> !listed.getD i true)=0:=by omega
   rw[List.countP_eq_zero]at h0;simpa using h0 j (List.mem_range.2 hj)
  have h:=hdone _ _ _ _ inv fun j hj=>hall j (Nat.lt_of_lt_of_le hj tl.le)
  by_cases hm:m<ops.size
  ·have:=hall m hm;rw[inv.tail m (Nat.le_refl _) hm]at this
   cases this
  ·rw[show ops.size - m=0 by omega]at h;exact hover 0 _ _ _ hall h
 | succ fuel ih=>
  intro listed x a W inv hc;refine⟨fun hr=>?_,fun i hi=>?_⟩
  ·have hall:=hready listed inv.ls hr;have h:=hdone _ _ _ _ inv fun j hj=>hall j (Nat.lt_of_lt_of_le hj tl.le)
   by_cases hm:m<ops.size
   ·have:=hall m hm;rw[inv.tail m (Nat.le_refl _) hm]at this
    cases this
   ·rw[show ops.size - m=0 by omega]at h;exact h
  ·obtain⟨hun,o,ho,hafter⟩:=mem_ready.1 hi;have hin:i<ops.size:=(gsl ho);have hils:i<listed.size:=by rw[inv.ls];exact hin
   have hod:=ok.dst i o ho
   by_cases him:i<m
   ·-- the results that o looks at are there
    have hdl:∀j∈deps.getD i [],j<m∧listed.getD j true=true∧∃d,dsts.getD j none=some d:=fun j hj=>by
     obtain⟨hjs,hd,e,he,hb,hon⟩:=ok.dep i o ho j hj;have h1:=hafter e he hb;have h2:=ok.back i o ho e he hb;rw[hon]at h1 h2;rw[hgetD _ _ inv.ls hjs]at h1;exact⟨by omega,h1,hd⟩
    have hstep:=hsteps i o him ho listed x W inv.ls hun (fun j hj=>(hdl j hj).2.1) inv.jay
    -- a and the act that is filled agree where o looks
    have hsame:∀t∈o.looksAt ops,(fA0 dsts x (deps.getD i []) a0).tmps[t]? =a.tmps[t]? :=by
     intro t ht
     by_cases htd:∃j,j<ops.size∧dsts.getD j none=some t
     ·obtain⟨j,hj,hd⟩:=htd;have hjd:=ok.looks i o ho j t hj hd ht;obtain⟨h1,h2,_⟩:=hdl j hjd;rw[inv.done j t h1 h2 hd,qCO x t j hd]
      ·obtain⟨oj,hoj⟩:∃oj,ops[j]? =some oj:=⟨ops[j],Array.getElem?_eq_getElem hj⟩;exact ok.inn j oj t hoj ((ok.dst j oj hoj).trans hd)
      ·exact fun k hk hkd=>ok.one k j t (ok.dep i o ho k hk).1 hj hkd hd
      ·exact .inr hjd
     ·rw[qBb x t _ _ fun j hj hd=>htd ⟨j,(ok.dep i o ho j hj).1,hd⟩,inv.rest t fun j hj _ hd=>htd ⟨j,Nat.lt_of_lt_of_le hj tl.le,hd⟩]
    have heval:execOp a.eval o=execOp (fA0 dsts x (deps.getD i []) a0).eval o:=execOp_congr o (ok.sel i o ho) fun z hz=>by
     cases z with
     | tmp t=>
      have:=hsame t (List.mem_append_left _ (List.mem_filterMap.2 ⟨.tmp t,by simpa using hz,rfl⟩));simp only[Act.eval,Array.getD_eq_getD_getElem?,this]
     | const v=>rfl
     | global g=>rfl
     | func f=>rfl
    have hwant:Region.wanted o (yielded ops a.tmps)=Region.wanted o (yielded ops (fA0 dsts x (deps.getD i []) a0).tmps):=by
     unfold Region.wanted
     cases hg:o.guard with
     | none=>rfl
     | some gw=>
      obtain⟨g,want⟩:=gw
      have hy:yielded ops a.tmps g=yielded ops (fA0 dsts x (deps.getD i []) a0).tmps g:=by
       unfold yielded
       cases ht:(ops[g]?).bind (·.dst)with
       | none=>rfl
       | some t=>
        have:=hsame t (by simp[Oper.looksAt,hg,ht]);simp only[Option.bind_some,this]
      simp only[hy]
    -- what comes next
    have hnext:∀v W',J (listed.setIfInBounds i true) (updV x i v) W'→qBa P .any ops Q fuel (listed.setIfInBounds i true) (a.put o.dst v) W':=by
     intro v W' hv;refine ih (listed.setIfInBounds i true) (updV x i v) _ _ ?_ ?_
     ·refine⟨by simp[inv.ls],by rw[qD5,inv.size],by rw[qBK,inv.defers],?_,?_,hv,?_,?_⟩
      ·intro j d hj hl hd
       by_cases hji:j=i
       ·subst hji;have hdo:o.dst=some d:=hod.trans hd;rw[qAs,if_pos ⟨hdo,by rw[inv.size];exact ok.inn j o d ho hdo⟩];simp[updV]
       ·rw[hset _ _ _ hils,if_neg (Ne.symm hji)]at hl;rw[qAs,if_neg]
        ·have:=inv.done j d hj hl hd;simp only[updV,if_neg hji];exact this
        ·rintro⟨h1,_⟩;exact hji (ok.one j i d (Nat.lt_of_lt_of_le hj tl.le) hin hd (hod.symm.trans h1))
      ·intro t ht
       have hne:o.dst≠some t:=by
        intro h1;refine ht i him ?_ (hod.symm.trans h1);rw[hset _ _ _ hils,if_pos rfl]
       rw[qAs,if_neg fun h1=>hne h1.1];refine inv.rest t fun j hj hl=>ht j hj ?_;rw[hset _ _ _ hils]
       split
       ·rfl
       ·exact hl
      ·intro q hq1 hq2;rw[hset _ _ _ hils,if_neg (by omega)];exact inv.tail q hq1 hq2
      ·intro j oj hoj hl e he hb;rw[hset _ _ _ hils]
       by_cases hji:j=i
       ·subst hji;rw[ho]at hoj
        cases hoj
        split
        ·rfl
        ·rw[←hgetD _ _ inv.ls]
         ·exact hafter e he hb
         ·have:=ok.back j o ho e he hb;omega
       ·rw[hset _ _ _ hils,if_neg (Ne.symm hji)]at hl
        split
        ·rfl
        ·exact inv.closed j oj hoj hl e he hb
     ·refine Nat.le_of_lt_succ (Nat.lt_of_lt_of_le (qBt (fun j hj hq=>?_) i (List.mem_range.2 hin) ?_ ?_) hc)
      ·rw[hset _ _ _ hils]at hq
       by_cases hij:i=j
       ·simp[hij]at hq
       ·simpa[hij]using hq
      ·rw[hun];rfl
      ·rw[hset _ _ _ hils,if_pos rfl];rfl
    unfold stOp;simp only[ho];rw[hwant]
    by_cases hw:Region.wanted o (yielded ops (fA0 dsts x (deps.getD i []) a0).tmps)=true
    ·rw[if_pos hw]at hstep ⊢
     have hK:=hstep (fun a' W'=>a'.defers=(fA0 dsts x (deps.getD i []) a0).defers ∧∃v,(∀d,o.dst=some d→a'.tmps[d]? =some v)∧J (listed.setIfInBounds i true) (updV x i v) W') fun v W' hv=>
      ⟨qBK _ _ _,v,fun d hd=>by rw[qAs,if_pos ⟨hd,by rw[qBE];exact ok.inn i o d ho hd⟩],hv⟩
     unfold Oper.wp at hK ⊢;rw[heval];refine qJL (PΦ:=PΦ) (by rw[qBY,inv.defers]) (by rw[qBE,inv.size]) (fun d hd=>by rw[qBE];exact ok.inn i o d ho hd) _ hnext ?_ hK;intro ch W' h1;exact hpan _ _ _ inv.defers h1
    ·rw[if_neg hw]at hstep ⊢;exact hnext undef W hstep
   ·-- the tail
    have hall':=hbefore listed (fun j oj hoj hl e he hb=>inv.closed j oj hoj hl e he hb) inv.ls i (by omega) hi
    have him2:i=m:=by
     refine Nat.le_antisymm (Nat.le_of_not_lt fun h=>?_) (by omega);have h1:=hall' m h;rw[inv.tail m (Nat.le_refl _) (by omega)]at h1
     cases h1
    subst him2;have h:=hdone _ _ _ _ inv hall';have hk:ops.size - i=(ops.size - (i+1))+1:=by omega
    rw[hk]at h;refine qCI (fun a' W' hq=>hseq (ops.size - (i+1)) (i+1) fuel (listed.setIfInBounds i true) a' W' (by omega) (by simp[inv.ls]) (by omega) (fun q hq2=>?_) (fun q hq1 hq2=>?_) ?_ ?_ hq) h
    ·rw[hset _ _ _ hils]
     split
     ·rfl
     ·exact hall' q (by omega)
    ·rw[hset _ _ _ hils,if_neg (by omega)];exact inv.tail q (by omega) hq2
    ·intro j oj hoj hl e he hb;rw[hset _ _ _ hils]
     by_cases hji:j=i
     ·subst hji;rw[ho]at hoj
      cases hoj
      split
      ·rfl
      ·exact hall' _ (ok.back j o ho e he hb)
     ·rw[hset _ _ _ hils,if_neg (Ne.symm hji)]at hl
      split
      ·rfl
      ·exact inv.closed j oj hoj hl e he hb
    ·refine Nat.le_trans ?_ (Nat.le_of_lt_succ (Nat.lt_of_lt_of_le (qBt (q:=fun j=> !(listed.setIfInBounds i true).getD j true) (fun j hj hq=>?_) i (List.mem_range.2 hin) ?_ ?_) hc))
     ·refine Nat.le_trans ?_ (qHL (ops:=ops) (k:=i+1) (fun q hq1 hq2=>?_))
      ·exact Nat.le_refl _
      ·rw[hset _ _ _ hils,if_neg (by omega)];exact inv.tail q (by omega) hq2
     ·rw[hset _ _ _ hils]at hq
      by_cases hij:i=j
      ·simp[hij]at hq
      ·simpa[hij]using hq
     ·rw[hun];rfl
     ·rw[hset _ _ _ hils,if_pos rfl];rfl
theorem qGW {a0:Act} {J:Array Bool→(Nat→Value)→World→Prop} {m:Nat} (x:Nat→Value) {W:World} (hJ:J (Array.replicate ops.size false) x W) (hm:m≤ops.size):JInvT ops a0 dsts J m (Array.replicate ops.size false) x a0 W:=by
 have h:∀j,j<ops.size→(Array.replicate ops.size false).getD j true=false:=fun j hj=>by
  simp[Array.getD_eq_getD_getElem?,hj]
 refine⟨by simp,rfl,rfl,fun j d hj hl=>?_,fun t _=>rfl,hJ,fun i _ hi=>h i hi,fun j o hoj hl=>?_⟩
 ·rw[h j (Nat.lt_of_lt_of_le hj hm)]at hl;cases hl
 ·rw[h j (gsl hoj)]at hl;cases hl

theorem qGa {Q:Exit→Act→World→Prop} (ops:Array Oper):∀(os:List Oper) (i:Nat) (a:Act) (W:World),(os.all fun o=>o.guard.isNone)=true→(∀j,os[j]? =ops[i+j]?)→ 
  wpList P ops (fun e a' W'=>e= .normal ∧Q .normal a' W'∨∃ch,e= .panic ch∧Q (.panic ch) a' W') os a W→qEI P ops Q os.length i a W
 | [],i,a,W,_,_,h=>by
  rcases h with h2| ⟨ch,h2,-⟩
  ·exact h2.2
  ·cases h2
 | o::os,i,a,W,hg,ho,h=>by
  simp only[List.all_cons,Bool.and_eq_true,Option.isNone_iff_eq_none]at hg;have hi:ops[i]? =some o:=by have:=ho 0;simpa using this.symm
  have hw:Region.wanted o (yielded ops a.tmps)=true:=by unfold Region.wanted;rw[hg.1]
  unfold wpList at h;rw[if_pos hw]at h;rw[List.length_cons];unfold qEI stOp;simp only[hi];rw[if_pos hw]
  rcases h with h| ⟨-,a',W',h⟩
  ·refine qDW (fun a' w' h2=>?_) (fun e a' w' h2 hne=>?_) _ h
   ·exact qGa ops os (i+1) a' w' hg.2 (fun j=>by have:=ho (j+1);simpa[Nat.add_assoc,Nat.add_comm 1 j]using this) h2
   ·rcases h2 with h2| ⟨ch,h2,h3⟩
    ·exact absurd h2.1 hne
    ·subst h2;exact h3
  ·rcases h with h| ⟨ch,h,-⟩
   ·cases h.1
   ·cases h
theorem qJM {id:Nat} {a0:Act} {w:World} {Q:Exit→Act→World→Prop} {os:List Oper} (m:Nat) (dsts:List (Option Tmp)) (deps:List (List Nat)) (J:JRel) (PΦ:List PanicEntry→World→Prop)
  (hm:P.follows .mixedOrders =true) (hB:qCh os.toArray a0.tmps.size dsts deps=true) (hT:qDt os.toArray m=true) (hg:((os.drop m).all fun o=>o.guard.isNone)=true)
  (h0:∀D x,(∀j,j<os.length→D j=false)→J D x {w with drawn:=w.drawn+1})
  (hsteps:qFe P os.toArray a0 dsts J PΦ (os.take m) (deps.take m) 0)
  (hpan:∀(a:Act) ch W,a.defers=a0.defers→PΦ ch W→Q (.panic ch) a W)
  (hend:∀D x W,(∀j,j<m→D j=true)→J D x W→∀Q':Exit→Act→World→Prop,(∀a W,Q .normal a W→Q' .normal a W)→(∀ch a W,Q (.panic ch) a W→Q' (.panic ch) a W)→wpList P os.toArray Q' (os.drop m) (fA0 dsts x (List.range m) a0) W):
  (Code.region id os.toArray true).wp P Q a0 w:=by
 have ok:=qG6 hB;have tl:=qE8 hT;have hmo:m≤os.length:=by have:=tl.le;simpa using this
 have hset:∀(listed:Array Bool) i,i<listed.size→(fun j=>(listed.setIfInBounds i true).getD j true)=updB (fun j=>listed.getD j true) i:=by
  intro listed i hi
  funext j
  simp only[updB,Array.getD_eq_getD_getElem?,Array.getElem?_setIfInBounds]
  by_cases h:j=i
  ·subst h;simp[hi]
  ·simp[h,Ne.symm h]
 refine wp_region_any hm (qCs _ _ _ _ ?_);refine qPM (J:=fun listed x W=>J (fun j=>listed.getD j true) x W) (PΦ:=PΦ) ok tl (fun i o hi ho=>?_) hpan (fun listed x W hall hJ=>?_) _ _ (fun _=>undef) _ _ (qGW _ ?_ tl.le) ?_
 ·intro listed x W hls hun hdeps hJ;have his:i<listed.size:=by rw[hls];exact(gsl ho)
  have hos:(os.take m)[i]? =some o:=by rw[List.getElem?_take,if_pos hi];simpa using ho
  have h0:=qFJ hsteps i o hos;rw[Nat.zero_add,show(deps.take m).getD i []=deps.getD i []by simp[List.getD_eq_getElem?_getD,hi]]at h0;obtain⟨hg,h0⟩:=h0;have hw:Region.wanted o (yielded os.toArray (fA0 dsts x (deps.getD i []) a0).tmps)=true:=by unfold Region.wanted;rw[hg]
  rw[if_pos hw];intro K hK;refine qHK (ops:=os.toArray) (φ :=fun v W'=>J (updB (fun j=>listed.getD j true) i) (updV x i v) W') hg (fun Q hQ hP=>h0 _ x W hun hdeps hJ Q hQ hP) fun v W' h1=>hK v W' ?_;show J (fun j=>(listed.setIfInBounds i true).getD j true) _ _;rw[hset _ _ his];exact h1
 ·have h:=hend _ x W hall hJ (fun e a' W'=>e= .normal ∧Q .normal a' W'∨∃ch,e= .panic ch∧Q (.panic ch) a' W') (fun a W h=> .inl ⟨rfl,h⟩) (fun ch a W h=> .inr ⟨ch,rfl,h⟩);have h2:=qGa os.toArray (os.drop m) m _ W hg (fun j=>by simp) h;rw[List.length_drop]at h2;simpa using h2
 ·refine h0 _ _ fun j hj=>?_;have hj2:j<os.toArray.size:=by simpa using hj
  simp only[Array.getD_eq_getD_getElem?,Array.getElem?_replicate,if_pos hj2,Option.getD_some]
 ·exact Nat.le_trans List.countP_le_length (by simp)
end
section
variable {R:WRel} {P:Program} {Φs:List (MPredR R)} {PΦ:List PanicEntry→World→Prop}
theorem qB3 {id:Nat} {a0:Act} {w:World} {Q:Exit→Act→World→Prop} {os:List Oper} (m:Nat) (dsts:List (Option Tmp)) (deps:List (List Nat)) (Φs:List (MPredR R)) (G:JRel) (PΦ:List PanicEntry→World→Prop)
  (hm:P.follows .mixedOrders =true) (hB:qCh os.toArray a0.tmps.size dsts deps=true) (hT:qDt os.toArray m=true) (hg:((os.drop m).all fun o=>o.guard.isNone)=true)
  (hdm:((deps.take m).all fun d=>d.all fun j=>decide (j<m))=true)
  (h0:∀D x,(∀j,j<os.length→D j=false)→G D x {w with drawn:=w.drawn+1})
  (hsteps:qCa P os.toArray a0 w dsts Φs G PΦ (os.take m) (deps.take m) 0)
  (hpan:∀(a:Act) ch W,a.defers=a0.defers→PΦ ch W→Q (.panic ch) a W)
  (hend:∀D x W,(∀j,j<m→D j=true)→R.r w W→(∀j,j<m→fact Φs x W j)→G D x W→∀Q':Exit→Act→World→Prop,(∀a W,Q .normal a W→Q' .normal a W)→(∀ch a W,Q (.panic ch) a W→Q' (.panic ch) a W)→wpList P os.toArray Q' (os.drop m) (fA0 dsts x (List.range m) a0) W):
  (Code.region id os.toArray true).wp P Q a0 w:=by
 have hmo:m≤os.length:=by have:=(qE8 hT).le;simpa using this
 refine qJM m dsts deps (gRel w Φs m G) PΦ hm hB hT hg (fun D x hD=>⟨R.drew w,fun j hj hl=>?_,h0 D x hD⟩) (qG9 ?_ (by rw[List.length_take];omega) hsteps) hpan fun D x W hD hJ=>hend D x W hD hJ.1 (fun j hj=>hJ.2.1 j hj (hD j hj)) hJ.2.2
 ·rw[hD j (by omega)]at hl;cases hl
 ·intro d hd j hj;rw[List.all_eq_true]at hdm;have:=hdm d hd;rw[List.all_eq_true]at this;simpa using this j hj
theorem qAM {id:Nat} {a0:Act} {w:World} {Q:Exit→Act→World→Prop} {os:List Oper} (m:Nat) (dsts:List (Option Tmp)) (deps:List (List Nat)) (Φs:List (MPredR R)) (PΦ:List PanicEntry→World→Prop)
  (hm:P.follows .mixedOrders =true) (hB:qCh os.toArray a0.tmps.size dsts deps=true) (hT:qDt os.toArray m=true) (hg:((os.drop m).all fun o=>o.guard.isNone)=true)
  (hdm:((deps.take m).all fun d=>d.all fun j=>decide (j<m))=true)
  (hsteps:qCa P os.toArray a0 w dsts Φs (fun _ _ _=>True) PΦ (os.take m) (deps.take m) 0)
  (hpan:∀(a:Act) ch W,a.defers=a0.defers→PΦ ch W→Q (.panic ch) a W)
  (hend:∀x W,R.r w W→(∀j,j<m→fact Φs x W j)→∀Q':Exit→Act→World→Prop,(∀a W,Q .normal a W→Q' .normal a W)→(∀ch a W,Q (.panic ch) a W→Q' (.panic ch) a W)→wpList P os.toArray Q' (os.drop m) (fA0 dsts x (List.range m) a0) W):
  (Code.region id os.toArray true).wp P Q a0 w:=
 qB3 m dsts deps Φs (fun _ _ _=>True) PΦ hm hB hT hg hdm (fun _ _ _=>trivial) hsteps hpan fun D x W _ hR hf _=>hend x W hR hf
theorem sMc {ops:Array Oper} {dsts:List (Option Tmp)} {a0:Act} {w:World} {o:Oper} {os:List Oper} {d:List Nat} {ds:List (List Nat)} {i:Nat} (hg:o.guard=none)
  (h:∀(x:Nat→Value) (W:World),R.r w W→qB6 Φs x W d→∀Q:Exit→Act→World→Prop,(∀v W',R.r W W'→(Φs.getD i MPredR.any).p v W'→Q .normal ((fA0 dsts x d a0).put o.dst v) W')→(∀ch a' W',PΦ ch W'→Q (.panic ch) a' W')→wpList P ops Q [o] (fA0 dsts x d a0) W)
  (h2:qCa P ops a0 w dsts Φs (fun _ _ _=>True) PΦ os ds (i+1)):qCa P ops a0 w dsts Φs (fun _ _ _=>True) PΦ (o::os) (d::ds) i:=
 sGc hg (fun _ x W _ _ hR hf _ Q hQ hP=>h x W hR hf Q (fun v W' a b=>hQ v W' a b trivial) hP) h2
end
end Go.Proofs.YtenjpccpldajoaaGreatDoor
namespace Go.Proofs.YtenjpccpldajoaaGreatDoor
set_option maxRecDepth 100000
open Go.RowKit Go.Shelf
set_option linter.unusedVariables false
section
variable {P:Program} {ops:Array Oper} {dsts:List (Option Tmp)} {PΦ:List PanicEntry→World→Prop}
def qFf (m:Nat) (ops:Array Oper) (n:Nat) (dsts:List (Option Tmp)) (deps:List (List Nat)):Bool:=
 decide (dsts.length=ops.size)&&(List.range ops.size).all fun i=>
  match ops[i]? with
  | none=>false
  | some (o:Oper)=>
   qGH o&&(o.dst==dsts.getD i none)&&
   (match o.dst with |some d=>decide (d<n)&&(List.range ops.size).all fun j=>j==i||dsts.getD j none != some d|none=>true)&&
   ((List.range ops.size).filter fun j=>(decide (j<m)||decide (m≤i))&&match dsts.getD j none with |some d=>(o.looksAt ops).contains d|none=>false)==deps.getD i []&&
   ((deps.getD i []).all fun j=>o.after.any fun e=>Region.binds .any e&&e.on==j)&&
   (o.after.all fun e=> !Region.binds .any e||decide (e.on<i))
structure MonoOkM (m:Nat) (ops:Array Oper) (n:Nat) (dsts:List (Option Tmp)) (deps:List (List Nat)):Prop where
 len:dsts.length=ops.size
 sel:∀(i:Nat) (o:Oper),ops[i]? =some o→∀cs b,o.op≠ .select cs b
 dst:∀(i:Nat) (o:Oper),ops[i]? =some o→o.dst=dsts.getD i none
 inn:∀(i:Nat) (o:Oper) (d:Tmp),ops[i]? =some o→o.dst=some d→d<n
 one:∀i j d,i<ops.size→j<ops.size→dsts.getD i none=some d→dsts.getD j none=some d→i=j
 looks:∀(i:Nat) (o:Oper),ops[i]? =some o→∀j d,j<m→j<ops.size→dsts.getD j none=some d→d∈o.looksAt ops→j∈deps.getD i []
 dep:∀(i:Nat) (o:Oper),ops[i]? =some o→∀j∈deps.getD i [],j<ops.size∧(∃d,dsts.getD j none=some d)∧∃e∈o.after,Region.binds .any e=true∧e.on=j
 back:∀(i:Nat) (o:Oper),ops[i]? =some o→∀e∈o.after,Region.binds .any e=true→e.on<i
theorem qMP {m n:Nat} {deps:List (List Nat)} (h:qFf m ops n dsts deps=true):MonoOkM m ops n dsts deps:=by
 unfold qFf at h;simp only[Bool.and_eq_true,decide_eq_true_eq,List.all_eq_true,List.mem_range]at h;obtain⟨hlen,h⟩:=h;have hat:∀(i:Nat) (o:Oper),ops[i]? =some o→i<ops.size:=fun i o ho=>(gsl ho)
 have H:∀(i:Nat) (o:Oper),ops[i]? =some o→((((((qGH o)=true∧(o.dst==dsts.getD i none)=true)∧
   (match o.dst with |some d=>decide (d<n)&&(List.range ops.size).all fun j=>j==i||dsts.getD j none != some d|none=>true)=true)∧
   (((List.range ops.size).filter fun j=>(decide (j<m)||decide (m≤i))&&match dsts.getD j none with |some d=>(o.looksAt ops).contains d|none=>false)==deps.getD i [])=true)∧
   (∀j∈deps.getD i [],(o.after.any fun e=>Region.binds .any e&&e.on==j)=true))∧
   (o.after.all fun e=> !Region.binds .any e||decide (e.on<i))=true):=by
  intro i o ho;have:=h i (hat i o ho);rw[ho]at this;simpa only[Bool.and_eq_true,List.all_eq_true]using this
 refine⟨hlen,?_,?_,?_,?_,?_,?_,?_⟩
 ·intro i o ho cs b hs;have:=(H i o ho).1.1.1.1.1;unfold qGH at this;rw[hs]at this
  cases this
 ·intro i o ho;simpa using(H i o ho).1.1.1.1.2
 ·intro i o d ho hd;have:=(H i o ho).1.1.1.2;rw[hd]at this;simp only[Bool.and_eq_true,decide_eq_true_eq]at this;exact this.1
 ·intro i j d hi hj h1 h2;obtain⟨o,ho⟩:∃o,ops[i]? =some o:=⟨ops[i],Array.getElem?_eq_getElem hi⟩;have e1:o.dst=dsts.getD i none:=by simpa using(H i o ho).1.1.1.1.2
  have:=(H i o ho).1.1.1.2;rw[e1,h1]at this;simp only[Bool.and_eq_true,List.all_eq_true,List.mem_range]at this;have:=this.2 j hj;rw[h2]at this;simpa using(by simpa using this:j=i).symm
 ·intro i o ho j d hjm hj hd hl;have:=(H i o ho).1.1.2;have e:(List.range ops.size).filter (fun j=>(decide (j<m)||decide (m≤i))&&match dsts.getD j none with |some d=>(o.looksAt ops).contains d|none=>false)=deps.getD i []:=by simpa using this
  rw[←e,List.mem_filter];refine⟨List.mem_range.2 hj,?_⟩;rw[hd];simpa[hjm]using hl
 ·intro i o ho j hj;have e0:=(H i o ho).1.1.2;have e:(List.range ops.size).filter (fun j=>(decide (j<m)||decide (m≤i))&&match dsts.getD j none with |some d=>(o.looksAt ops).contains d|none=>false)=deps.getD i []:=by simpa using e0
  have hjs:j<ops.size∧∃d,dsts.getD j none=some d:=by
   rw[←e,List.mem_filter]at hj;refine⟨List.mem_range.1 hj.1,?_⟩
   cases hd:dsts.getD j none with
   | some d=>exact⟨d,rfl⟩
   | none=>
    have:=hj.2;rw[hd]at this;simp at this
  have:=(H i o ho).1.2 j hj;rw[Array.any_eq_true']at this;obtain⟨e,he,hb⟩:=this;simp only[Bool.and_eq_true,beq_iff_eq]at hb;exact⟨hjs.1,hjs.2,e,he,hb.1,hb.2⟩
 ·intro i o ho e he hb;have:=(H i o ho).2;rw[Array.all_eq_true']at this;have:=this e he;rw[hb]at this;simpa using this
theorem qPN {a0:Act} {J:Array Bool→(Nat→Value)→World→Prop} {Q:Exit→Act→World→Prop} {deps:List (List Nat)} {m:Nat} (ok:MonoOkM m ops a0.tmps.size dsts deps) (tl:TailsOk ops m)
  (hsteps:∀(i:Nat) (o:Oper),i<m→ops[i]? =some o→qLK P ops a0 dsts J PΦ (deps.getD i []) i o)
  (hpan:∀(a:Act) ch W,a.defers=a0.defers→PΦ ch W→Q (.panic ch) a W)
  (hend:∀listed x W,(∀j,j<m→listed.getD j true=true)→J listed x W→qEI P ops Q (ops.size - m) m (fA0 dsts x (List.range m) a0) W):
  ∀(fuel:Nat) (listed:Array Bool) (x:Nat→Value) (a:Act) (W:World),JInvT ops a0 dsts J m listed x a W→(List.range ops.size).countP (fun i=> !listed.getD i true)≤fuel→qBa P .any ops Q fuel listed a W:=by
 intro fuel
 have hfin:∀(listed:Array Bool) (x:Nat→Value) (a:Act) (W:World),JInvT ops a0 dsts J m listed x a W→(∀j,j<m→listed.getD j true=true)→a=fA0 dsts x (List.range m) a0:=by
  intro listed x a W inv hall;have h1:a.defers=(fA0 dsts x (List.range m) a0).defers :=by rw[qBY,inv.defers]
  have h2:a.tmps=(fA0 dsts x (List.range m) a0).tmps :=by
   refine Array.ext_getElem? fun t=>?_
   by_cases ht:∃j,j<m∧dsts.getD j none=some t
   ·obtain⟨j,hj,hd⟩:=ht;have hjs:j<ops.size:=Nat.lt_of_lt_of_le hj tl.le;rw[inv.done j t hj (hall j hj) hd,qCO x t j hd]
    ·obtain⟨o,ho⟩:∃o,ops[j]? =some o:=⟨ops[j],Array.getElem?_eq_getElem hjs⟩;exact ok.inn j o t ho ((ok.dst j o ho).trans hd)
    ·exact fun k hk hkd=>ok.one k j t (Nat.lt_of_lt_of_le (List.mem_range.1 hk) tl.le) hjs hkd hd
    ·exact .inr (List.mem_range.2 hj)
   ·rw[inv.rest t fun j hj _ hd=>ht ⟨j,hj,hd⟩,qBb x t _ _ fun j hj hd=>ht ⟨j,List.mem_range.1 hj,hd⟩]
  obtain⟨at1,ad1⟩:=a;simp only at h1 h2;generalize fA0 dsts x (List.range m) a0=f at h1 h2;obtain⟨ft,fd⟩:=f;simp only at h1 h2;rw[h1,h2]
 have hgetD:∀(listed:Array Bool) j,listed.size=ops.size→j<ops.size→listed.getD j false=listed.getD j true:=by
  intro listed j hls hj;have hs:j<listed.size:=by omega
  simp only[Array.getD_eq_getD_getElem?,Array.getElem?_eq_getElem hs,Option.getD_some]
 have hready:∀(listed:Array Bool),listed.size=ops.size→Region.ready .any ops listed=[]→∀j,j<ops.size→listed.getD j true=true:=by
  intro listed hls hr j
  induction j using Nat.strongRecOn with
  | ind j ih=>
   intro hj
   cases hlj:listed.getD j true with
   | true=>rfl
   | false=>
    have:j∈Region.ready .any ops listed:=by
     rw[mem_ready];refine⟨hlj,ops[j],Array.getElem?_eq_getElem hj,fun e he hb=>?_⟩;have hlt:=ok.back j ops[j] (Array.getElem?_eq_getElem hj) e he hb;rw[hgetD _ _ hls (by omega)];exact ih e.on hlt (by omega)
    rw[hr]at this;simp at this
 have hnone:∀(listed:Array Bool),(∀j,j<ops.size→listed.getD j true=true)→Region.ready .any ops listed=[]:=by
  intro listed hall;refine List.eq_nil_iff_forall_not_mem.2 fun j hj=>?_;obtain⟨h1,o,ho,_⟩:=mem_ready.1 hj;rw[hall j (gsl ho)]at h1
  cases h1
 have hover:∀(fuel:Nat) (listed:Array Bool) (a:Act) (W:World),(∀j,j<ops.size→listed.getD j true=true)→Q .normal a W→qBa P .any ops Q fuel listed a W:=by
  intro fuel listed a W hall hq
  cases fuel with
  | zero=>exact⟨hnone _ hall,hq⟩
  | succ fuel=>exact⟨fun _=>hq,fun i hi=>by rw[hnone _ hall]at hi;simp at hi⟩
 have hset:∀(listed:Array Bool) i j,i<listed.size→(listed.setIfInBounds i true).getD j true=if i=j then true else listed.getD j true:=by
  intro listed i j hi;simp only[Array.getD_eq_getD_getElem?,Array.getElem?_setIfInBounds]
  by_cases h:i=j
  ·subst h;simp[hi]
  ·simp[h]
 have hbefore:∀(listed:Array Bool),(∀(j:Nat) (o:Oper),ops[j]? =some o→listed.getD j true=true→∀e∈o.after,Region.binds .any e=true→listed.getD e.on true=true)→listed.size=ops.size→∀i,m≤i→i∈Region.ready .any ops listed→∀j,j<i→listed.getD j true=true:=by
  intro listed hcl hls i him hi;obtain⟨hun,o,ho,hafter⟩:=mem_ready.1 hi;have hin:i<ops.size:=(gsl ho)
  have hall:∀k j,j<i→i - j≤k→listed.getD j true=true:=by
   intro k
   induction k with
   | zero=>intro j h1 h2;omega
   | succ k ihk=>
    intro j hj _;obtain⟨q,oq,hq1,hq2,hoq,e,he,hb,hon⟩:=tl.sink i him hin j hj
    by_cases hqi:q=i
    ·subst hqi;rw[ho]at hoq
     cases hoq
     have h1:=hafter e he hb;rw[hon,hgetD _ _ hls (by omega)]at h1;exact h1
    ·have h1:=ihk q (by omega) (by omega);have h2:=hcl q oq hoq h1 e he hb;rw[hon]at h2;exact h2
  exact fun j hj=>hall (i - j) j hj (Nat.le_refl _)
 have hseq:∀(k i fuel:Nat) (listed:Array Bool) (a:Act) (W:World),i+k=ops.size→listed.size=ops.size→m≤i→(∀j,j<i→listed.getD j true=true)→(∀j,i≤j→j<ops.size→listed.getD j true=false)→
   (∀(j:Nat) (o:Oper),ops[j]? =some o→listed.getD j true=true→∀e∈o.after,Region.binds .any e=true→listed.getD e.on true=true)→k≤fuel→qEI P ops Q k i a W→qBa P .any ops Q fuel listed a W:=by
  intro k
  induction k with
  | zero=>
   intro i fuel listed a W hik hls hmi hl hu hcl hf h;exact hover _ _ _ _ (fun j hj=>hl j (by omega)) h
  | succ k ihk=>
   intro i fuel listed a W hik hls hmi hl hu hcl hf h;obtain⟨f,rfl⟩:∃f,fuel=f+1:=⟨fuel - 1,by omega⟩;have hin:i<ops.size:=by omega
   refine⟨fun hr=>?_,fun q hq=>?_⟩
   ·have:=hready listed hls hr i hin;rw[hu i (Nat.le_refl _) hin]at this
    cases this
   ·obtain⟨hun,o,ho,hafter⟩:=mem_ready.1 hq;have hqn:q<ops.size:=(gsl ho);have hqi:i≤q:=Nat.le_of_not_lt fun hlt=>by rw[hl q hlt]at hun;cases hun
    have hb:=hbefore listed hcl hls q (by omega) hq
    have:q=i:=by
     refine Nat.le_antisymm (Nat.le_of_not_lt fun hlt=>?_) hqi;have h1:=hb i hlt;rw[hu i (Nat.le_refl _) hin]at h1
     cases h1
    subst this;have hqs:q<listed.size:=by omega
    refine qCI (fun a' W' hq2=>ihk (q+1) f (listed.setIfInBounds q true) a' W' (by omega) (by simp[hls]) (by omega) (fun j hj=>?_) (fun j hj1 hj2=>?_) ?_ (by omega) hq2) h
    ·rw[hset _ _ _ hqs]
     split
     ·rfl
     ·exact hl j (by omega)
    ·rw[hset _ _ _ hqs,if_neg (by omega)];exact hu j (by omega) hj2
    ·intro j oj hoj hlj e he hbe;rw[hset _ _ _ hqs]
     by_cases hjq:j=q
     ·subst hjq;rw[ho]at hoj
      cases hoj
      split
      ·rfl
      ·exact hl _ (ok.back j o ho e he hbe)
     ·rw[hset _ _ _ hqs,if_neg (Ne.symm hjq)]at hlj
      split
      ·rfl
      ·exact hcl j oj hoj hlj e he hbe
 -- all of the head is there
 have hdone:∀(listed:Array Bool) (x:Nat→Value) (a:Act) (W:World),JInvT ops a0 dsts J m listed x a W→(∀j,j<m→listed.getD j true=true)→qEI P ops Q (ops.size - m) m a W:=by
  intro listed x a W inv hall;rw[hfin _ _ _ _ inv hall];exact hend listed x W hall inv.jay
 induction fuel with
 | zero=>
  intro listed x a W inv hc
  have hall:∀j,j<ops.size→listed.getD j true=true:=fun j hj=>by
   have h0:(List.range ops.size).countP (fun i=> !listed.getD i true)=0:=by omega
   rw[List.countP_eq_zero]at h0;simpa using h0 j (List.mem_range.2 hj)
  have h:=hdone _ _ _ _ inv fun j hj=>hall j (Nat.lt_of_lt_of_le hj tl.le)
  by_cases hm:m<ops.size
  ·have:=hall m hm;rw[inv.tail m (Nat.le_refl _) hm]at this
   cases this
  ·rw[show ops.size - m=0 by omega]at h;exact hover 0 _ _ _ hall h
 | succ fuel ih=>
  intro listed x a W inv hc;refine⟨fun hr=>?_,fun i hi=>?_⟩
  ·have hall:=hready listed inv.ls hr;have h:=hdone _ _ _ _ inv fun j hj=>hall j (Nat.lt_of_lt_of_le hj tl.le)
   by_cases hm:m<ops.size
   ·have:=hall m hm;rw[inv.tail m (Nat.le_refl _) hm]at this
    cases this
   ·rw[show ops.size - m=0 by omega]at h;exact h
  ·obtain⟨hun,o,ho,hafter⟩:=mem_ready.1 hi;have hin:i<ops.size:=(gsl ho);have hils:i<listed.size:=by rw[inv.ls];exact hin
   have hod:=ok.dst i o ho
   by_cases him:i<m
   ·-- the results that o looks at are there
    have hdl:∀j∈deps.getD i [],j<m∧listed.getD j true=true∧∃d,dsts.getD j none=some d:=fun j hj=>by
     obtain⟨hjs,hd,e,he,hb,hon⟩:=ok.dep i o ho j hj;have h1:=hafter e he hb;have h2:=ok.back i o ho e he hb;rw[hon]at h1 h2;rw[hgetD _ _ inv.ls hjs]at h1;exact⟨by omega,h1,hd⟩
    have hstep:=hsteps i o him ho listed x W inv.ls hun (fun j hj=>(hdl j hj).2.1) inv.jay
    -- a and the act that is filled agree where o looks
    have hsame:∀t∈o.looksAt ops,(fA0 dsts x (deps.getD i []) a0).tmps[t]? =a.tmps[t]? :=by
     intro t ht
     by_cases htd:∃j,j<m∧dsts.getD j none=some t
     ·obtain⟨j,hjm,hd⟩:=htd;have hj:=Nat.lt_of_lt_of_le hjm tl.le;have hjd:=ok.looks i o ho j t hjm hj hd ht;obtain⟨h1,h2,_⟩:=hdl j hjd;rw[inv.done j t h1 h2 hd,qCO x t j hd]
      ·obtain⟨oj,hoj⟩:∃oj,ops[j]? =some oj:=⟨ops[j],Array.getElem?_eq_getElem hj⟩;exact ok.inn j oj t hoj ((ok.dst j oj hoj).trans hd)
      ·exact fun k hk hkd=>ok.one k j t (ok.dep i o ho k hk).1 hj hkd hd
      ·exact .inr hjd
     ·rw[qBb x t _ _ fun j hj hd=>htd ⟨j,(hdl j hj).1,hd⟩,inv.rest t fun j hj _ hd=>htd ⟨j,hj,hd⟩]
    have heval:execOp a.eval o=execOp (fA0 dsts x (deps.getD i []) a0).eval o:=execOp_congr o (ok.sel i o ho) fun z hz=>by
     cases z with
     | tmp t=>
      have:=hsame t (List.mem_append_left _ (List.mem_filterMap.2 ⟨.tmp t,by simpa using hz,rfl⟩));simp only[Act.eval,Array.getD_eq_getD_getElem?,this]
     | const v=>rfl
     | global g=>rfl
     | func f=>rfl
    have hwant:Region.wanted o (yielded ops a.tmps)=Region.wanted o (yielded ops (fA0 dsts x (deps.getD i []) a0).tmps):=by
     unfold Region.wanted
     cases hg:o.guard with
     | none=>rfl
     | some gw=>
      obtain⟨g,want⟩:=gw
      have hy:yielded ops a.tmps g=yielded ops (fA0 dsts x (deps.getD i []) a0).tmps g:=by
       unfold yielded
       cases ht:(ops[g]?).bind (·.dst)with
       | none=>rfl
       | some t=>
        have:=hsame t (by simp[Oper.looksAt,hg,ht]);simp only[Option.bind_some,this]
      simp only[hy]
    -- what comes next
    have hnext:∀v W',J (listed.setIfInBounds i true) (updV x i v) W'→qBa P .any ops Q fuel (listed.setIfInBounds i true) (a.put o.dst v) W':=by
     intro v W' hv;refine ih (listed.setIfInBounds i true) (updV x i v) _ _ ?_ ?_
     ·refine⟨by simp[inv.ls],by rw[qD5,inv.size],by rw[qBK,inv.defers],?_,?_,hv,?_,?_⟩
      ·intro j d hj hl hd
       by_cases hji:j=i
       ·subst hji;have hdo:o.dst=some d:=hod.trans hd;rw[qAs,if_pos ⟨hdo,by rw[inv.size];exact ok.inn j o d ho hdo⟩];simp[updV]
       ·rw[hset _ _ _ hils,if_neg (Ne.symm hji)]at hl;rw[qAs,if_neg]
        ·have:=inv.done j d hj hl hd;simp only[updV,if_neg hji];exact this
        ·rintro⟨h1,_⟩;exact hji (ok.one j i d (Nat.lt_of_lt_of_le hj tl.le) hin hd (hod.symm.trans h1))
      ·intro t ht
       have hne:o.dst≠some t:=by
        intro h1;refine ht i him ?_ (hod.symm.trans h1);rw[hset _ _ _ hils,if_pos rfl]
       rw[qAs,if_neg fun h1=>hne h1.1];refine inv.rest t fun j hj hl=>ht j hj ?_;rw[hset _ _ _ hils]
       split
       ·rfl
       ·exact hl
      ·intro q hq1 hq2;rw[hset _ _ _ hils,if_neg (by omega)];exact inv.tail q hq1 hq2
      ·intro j oj hoj hl e he hb;rw[hset _ _ _ hils]
       by_cases hji:j=i
       ·subst hji;rw[ho]at hoj
        cases hoj
        split
        ·rfl
        ·rw[←hgetD _ _ inv.ls]
         ·exact hafter e he hb
         ·have:=ok.back j o ho e he hb;omega
       ·rw[hset _ _ _ hils,if_neg (Ne.symm hji)]at hl
        split
        ·rfl
        ·exact inv.closed j oj hoj hl e he hb
     ·refine Nat.le_of_lt_succ (Nat.lt_of_lt_of_le (qBt (fun j hj hq=>?_) i (List.mem_range.2 hin) ?_ ?_) hc)
      ·rw[hset _ _ _ hils]at hq
       by_cases hij:i=j
       ·simp[hij]at hq
       ·simpa[hij]using hq
      ·rw[hun];rfl
      ·rw[hset _ _ _ hils,if_pos rfl];rfl
    unfold stOp;simp only[ho];rw[hwant]
    by_cases hw:Region.wanted o (yielded ops (fA0 dsts x (deps.getD i []) a0).tmps)=true
    ·rw[if_pos hw]at hstep ⊢
     have hK:=hstep (fun a' W'=>a'.defers=(fA0 dsts x (deps.getD i []) a0).defers ∧∃v,(∀d,o.dst=some d→a'.tmps[d]? =some v)∧J (listed.setIfInBounds i true) (updV x i v) W') fun v W' hv=>
      ⟨qBK _ _ _,v,fun d hd=>by rw[qAs,if_pos ⟨hd,by rw[qBE];exact ok.inn i o d ho hd⟩],hv⟩
     unfold Oper.wp at hK ⊢;rw[heval];refine qJL (PΦ:=PΦ) (by rw[qBY,inv.defers]) (by rw[qBE,inv.size]) (fun d hd=>by rw[qBE];exact ok.inn i o d ho hd) _ hnext ?_ hK;intro ch W' h1;exact hpan _ _ _ inv.defers h1
    ·rw[if_neg hw]at hstep ⊢;exact hnext undef W hstep
   ·-- the tail
    have hall':=hbefore listed (fun j oj hoj hl e he hb=>inv.closed j oj hoj hl e he hb) inv.ls i (by omega) hi
    have him2:i=m:=by
     refine Nat.le_antisymm (Nat.le_of_not_lt fun h=>?_) (by omega);have h1:=hall' m h;rw[inv.tail m (Nat.le_refl _) (by omega)]at h1
     cases h1
    subst him2;have h:=hdone _ _ _ _ inv hall';have hk:ops.size - i=(ops.size - (i+1))+1:=by omega
    rw[hk]at h;refine qCI (fun a' W' hq=>hseq (ops.size - (i+1)) (i+1) fuel (listed.setIfInBounds i true) a' W' (by omega) (by simp[inv.ls]) (by omega) (fun q hq2=>?_) (fun q hq1 hq2=>?_) ?_ ?_ hq) h
    ·rw[hset _ _ _ hils]
     split
     ·rfl
     ·exact hall' q (by omega)
    ·rw[hset _ _ _ hils,if_neg (by omega)];exact inv.tail q (by omega) hq2
    ·intro j oj hoj hl e he hb;rw[hset _ _ _ hils]
     by_cases hji:j=i
     ·subst hji;rw[ho]at hoj
      cases hoj
      split
      ·rfl
      ·exact hall' _ (ok.back j o ho e he hb)
     ·rw[hset _ _ _ hils,if_neg (Ne.symm hji)]at hl
      split
      ·rfl
      ·exact inv.closed j oj hoj hl e he hb
    ·refine Nat.le_trans ?_ (Nat.le_of_lt_succ (Nat.lt_of_lt_of_le (qBt (q:=fun j=> !(listed.setIfInBounds i true).getD j true) (fun j hj hq=>?_) i (List.mem_range.2 hin) ?_ ?_) hc))
     ·refine Nat.le_trans ?_ (qHL (ops:=ops) (k:=i+1) (fun q hq1 hq2=>?_))
      ·exact Nat.le_refl _
      ·rw[hset _ _ _ hils,if_neg (by omega)];exact inv.tail q (by omega) hq2
     ·rw[hset _ _ _ hils]at hq
      by_cases hij:i=j
      ·simp[hij]at hq
      ·simpa[hij]using hq
     ·rw[hun];rfl
     ·rw[hset _ _ _ hils,if_pos rfl];rfl
theorem qJN {id:Nat} {a0:Act} {w:World} {Q:Exit→Act→World→Prop} {os:List Oper} (m:Nat) (dsts:List (Option Tmp)) (deps:List (List Nat)) (J:JRel) (PΦ:List PanicEntry→World→Prop)
  (hm:P.follows .mixedOrders =true) (hB:qFf m os.toArray a0.tmps.size dsts deps=true) (hT:qDt os.toArray m=true) (hg:((os.drop m).all fun o=>o.guard.isNone)=true)
  (h0:∀D x,(∀j,j<os.length→D j=false)→J D x {w with drawn:=w.drawn+1})
  (hsteps:qFe P os.toArray a0 dsts J PΦ (os.take m) (deps.take m) 0)
  (hpan:∀(a:Act) ch W,a.defers=a0.defers→PΦ ch W→Q (.panic ch) a W)
  (hend:∀D x W,(∀j,j<m→D j=true)→J D x W→∀Q':Exit→Act→World→Prop,(∀a W,Q .normal a W→Q' .normal a W)→(∀ch a W,Q (.panic ch) a W→Q' (.panic ch) a W)→wpList P os.toArray Q' (os.drop m) (fA0 dsts x (List.range m) a0) W):
  (Code.region id os.toArray true).wp P Q a0 w:=by
 have ok:=qMP hB;have tl:=qE8 hT;have hmo:m≤os.length:=by have:=tl.le;simpa using this
 have hset:∀(listed:Array Bool) i,i<listed.size→(fun j=>(listed.setIfInBounds i true).getD j true)=updB (fun j=>listed.getD j true) i:=by
  intro listed i hi
  funext j
  simp only[updB,Array.getD_eq_getD_getElem?,Array.getElem?_setIfInBounds]
  by_cases h:j=i
  ·subst h;simp[hi]
  ·simp[h,Ne.symm h]
 refine wp_region_any hm (qCs _ _ _ _ ?_);refine qPN (J:=fun listed x W=>J (fun j=>listed.getD j true) x W) (PΦ:=PΦ) ok tl (fun i o hi ho=>?_) hpan (fun listed x W hall hJ=>?_) _ _ (fun _=>undef) _ _ (qGW _ ?_ tl.le) ?_
 ·intro listed x W hls hun hdeps hJ;have his:i<listed.size:=by rw[hls];exact(gsl ho)
  have hos:(os.take m)[i]? =some o:=by rw[List.getElem?_take,if_pos hi];simpa using ho
  have h0:=qFJ hsteps i o hos;rw[Nat.zero_add,show(deps.take m).getD i []=deps.getD i []by simp[List.getD_eq_getElem?_getD,hi]]at h0;obtain⟨hg,h0⟩:=h0;have hw:Region.wanted o (yielded os.toArray (fA0 dsts x (deps.getD i []) a0).tmps)=true:=by unfold Region.wanted;rw[hg]
  rw[if_pos hw];intro K hK;refine qHK (ops:=os.toArray) (φ :=fun v W'=>J (updB (fun j=>listed.getD j true) i) (updV x i v) W') hg (fun Q hQ hP=>h0 _ x W hun hdeps hJ Q hQ hP) fun v W' h1=>hK v W' ?_;show J (fun j=>(listed.setIfInBounds i true).getD j true) _ _;rw[hset _ _ his];exact h1
 ·have h:=hend _ x W hall hJ (fun e a' W'=>e= .normal ∧Q .normal a' W'∨∃ch,e= .panic ch∧Q (.panic ch) a' W') (fun a W h=> .inl ⟨rfl,h⟩) (fun ch a W h=> .inr ⟨ch,rfl,h⟩);have h2:=qGa os.toArray (os.drop m) m _ W hg (fun j=>by simp) h;rw[List.length_drop]at h2;simpa using h2
 ·refine h0 _ _ fun j hj=>?_;have hj2:j<os.toArray.size:=by simpa using hj
  simp only[Array.getD_eq_getD_getElem?,Array.getElem?_replicate,if_pos hj2,Option.getD_some]
 ·exact Nat.le_trans List.countP_le_length (by simp)
end
section
variable {R:WRel} {P:Program} {Φs:List (MPredR R)} {PΦ:List PanicEntry→World→Prop}
theorem qJO {id:Nat} {a0:Act} {w:World} {Q:Exit→Act→World→Prop} {os:List Oper} (m:Nat) (dsts:List (Option Tmp)) (deps:List (List Nat)) (Φs:List (MPredR R)) (G:JRel) (PΦ:List PanicEntry→World→Prop)
  (hm:P.follows .mixedOrders =true) (hB:qFf m os.toArray a0.tmps.size dsts deps=true) (hT:qDt os.toArray m=true) (hg:((os.drop m).all fun o=>o.guard.isNone)=true)
  (hdm:((deps.take m).all fun d=>d.all fun j=>decide (j<m))=true)
  (h0:∀D x,(∀j,j<os.length→D j=false)→G D x {w with drawn:=w.drawn+1})
  (hsteps:qCa P os.toArray a0 w dsts Φs G PΦ (os.take m) (deps.take m) 0)
  (hpan:∀(a:Act) ch W,a.defers=a0.defers→PΦ ch W→Q (.panic ch) a W)
  (hend:∀D x W,(∀j,j<m→D j=true)→R.r w W→(∀j,j<m→fact Φs x W j)→G D x W→∀Q':Exit→Act→World→Prop,(∀a W,Q .normal a W→Q' .normal a W)→(∀ch a W,Q (.panic ch) a W→Q' (.panic ch) a W)→wpList P os.toArray Q' (os.drop m) (fA0 dsts x (List.range m) a0) W):
  (Code.region id os.toArray true).wp P Q a0 w:=by
 have hmo:m≤os.length:=by have:=(qE8 hT).le;simpa using this
 refine qJN m dsts deps (gRel w Φs m G) PΦ hm hB hT hg (fun D x hD=>⟨R.drew w,fun j hj hl=>?_,h0 D x hD⟩) (qG9 ?_ (by rw[List.length_take];omega) hsteps) hpan fun D x W hD hJ=>hend D x W hD hJ.1 (fun j hj=>hJ.2.1 j hj (hD j hj)) hJ.2.2
 ·rw[hD j (by omega)]at hl;cases hl
 ·intro d hd j hj;rw[List.all_eq_true]at hdm;have:=hdm d hd;rw[List.all_eq_true]at this;simpa using this j hj
theorem qHM {id:Nat} {a0:Act} {w:World} {Q:Exit→Act→World→Prop} {os:List Oper} (m:Nat) (dsts:List (Option Tmp)) (deps:List (List Nat)) (Φs:List (MPredR R)) (PΦ:List PanicEntry→World→Prop)
  (hm:P.follows .mixedOrders =true) (hB:qFf m os.toArray a0.tmps.size dsts deps=true) (hT:qDt os.toArray m=true) (hg:((os.drop m).all fun o=>o.guard.isNone)=true)
  (hdm:((deps.take m).all fun d=>d.all fun j=>decide (j<m))=true)
  (hsteps:qCa P os.toArray a0 w dsts Φs (fun _ _ _=>True) PΦ (os.take m) (deps.take m) 0)
  (hpan:∀(a:Act) ch W,a.defers=a0.defers→PΦ ch W→Q (.panic ch) a W)
  (hend:∀x W,R.r w W→(∀j,j<m→fact Φs x W j)→∀Q':Exit→Act→World→Prop,(∀a W,Q .normal a W→Q' .normal a W)→(∀ch a W,Q (.panic ch) a W→Q' (.panic ch) a W)→wpList P os.toArray Q' (os.drop m) (fA0 dsts x (List.range m) a0) W):
  (Code.region id os.toArray true).wp P Q a0 w:=
 qJO m dsts deps Φs (fun _ _ _=>True) PΦ hm hB hT hg hdm (fun _ _ _=>trivial) hsteps hpan fun D x W _ hR hf _=>hend x W hR hf
end
end Go.Proofs.YtenjpccpldajoaaGreatDoor

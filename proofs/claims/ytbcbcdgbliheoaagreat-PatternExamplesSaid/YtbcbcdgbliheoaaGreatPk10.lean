/- Regions that draw their order: first operations that only read (quiet ones, over a class of worlds), then a forced tail. Inside a wide fence and outside. A .. -/
import Derived.Test.YtbcbcdgbliheoaaGreatPk04
import Derived.StillTail
namespace Go.Proofs.YtbcbcdgbliheoaaGreat
set_option maxRecDepth 100000
open Go.RowKit Go.Shelf
set_option linter.unusedVariables false
set_option linter.unusedSimpArgs false
section
variable {P:Program} {ops:Array Oper} {C:World->Prop} {md:Region.Mode} {n m:Nat} {F:Fence}

def Lets (P:Program) (F:Fence) (n:Nat):Prop:=(∀f,F.fn f)/\F.depth=none/\∀f args w R,Calls P f args w R->CallsIn F (n - 1) P f args w R
theorem qL8:Lets P Fence.wide n:=⟨λ_=>trivial,rfl,λ_ _ _ _ h=>callsIn_wide.2 h⟩
theorem qEs (l:Nat):Lets P (Fence.wide.inRound l) n:=⟨λ_=>trivial,rfl,λ_ _ _ _ h=>CallsIn.inRound l (callsIn_wide.2 h)⟩

theorem qIe (hF:Lets P F n) {o:Oper} {a:Act} {K:Act->Prop} {K':Act->World->Prop} {Q':Exit->Act->World->Prop} {w:World} (hw:C w) (h:∀a w',C w'->K a->K' a w') (hnd:∀c,o.op≠ .defer c) (hh:o.quiet P a C K):
  o.wpIn F n P a w K' Q':=by
 obtain⟨v,l,j⟩:=hh;have b:=l w hw;unfold Oper.quietAt at b;unfold Oper.wpIn;refine⟨λ_ _=>hF.1 _,?_⟩;rw[Oper.semAt_plain F _ _ (λc=>hnd c)];generalize (execOp a.eval o).run P w=r at*
 cases r with
 | ok x w'=>
  cases x<;>simp only[Oper.quietUpon]at b<;>simp only[Oper.uponIn]
  case value u=>
   obtain⟨d,i⟩:=b;rw[d,i];exact h _ _ hw j
  case skip=>
   obtain⟨d,i⟩:=b;rw[d,<-i];exact h _ _ hw j
  case enter f args=>
   obtain⟨d,p⟩:=b;rw[d];refine⟨(λk=>by rw[hF.2.1]at k;cases k),hF.2.2 _ _ _ _ (p.mono λe s ⟨q,g⟩=>?_)⟩;subst q;exact h _ _ g j
 | halt x w'=>simp only[Oper.quietUpon]at b
theorem qIf (hF:Lets P F n) {i:Nat} {a:Act} {K:Act->Prop} {K':Act->World->Prop} {Q':Exit->Act->World->Prop} {w:World} (hC:C w) (h:∀a w',C w'->K a->K' a w') (hnd:∀o∈ops,∀c,o.op≠ .defer c) (hh:qOp P ops C i K a):
  wpOpIn F n P ops Q' i K' a w:=by
 unfold qOp at hh;unfold wpOpIn
 split
 ·rename_i ho;simp only[ho]at hh;exact h _ _ hC hh
 ·rename_i o ho;simp only[ho]at hh
  split
  ·rename_i hw;simp only[hw,if_true]at hh;exact qIe hF hC h (hnd o (Array.mem_of_getElem? ho)) hh
  ·rename_i hw;simp only[hw]at hh;exact⟨λ_ _=>hF.1 _,h _ _ hC hh⟩

def qFq (P:Program) (md:Region.Mode) (ops:Array Oper) (C:World->Prop) (m:Nat) (L:Array Bool->Act->Prop):Nat->Array Bool->Act->Prop
 | 0,listed,a=>L listed a
 | f+1,listed,a=>Region.ready md ops listed≠[]/\∀i∈Region.ready md ops listed,i<m/\qOp P ops C i (qFq P md ops C m L f (listed.setIfInBounds i true)) a

theorem qFI (hF:Lets P F n) {g:Nat} {L:Array Bool->Act->Prop} {Q':Exit->Act->World->Prop} (hnd:∀o∈ops,∀c,o.op≠ .defer c)
  (hL:∀listed a w,C w->L listed a->wpAnyIn F n P md ops Q' g listed a w):
  ∀(f:Nat) (listed:Array Bool) (a:Act) (w:World),C w->qFq P md ops C m L f listed a->wpAnyIn F n P md ops Q' (f+g) listed a w
 | 0,listed,a,w,hw,h=>by rw[Nat.zero_add];exact hL _ _ _ hw h
 | f+1,listed,a,w,hw,h=>by
  rw[show f+1+g=(f+g)+1 by omega];exact⟨λh0=>absurd h0 h.1,λi hi=>qIf hF hw (λa' w' hw' h'=>qFI hF hnd hL f _ a' w' hw' h') hnd (h.2 i hi).2⟩
theorem qF0 {g:Nat} {L:Array Bool->Act->Prop} {Q':Exit->Act->World->Prop} (hL:∀listed a w,C w->L listed a->wpAny P md ops Q' g listed a w):
  ∀(f:Nat) (listed:Array Bool) (a:Act) (w:World),C w->qFq P md ops C m L f listed a->wpAny P md ops Q' (f+g) listed a w
 | 0,listed,a,w,hw,h=>by rw[Nat.zero_add];exact hL _ _ _ hw h
 | f+1,listed,a,w,hw,h=>by
  rw[show f+1+g=(f+g)+1 by omega];exact⟨λh0=>absurd h0 h.1,λi hi=>wpOp_of_qOp hw (λa' w' hw' h'=>qF0 hL f _ a' w' hw' h') (h.2 i hi).2⟩

theorem qJ7 {i:Nat} {oi:Oper} {v:Value} {L:Array Bool->Act->Prop} (hi:ops[i]? =some oi) (hsel:∀(j:Nat) (o:Oper) cs b,ops[j]? =some o->o.op≠ .select cs b)
  (hs:Region.sinkB md ops m=true) (hc:Region.chainB md ops m=true) (hn:m<ops.size) (hin:i<m)
  (hdone:∀listed a,L listed a->∀j∈Region.ready md ops listed,m<=j):
  ∀(f:Nat) (listed:Array Bool) (a:Act),HeadInv md ops m listed→
   (∀j oj,ops[j]? =some oj->j≠i->listed.getD j true=false->(∀e∈oj.after,Region.binds md e=true->e.on≠i)->oi.apart ops oj=true)→
   i∈Region.ready md ops listed->YieldsIn P ops C oi v a→
   qFq P md ops C m L f (listed.setIfInBounds i true) (a.put oi.dst v)->qFq P md ops C m L (f+1) listed a:=by
 intro f
 induction f with
 | zero=>
  intro listed a q _ s D H;have d:=(mem_ready.1 s).1;refine⟨λh=>(by rw[h]at s;cases s),λj t=>?_⟩;have p:j<m:=(Nat.lt_or_ge j m).resolve_right λh=>tail_waits hs hc hn q _ i rfl hin d j h t;refine⟨p,?_⟩
  by_cases c:j=i
  ·subst c;exact D.qOp hi H
  ·have:=hdone _ _ H j (ready_mono t c);omega
 | succ f ih=>
  intro listed a q g s D H;have d:=(mem_ready.1 s).1;refine⟨λh=>(by rw[h]at s;cases s),λj t=>?_⟩;have p:j<m:=(Nat.lt_or_ge j m).resolve_right λh=>tail_waits hs hc hn q _ i rfl hin d j h t;refine⟨p,?_⟩
  by_cases c:j=i
  ·subst c;exact D.qOp hi H
  ·have B:=(H.2 j (ready_mono t c)).2;obtain⟨r,oj,x,y⟩:=mem_ready.1 t
   have A:∀e∈oj.after,Region.binds md e=true->e.on≠i:=λe Q O E=>by
    have B:=y e Q O;rw[E,getD_both d]at B
    cases B
   have N:=qOp_put x (g j oj x c r A) (λcs b=>hsel i oi cs b hi) (λcs b=>hsel j oj cs b x) D B;have l:∀k ok,ops[k]? =some ok->k≠i->(listed.setIfInBounds j true).getD k true=false→
     (∀e∈ok.after,Region.binds md e=true->e.on≠i)->oi.apart ops ok=true:=λk ok R G d I=>by
    refine g k ok R G ?_ I
    by_cases z:j=k
    ·subst z;exact r
    ·rw[getD_set_ne true z]at d;exact d
   refine qOp_mono (λM J=>ih (listed.setIfInBounds j true) M (q.set t p) l (ready_mono s (Ne.symm c)) J.1 ?_) N;rw[Array.setIfInBounds_comm _ _ c];exact J.2
theorem qF1 {g:Nat} {Lq:Act->Prop} (hsel:Region.noSelect ops=true) (hs:Region.sinkB md ops m=true) (hc:Region.chainB md ops m=true) (hn:m<ops.size):
  ∀(l:List Oper) (k:Nat) (listed:Array Bool) (a:Act),(∀j,j<l.length->l[j]? =ops[k+j]?)->k+l.length=m->HeadInv md ops m listed→
  Region.lexHead md ops g l.length k listed=true->wpQuiet P ops C Lq l a→
  qFq P md ops C m (λlisted' a'=>Region.seqB md ops g m listed'=true/\Lq a') l.length listed a
 | [],k,listed,a,_,hk,_,hB,h=>by
  have:k=m:=by simpa using hk
  subst this;exact⟨by simpa[Region.lexHead]using hB,h⟩
 | o::l,k,listed,a,hl,hk,inv,hB,h=>by
  have d:ops[k]? =some o:=by simpa using(hl 0 (by simp)).symm
  simp only[List.length_cons,Region.lexHead,Bool.and_eq_true]at hB;obtain⟨⟨r,q⟩,f⟩:=hB;have b:k<m:=by simp only[List.length_cons]at hk;omega
  have c:k∈Region.ready md ops listed:=by simpa using r
  have i:qOp P ops C k (wpQuiet P ops C Lq l) a:=by unfold qOp;simp only[d];exact h
  obtain⟨v,s,hK⟩:=yieldsIn_of_qOp d i;exact qJ7 d (Region.noSelect_spec hsel) hs hc hn b (λlisted' a' p=>seqB_ready p.1) l.length listed a inv (Region.free_spec d q) c s
   (qF1 hsel hs hc hn l (k+1) _ _ (λj t=>by have:=hl (j+1) (by simp;omega);simpa[Nat.add_assoc,Nat.add_comm 1 j]using this) (by simp only[List.length_cons]at hk;omega) (inv.set c b) f hK)
theorem qGM {Q':Exit->Act->World->Prop}:∀(l:List Oper) (k:Nat) (listed:Array Bool) (a:Act) (w:World),(∀j,l[j]? =ops[k+j]?)→
  Region.seqB md ops l.length k listed=true->wpListIn F n P ops Q' l a w->wpAnyIn F n P md ops Q' l.length listed a w
 | [],_,_,_,_,_,hB,h=>⟨by simpa[Region.seqB]using hB,h⟩
 | o::l,k,listed,a,w,hl,hB,h=>by
  have h0:ops[k]? =some o:=by simpa using(hl 0).symm
  simp only[List.length_cons,Region.seqB,Bool.and_eq_true,decide_eq_true_eq]at hB;refine⟨λc=>(by rw[hB.1]at c;cases c),λi d=>?_⟩;rw[hB.1]at d;have b:i=k:=by simpa using d
  subst b;have p:wpOpIn F n P ops Q' i (wpListIn F n P ops Q' l) a w:=by unfold wpOpIn;simp only[h0];exact h
  exact wpOpIn_mono (λf q g=>qGM l (i+1) _ f q (λj=>by have:=hl (j+1);simpa[Nat.add_assoc,Nat.add_comm 1 j]using this) hB.2 g) p
theorem qFJ (os:List Oper) (m:Nat) (hm:m<=os.length):HeadInv md os.toArray m (Array.replicate os.toArray.size false):=
 ⟨by simp,λj oj _ hl=>(by rw[getD_replicate_false]at hl;cases hl),λt _ ht=>getD_in (by simpa using ht) (getD_replicate_false _ _)⟩

theorem qED (hF:Lets P F n) {id:Nat} {Q:Exit->Act->World->Prop} {a:Act} {w:World} {os:List Oper} (m:Nat) (hm:P.follows .mixedOrders =true) (hB:Region.lexTailB .any os.toArray m=true) (hnd:qDR os=true)
  (hC:C {w with drawn:=w.drawn+1}) (h:wpQuiet P os.toArray C (λa'=>∀w',C w'->wpListIn F n P os.toArray Q (os.drop m) a' w') (os.take m) a):(Code.region id os.toArray true).wpIn F n P Q a w:=by
 simp only[Region.lexTailB,Bool.and_eq_true,decide_eq_true_eq]at hB;obtain⟨⟨⟨⟨i,q⟩,t⟩,r⟩,f⟩:=hB;have s:m<os.length:=by simpa using q
 have b:(os.take m).length =m:=by simp;omega
 have d:(os.drop m).length =os.toArray.size - m:=by simp
 have H:=qF1 (md:= .any) (g:=os.toArray.size - m) i t r q (os.take m) 0 _ a (λj p=>by
  have k:j<m:=by rw[b]at p;exact p
  simp[k]) (by simpa using b) (qFJ os m (by omega)) (by rw[b];exact f) h
 refine wpIn_region_any hm ?_
 have:=qFI hF (Q':=Q) (g:=os.toArray.size - m) (qCw hnd) (λc a' w' l o=>by
  have:=qGM (md:= .any) (Q':=Q) (F:=F) (n:=n) (P:=P) (os.drop m) m c a' w' (λj=>by simp[List.getElem?_drop]) (by rw[d];exact o.1) (o.2 w' l)
  rwa[d]at this) _ _ _ _ hC H
 rw[b,show m+(os.toArray.size - m)=os.toArray.size by omega]at this;exact this
theorem qES {id:Nat} {Q:Exit->Act->World->Prop} {a:Act} {w:World} {os:List Oper} (m:Nat) (hm:P.follows .mixedOrders =true) (hB:Region.lexTailB .any os.toArray m=true)
  (hC:C {w with drawn:=w.drawn+1}) (h:wpQuiet P os.toArray C (λa'=>∀w',C w'->wpList P os.toArray Q (os.drop m) a' w') (os.take m) a):(Code.region id os.toArray true).wp P Q a w:=by
 simp only[Region.lexTailB,Bool.and_eq_true,decide_eq_true_eq]at hB;obtain⟨⟨⟨⟨i,q⟩,t⟩,r⟩,f⟩:=hB;have s:m<os.length:=by simpa using q
 have b:(os.take m).length =m:=by simp;omega
 have d:(os.drop m).length =os.toArray.size - m:=by simp
 have H:=qF1 (md:= .any) (g:=os.toArray.size - m) i t r q (os.take m) 0 _ a (λj p=>by
  have k:j<m:=by rw[b]at p;exact p
  simp[k]) (by simpa using b) (qFJ os m (by omega)) (by rw[b];exact f) h
 refine wp_region_any hm ?_
 have:=qF0 (Q':=Q) (g:=os.toArray.size - m) (λc a' w' l o=>by
  have:=wpAny_of_seq (md:= .any) (Q':=Q) (os.drop m) m c a' w' (λj=>by simp[List.getElem?_drop]) (by rw[d];exact o.1) (o.2 w' l)
  rwa[d]at this) _ _ _ _ hC H
 rw[b,show m+(os.toArray.size - m)=os.toArray.size by omega]at this;exact this
theorem qDB {id:Nat} {Q:Exit->Act->World->Prop} {a:Act} {w:World} {os:List Oper} (m:Nat) (hm:P.follows .mixedOrders =true) (hB:Region.lexTailB .any os.toArray m=true)
  (h:wpQuiet P os.toArray (λw'=>∃n,w'=w.drewN n) (λa'=>∀w',(∃n,w'=w.drewN n)->wpList P os.toArray Q (os.drop m) a' w') (os.take m) a):(Code.region id os.toArray true).wp P Q a w:=
 qES m hm hB ⟨1,rfl⟩ h
theorem qBQ (hF:Lets P F n) {id:Nat} {Q:Exit->Act->World->Prop} {a:Act} {w:World} {os:List Oper} (m:Nat) (hm:P.follows .mixedOrders =true) (hB:Region.lexTailB .any os.toArray m=true) (hnd:qDR os=true)
  (h:wpQuiet P os.toArray (λw'=>∃n,w'=w.drewN n) (λa'=>∀w',(∃n,w'=w.drewN n)->wpListIn F n P os.toArray Q (os.drop m) a' w') (os.take m) a):(Code.region id os.toArray true).wpIn F n P Q a w:=
 qED hF m hm hB hnd ⟨1,rfl⟩ h
end
theorem qJ8 {P:Program} {f:FuncId} {args:Array Value} {W:World} {n:Nat} {v:Value} (h:Calls P f args (W.drewN n) λe w'=>e= .returned v/\W.drewN n=w'):
  Calls P f args (W.drewN n) λe w''=>e= .returned v/\∃m,w''=W.drewN m:=h.mono λ_ _ ⟨he,hw⟩=>⟨he,n,hw.symm⟩
theorem qAV (F:(Nat->Value)->Array Value) (t:Array Value) (h:t=F (λi=>t.getD i undef)):∃u,t=F u:=⟨_,h⟩
def qAa (n:Nat):Code->List Code
 | .region m o d=>if m=n then[.region m o d]else[]
 | .seq a b=>match a with
  | .region m _ _=>if m=n then[.seq a b]else qAa n b
  | _=>qAa n a++qAa n b
 | .block _ c=>qAa n c
 | .scope c=>qAa n c
 | .loop c=>qAa n c
 | .cond _ a b=>qAa n a++qAa n b
 | _=>[]
end Go.Proofs.YtbcbcdgbliheoaaGreat

/- A range over an iterator that itself ranges over a function: between two rounds such an iterator turns records of loops, not walks of maps alone; and a round .. -/
import Derived.Test.YtabfaobakmjiaaaGreatPy07
namespace Go.Proofs.YtabfaobakmjiaaaGreat
set_option maxRecDepth 100000
set_option maxHeartbeats 1000000
open Go.RowKit Go.Shelf
set_option linter.unusedVariables false
theorem qCy {B B':Nat} {W W':World} (h:KeepsFrom B W W') (hB:B<=B'):KeepsFrom B' W W':=⟨h.size,λk o hk ho hc=>h.same k o (Nat.le_trans hB hk) ho hc⟩
def SeqO {α:Type} (F:Fence) (n:Nat) (P:Program) (g:Nat) (lb:Array Value) (encs:α->Array Value) (G:List α->α->World->Prop) (Kp:World->World->Prop) (S Sp:List α->Prop) (N:Nat) (w:World):Prop:=
 ∀(l:Nat) (J Jx:List α->World->Prop) (W:World),Below w.heap.size w W->OwnFrom W.heap.size J->OwnFrom W.heap.size Jx→
  (∀pre x W1,J pre W1->G pre x W1->pre.length<N->YieldAt F (n - 1) P l (encs x) W1 λe W'=>
   KeepsFrom W.heap.size W1 W'/\((e= .returned (.bool true)/\J (pre++[x]) W'/\Kp W1 W')∨(e= .returned (.bool false)/\Jx (pre++[x]) W')))→
  J [] W→
  CallsIn F n P g (#[.func (.yield l) #[] #[]]++lb) W λe W'=>(∃v,e= .returned v)/\((∃xs,S xs/\J xs W')∨(∃pre,Sp pre/\Jx pre W'))
variable {F:Fence} {n:Nat} {P:Program}
theorem qBU {α:Type} {g:Operand} {ps:Array Tmp} {assign body:Code} {Q:Exit->Act->World->Prop} {a:Act} {w:World}
  (hro:F.round=none) (h1:1<=n) {gf:Nat} {lb:Array Value} (hg:a.eval g= .func (.func gf) #[] lb) (hFg:F.fn gf) (eg:∀args w,(callFunc gf args).run P w= .ok (.enter gf args) w)
  {encs:α->Array Value} {G:List α->α->World->Prop} {Kp:World->World->Prop} {S Sp:List α->Prop} {N:Nat} {w0:World} (hseq:SeqO F (n - 1) P gf lb encs G Kp S Sp N w0)
  (hKt:∀{A B C:World},Kp A B->Kp B C->Kp A C) (hKb:∀(W:World) (l:Nat) (o o':Obj),w.heap.size<=l->W.heap[l]? =some o->o.isCells=false->o.isWalk=false->Kp W (W.putObj l o')) (hb0:Below w0.heap.size w0 w) (hps:∀x,(encs x).size =ps.size)
  (I:List α->World->Prop) (Ix:Code->List α->World->Prop) (hI:OwnFrom w.heap.size I) (hIx:∀c,OwnFrom w.heap.size (Ix c)) (h0:I [] w) (Ax:List α->α->Act->World->Prop) (hAx:∀pre x a' (W:World) (o:Loop) (o':Obj),Ax pre x a' W->W.heap[w.heap.size+1]? =some (.loop o)->Ax pre x a' (W.putObj (w.heap.size+1) o'))
  (hassign:∀(l:Nat) (pre:List α) (x:α) (W:World) (K:Act->World->Prop),I pre W->G pre x W->(∀a' W',KeepsFrom w.heap.size W W'->Kp W W'->I pre W'->Ax pre x a' W'->K a' W')→
   assign.wpIn (F.inRound l) (n - 1 - 1) P (Exit.then K (λ_ _ _=>False)) {tmps:=(ps.zip (encs x)).foldl (λt (p,v)=>t.setIfInBounds p v) a.tmps,defers:=[]} W)
  (hbody:∀(l:Nat) (pre:List α) (x:α) (a':Act) (W:World),I pre W->Ax pre x a' W->pre.length<N->body.wpIn (F.inRound l) (n - 1 - 1) P (ownPostG w.heap.size Kp I Ix (pre++[x]) W) a' W)
  (hdone:∀(D:Nat) (xs:List α) (W:World),w.heap.size<=D->S xs->I xs W->W.heap[D]? =some (.deferred (some []))->Q .normal {a with defers:={target:= .collected D,args:=#[]}::a.defers} W)
  (hstop:∀(D:Nat) (c:Code) (pre:List α) (W:World),w.heap.size<=D->Sp pre->Ix c pre W->W.heap[D]? =some (.deferred (some []))->c.wpIn F n P Q {a with defers:={target:= .collected D,args:=#[]}::a.defers} W):
  (Code.rangeFunc g ps assign body).wpIn F n P Q a w:=by
 refine wpIn_rangeFunc ?_;intro fn ap;rw[hro];obtain⟨d,f⟩:∃d:LoopState->Option Code->Loop,d=λst pe=>{state:=st,pending:=pe,fn,tmps:=a.tmps,params:=ps,assign,body,defers:=w.heap.size}:=⟨_,rfl⟩;obtain⟨H,U⟩:∃H,(w.alloc (.deferred (some []))).alloc (.loop (d .ready none))=H:=⟨_,rfl⟩;have a2:H.heap.size=w.heap.size+2:=by rw[<-U];simp
 have al:H.heap[w.heap.size+1]? =some (.loop (d .ready none)):=by
  rw[<-U];have:=World.alloc_heap_new (w.alloc (.deferred (some []))) (.loop (d .ready none));rwa[World.size_alloc]at this
 have ak:H.heap[w.heap.size]? =some (.deferred (some [])):=by
  rw[<-U];exact(Below.heap_alloc _ _ _ (by simp)).trans (World.alloc_heap_new w _)
 have aj:I [] H:=by rw[<-U];exact hI.alloc _ (hI.alloc _ h0)
 have ao:Below w0.heap.size w0 H:=by
  rw[<-U];exact hb0.trans ((((Below.refl _ w).alloc (Nat.le_refl _) _).alloc (by simp) _).mono hb0.size)
 have ab:∀{A:World} {q:Option Nat},(∀r,q=some r->H.heap.size<=r/\∃o:Obj,A.heap[r]? =some o/\o.isCells=false)->(∀r,q=some r->w.heap.size<=r/\∃o:Obj,A.heap[r]? =some o/\o.isCells=false):=
  λy r e=>by obtain⟨hB,o⟩:=y r e;exact⟨by omega,o⟩
 have z:∀{A B:World} {q:Option Nat} {k:Nat} {o:Obj},A.grownBy B q->(∀r,q=some r->H.heap.size<=r/\∃o:Obj,A.heap[r]? =some o/\o.isCells=false)->k<w.heap.size+2->A.heap[k]? =some o->B.heap[k]? =some o:=
  λ{A B q k o} hg y Y h=>(hg.block k (gsl h) (λe=>by have:=(y k e.symm).1;omega)).trans h
 refine⟨w.heap.size+1,[{target:= .collected w.heap.size,args:=#[]}],H,{target:= .fn (.func gf) lb,args:=#[.func (.yield (w.heap.size+1)) #[] #[]]},H,gf,
  #[.func (.yield (w.heap.size+1)) #[] #[]]++lb,H,?_,?_,?_,?_,λ_=>h1,?_⟩
 ·rw[<-U,f];exact run_enterLoop_outer _ _ _ _ _
 ·simp only[resolve,hg];simp[go_sem]
 ·intro f' ac;simp[Target.leads]at ac;subst ac;exact hFg
 ·simp[invoke,go_sem,eg]
 ·refine(hseq (w.heap.size+1)
   (λpre W=>I pre W/\W.heap[w.heap.size+1]? =some (.loop (d .ready none))/\W.heap[w.heap.size]? =some (.deferred (some [])))
   (λpre W=>∃c,Ix c pre W/\W.heap[w.heap.size+1]? =some (.loop (d .done (some c)))/\W.heap[w.heap.size]? =some (.deferred (some [])))
   H ao
   (λs A B q hs L y=>⟨hI s A B q hs.1 L (ab (A:=A) y),z L y (by omega) hs.2.1,z L y (by omega) hs.2.2⟩)
   (λs A B q hs L y=>by
    obtain⟨c,hc,E,Y⟩:=hs
    exact⟨c,hIx c s A B q hc L (ab (A:=A) y),z L y (by omega) E,z L y (by omega) Y⟩)
   ?_ ⟨aj,al,ak⟩).mono ?_
  ·rintro pre x W ⟨hi,E,Y⟩ aq ag;have ah:w.heap.size+1<W.heap.size:=(gsl E);have hy:=run_yield (P:=P) (args:=encs x) E (by rw[f];exact hps x);rw[f]at hy;refine⟨fn,_,assign,body,hy,roundIn_of_wpIn ap (hassign _ pre x W _ hi aq ?_)⟩;clear hy;intro a' Z X af ar an;replace E:=X.same _ _ (by omega) E rfl;replace Y:=X.same _ _ (Nat.le_refl _) Y rfl;replace ah:w.heap.size+1<Z.heap.size:=(gsl E);have av:=qCy X (B':=H.heap.size) (by omega);refine⟨_,run_beginRound E (by rw[f]),?_⟩;have turn:∀(V:World) (o:Obj),KeepsFrom H.heap.size V (V.putObj (w.heap.size+1) o):=λV o=>KeepsFrom.of_grownBy (grownBy_putObj' V (w.heap.size+1) o) (λj e=>by cases e;omega);have aw:(Z.putObj (w.heap.size+1) (.loop {d .ready none with state:= .busy})).heap[w.heap.size+1]? =some (.loop {d .ready none with state:= .busy}):=World.putObj_heap_same ah;have au:(Z.putObj (w.heap.size+1) (.loop {d .ready none with state:= .busy})).heap[w.heap.size]? =some (.deferred (some [])):=(World.putObj_heap_other (by omega)).trans Y;have ax:Kp Z (Z.putObj (w.heap.size+1) (.loop {d .ready none with state:= .busy})):=hKb _ _ _ _ (by omega) E rfl rfl;refine wpIn_mono (hbody _ pre x a' _ (hI.putObj _ ar (by omega) E rfl) (hAx pre x a' _ _ _ an E) ag) ?_;have fin:∀(b:Option Code) (T:World),KeepsFrom w.heap.size (Z.putObj (w.heap.size+1) (.loop {d .ready none with state:= .busy})) T→
     (Instr.endRound (w.heap.size+1) b).run P T= .ok (.bool b.isNone) (T.putObj (w.heap.size+1) (.loop (d (if b.isNone then .ready else .done) b)))∧
     T.heap[w.heap.size+1]? =some (.loop {d .ready none with state:= .busy})∧
     (T.putObj (w.heap.size+1) (.loop (d (if b.isNone then .ready else .done) b))).heap[w.heap.size+1]? =some (.loop (d (if b.isNone then .ready else .done) b))∧
     (T.putObj (w.heap.size+1) (.loop (d (if b.isNone then .ready else .done) b))).heap[w.heap.size]? =some (.deferred (some []))∧
     KeepsFrom H.heap.size W (T.putObj (w.heap.size+1) (.loop (d (if b.isNone then .ready else .done) b))):=λb T m=>by
    have i:=m.same _ _ (by omega) aw rfl;have:=run_endRound (P:=P) b i;rw[f]at this ⊢;exact⟨this,by rw[f]at i;exact i,World.putObj_heap_same (gsl i),(World.putObj_heap_other (by omega)).trans (m.same _ _ (Nat.le_refl _) au rfl),((av.trans (turn _ _)).trans (qCy m (by omega))).trans (turn _ _)⟩
   rintro e a3 T hp
   cases e with
   | normal=>
    obtain⟨m,ae,M⟩:=hp;obtain⟨y,i,R,O,J⟩:=fin none T m;exact⟨_,_,y,J,.inl ⟨rfl,⟨hI.putObj _ M (by omega) i rfl,R,O⟩,hKt af (hKt (hKt ax ae) (hKb _ _ _ _ (by omega) i rfl rfl))⟩⟩
   | ret=>
    obtain⟨m,M⟩:=hp;obtain⟨y,i,R,O,J⟩:=fin (some .ret) T m;exact⟨_,_,y,J,.inr ⟨rfl,.ret,(hIx _).putObj _ M (by omega) i rfl,R,O⟩⟩
   | exit id=>
    obtain⟨m,M⟩:=hp;obtain⟨y,i,R,O,J⟩:=fin (some (.exit id)) T m;exact⟨_,_,y,J,.inr ⟨rfl,.exit id,(hIx _).putObj _ M (by omega) i rfl,R,O⟩⟩
   | goto t=>
    obtain⟨m,M⟩:=hp;obtain⟨y,i,R,O,J⟩:=fin (some (.goto t)) T m;exact⟨_,_,y,J,.inr ⟨rfl,.goto t,(hIx _).putObj _ M (by omega) i rfl,R,O⟩⟩
   | panic ch=>exact hp.elim
   | outgrown=>exact hp.elim
  ·rintro e W2 ⟨⟨v,rfl⟩,(⟨xs,hS,hi,E,Y⟩| ⟨pre,am,c,hi,E,Y⟩)⟩
   ·exact⟨none,_,by have:=run_endLoop (P:=P) E (by rw[f];simp);rw[f]at this;exact this,hdone _ xs _ (Nat.le_refl _) hS (hI.putObj _ hi (by omega) E rfl) ((World.putObj_heap_other (by omega)).trans Y)⟩
   ·exact⟨some c,_,by have:=run_endLoop (P:=P) E (by rw[f];simp);rw[f]at this;exact this,hstop _ c pre _ (Nat.le_refl _) am ((hIx c).putObj _ hi (by omega) E rfl) ((World.putObj_heap_other (by omega)).trans Y)⟩
end Go.Proofs.YtabfaobakmjiaaaGreat
namespace Go.Proofs.YtabfaobakmjiaaaGreat
set_option maxRecDepth 100000
set_option maxHeartbeats 1000000
open Go.RowKit
set_option linter.unusedVariables false
def TagAt (t:TypeId) (w:World) (v:Value):Prop:=∀(a:Addr) (n c:Nat),v= .slice (some a) n c->∃cs,w.heap[a.block]? =some (.cells cs t)
theorem TagAt.le {t:TypeId} {w W:World} {v:Value} (h:TagAt t w v) (hb:Below w.heap.size w W):TagAt t W v:=λa n c e=>by
 obtain⟨cs,hc⟩:=h a n c e;exact⟨cs,(hb.block _ (gsl hc)).trans hc⟩
theorem TagAt.of_own {w:World} {base e size n:Nat} {v:Value} {xs:List Value} (h:w.ownsRow base e size v n xs):TagAt e w v:=λa k c q=>by
 rcases h.2 with⟨rfl,-⟩| ⟨g,cap,cur,rfl,-,hg,-⟩
 ·cases q
 ·injection q with q1;injection q1 with q1;subst q1;exact⟨_,hg⟩
def SpT (w:World) (v:Value) (L:List Spn):Prop:=SpnL w v L/\TagAt 115 w v
theorem SpT.le {w W:World} {v:Value} {L:List Spn} (h:SpT w v L) (hb:Below w.heap.size w W):SpT W v L:=⟨h.1.le hb,h.2.le hb⟩
theorem SpT.of_own {w:World} {base:Nat} {v:Value} {L:List Spn} (h:w.ownsRow base 115 2 v L.length (L.flatMap qAD)):SpT w v L:=⟨SV.of_own (λ_=>rfl) h,TagAt.of_own h⟩
theorem SpT.nil (w:World):SpT w (.slice none 0 0) []:=⟨SV.nil _,λa n c e=>by cases e⟩
theorem SpT.turn {w W:World} {v:Value} {L:List Spn} {r:Nat} (h:SpT w v L) (hg:w.grownBy W (some r)) (hr:∃o:Obj,w.heap[r]? =some o/\o.isCells=false):SpT W v L:=by
 obtain⟨⟨A,c,s,x,y,B,z⟩,q⟩:=h;refine⟨⟨A,c,s,x,y,B,λt=>?_⟩,λa n c e=>?_⟩
 ·obtain⟨b,off,p,g,C⟩:=z t;refine⟨b,off,p,Nat.lt_of_lt_of_le g hg.size,λj D i u E=>?_⟩;obtain⟨m,d⟩:=q ⟨b,off,none⟩ _ _ (by rw[s,p]);have f:b≠r:=λe=>by subst e;obtain⟨o,k,l⟩:=hr;rw[d]at k;cases k;cases l
  exact(World.cell?_of_block (hg.block b g (λe=>by injection e with e;exact f e))).trans (C j D i u E)
 ·obtain⟨m,d⟩:=q a n c e;have f:a.block≠r:=λe=>by obtain⟨o,k,l⟩:=hr;rw[e,k]at d;cases d;cases l
  exact⟨m,(hg.block _ (gsl d) (λe=>by injection e with e;exact f e)).trans d⟩
theorem qAO {W:World} {B:Nat} {v:Value} {t:TypeId} (h:W.heap[B]? =some (.cells #[v] t)):W.cell? ⟨B,0,none⟩=some v:=by simp[World.cell?,h]
def qHv (t:TypeId):Prop:=t=115∨t=108∨t=51∨t=178
structure KeepT (n₀:Nat) (W W':World):Prop where
 below:Below n₀ W W'
 tag:∀(k:Nat) (cs:Array Value) (t:TypeId),W.heap[k]? =some (.cells cs t)->qHv t->W'.heap[k]? =some (.cells cs t)
theorem KeepT.refl (n₀:Nat) (W:World):KeepT n₀ W W:=⟨Below.refl _ _,λ_ _ _ h _=>h⟩
theorem KeepT.trans {n₀:Nat} {A B C:World} (h:KeepT n₀ A B) (k:KeepT n₀ B C):KeepT n₀ A C:=⟨h.below.trans k.below,λi cs t hi ht=>k.tag i cs t (h.tag i cs t hi ht) ht⟩
theorem KeepT.fresh {n₀:Nat} {W W':World} (h:Below W.heap.size W W') (hn:n₀<=W.heap.size):KeepT n₀ W W':=⟨h.mono hn,λk cs t hk _=>(h.block k (gsl hk)).trans hk⟩
theorem KeepT.of_grown {n₀:Nat} {W W':World} {g:Nat} (hg:W.grownBy W' (some g)) (hn:n₀<=W.heap.size) (hb:n₀<=g) (ho:∀(cs:Array Value) (t:TypeId),W.heap[g]? =some (.cells cs t)->¬qHv t):KeepT n₀ W W':=
 ⟨Below.grown (Below.refl _ _) hg hn (λk e=>by cases e;exact hb),λk cs t hk ht=>(hg.block k (gsl hk) (λe=>by injection e with e;subst e;exact ho cs t hk ht)).trans hk⟩
theorem KeepT.put {n₀:Nat} {W:World} {l:Nat} {o:Obj} (o':Obj) (hn:n₀<=l) (hl:W.heap[l]? =some o) (ho:o.isCells=false):KeepT n₀ W (W.putObj l o'):=
 KeepT.of_grown (grownBy_putObj' W l o') (Nat.le_trans hn (Nat.le_of_lt (gsl hl))) hn (λcs t h=>by rw[hl]at h;cases h;cases ho)
theorem KeepT.setCell {n₀:Nat} {W:World} {g i:Nat} {cs:Array Value} {t:TypeId} (v:Value) (hn:n₀<=g) (hg:W.heap[g]? =some (.cells cs t)) (ht:¬qHv t):KeepT n₀ W (W.setCell ⟨g,i,none⟩ v):=
 ⟨(Below.refl _ _).setCell (p:=⟨g,i,none⟩) hn v,λk cs' t' hk ht'=>by
  refine(Below.heap_setCell _ ⟨g,i,none⟩ _ k (λe=>?_)).trans hk;have e:k=g:=e;subst e;rw[hg]at hk
  cases hk
  exact ht ht'⟩
theorem SpT.keep {n₀:Nat} {w W:World} {v:Value} {L:List Spn} (h:SpT w v L) (hk:KeepT n₀ w W):SpT W v L:=by
 obtain⟨⟨A,c,o,q,r,t,s⟩,m⟩:=h;refine⟨⟨A,c,o,q,r,t,λp=>?_⟩,λa n c e=>?_⟩
 ·obtain⟨b,off,l,g,x⟩:=s p;obtain⟨k,d⟩:=m ⟨b,off,none⟩ _ _ (by rw[o,l]);refine⟨b,off,l,Nat.lt_of_lt_of_le g hk.below.size,λj y i u z=>?_⟩;have f:=hk.tag _ _ _ d (.inl rfl);exact(World.cell?_of_block (a:=⟨b,off+j*2+i,none⟩) (show W.heap[b]? =w.heap[b]? from f.trans d.symm)).trans (x j y i u z)
 ·obtain⟨k,d⟩:=m a n c e;exact⟨k,hk.tag _ _ _ d (.inl rfl)⟩
theorem Bases.keep {n₀ B0:Nat} {w W:World} {B n:Nat} {D:DataW Unit} {bl:Int->Nat} {Z len:Nat} {cs:Int->Bool} {row:Int->List Spn} (h:Bases w B n D bl Z len cs row) (hk:KeepT n₀ w W) (hf:KeepsFrom B0 w W) (hB:B0<=B):Bases W B n D bl Z len cs row:=by
 refine⟨?_,h.has,h.wf,h.get,λc b=>⟨(h.blk c b).1,hk.tag _ _ _ (h.blk c b).2 (.inl rfl)⟩,h.len,h.apart⟩;obtain⟨f,d,g,i⟩:=h.own;exact⟨f,d,hf.same B _ hB g rfl,i⟩
theorem qLr {F:Fence} (hd:F.depth=none) {m m':Nat} {P:Program} {l:Nat} {f:FuncId} {tmps:Array Value} {assign body:Code} {w:World} {R:Ending->World->Prop}
  (h:RoundIn F m P l f tmps assign body w R):RoundIn F m' P l f tmps assign body w R:=⟨h.1,λc cs _=>h.2 c cs (λd h=>by rw[hd]at h;cases h)⟩
theorem OwnFrom.wider {β:Type} {B B':Nat} {I:β->World->Prop} (h:OwnFrom B I) (hB:B<=B'):OwnFrom B' I:=λs W W' row hs hg hr=>h s W W' row hs hg (λr e=>⟨Nat.le_trans hB (hr r e).1,(hr r e).2⟩)
theorem qCz {β:Type} {B n₀:Nat} {w:World} (h:n₀<=B) (hs:n₀<=w.heap.size):OwnFrom B (λ(_:β) W=>Below n₀ w W):=λs W W' row hb hg hr=>Below.grown hb hg (Nat.le_trans hs hb.size) (λk e=>Nat.le_trans h (hr k e).1)
theorem qJv {β:Type} {B n₀:Nat} {w:World} (h:n₀<=B) (hs:n₀<=w.heap.size):OwnFrom B (λ(_:β) W=>KeepT n₀ w W):=λs W W' row hb hg hr=>by
 refine hb.trans ⟨Below.grown (Below.refl _ _) hg (Nat.le_trans hs hb.below.size) (λk e=>Nat.le_trans h (hr k e).1),λk cs t hk ht=>(hg.block k (gsl hk) (λe=>?_)).trans hk⟩;obtain⟨-,o,ho,hc⟩:=hr k e.symm;rw[hk]at ho
 cases ho
 cases hc
open Go.RowKit Go.Shelf
set_option linter.unusedSimpArgs false
attribute [local go_sem] Oper.semAt_some
def qNC (x:Nat×Int):Array Value:=#[.int .i64 (x.1:Int),.int .i64 x.2]
theorem qHw (N q off c:Nat) (l:List Int) (w:World) (Bn n₀:Nat) (hN:N<=1000000) (hl:l.length=N) (hBn:Bn<w.heap.size) (hn₀:n₀<=w.heap.size) (hq:q<w.heap.size) (hr:∀k (h:k<l.length),w.cell? ⟨q,off+k,none⟩=some (.int .i64 l[k]))
  (hc:w.cell? ⟨Bn,0,none⟩=some (.slice (some ⟨q,off,none⟩) N c)) (hNc:N<=c):
  SeqO Fence.wide 4 Tryz.prog 94 #[.pointer (some ⟨Bn,0,none⟩)] qNC (λpre x _=>x.1+pre.length+1=N) (Kept n₀ [Bn,q]) (λxs=>xs.length=N) (λ_=>True) N w:=by
 intro l9 J Jx W E j s T C;have H:=(E.cell (p:=⟨Bn,0,none⟩) hBn).trans hc;have y:∀k (h:k<l.length),W.cell? ⟨q,off+k,none⟩=some (.int .i64 l[k]):=λk U=>(E.cell (p:=⟨q,off+k,none⟩) hq).trans (hr k U);have⟨O,G,S⟩:=hyd3 y T j;clear hr y T j s E;refine callsIn_of_wp Tryz.func94 rfl trivial ?_ rfl;simp only[Tryz.ntmps94,List.size_toArray,List.length_cons,List.length_nil,Nat.reduceAdd,Nat.reduceSub,Array.replicate_succ,Array.replicate_zero,List.push_toArray,List.append_toArray,List.nil_append,List.cons_append];gi_wp2;gi_loopw [3] (λi wr=>∃(k:Nat) (z:List (Nat×Int)),k<=N/\i= .int .i64 ((N:Int) - 1 - k)/\z.length=k/\J z wr/\Kept n₀ [Bn,q] W wr)
  (λi _=>(intOf i+1).toNat)
 case atStart=>exact⟨0,[],Nat.zero_le _,by go_num,rfl,C,Kept.refl _ _ _⟩
 case round=>
  obtain⟨k,z,U,rfl,f,o,g⟩:=hrel
  by_cases ab:k<N
  ·obtain⟨m,X⟩:∃m:Nat,N=k+m+1:=⟨N - k - 1,by omega⟩;have b:(N:Int) - 1 - (k:Int)=(m:Int):=by omega
   rw[b];have M:m<l.length:=by omega
   have I:=(g.cell (B:=q) (i:=off+m) (by simp)).trans (O.out m M);obtain⟨x,Q⟩:∃x,l[m]=x:=⟨_,rfl⟩;rw[Q]at I;have aa:=(g.cell (B:=Bn) (i:=0) (by simp)).trans H;obtain⟨fn,Y,A,R,hy,Z⟩:=G.out z (m,x) wr o (by show m+z.length+1=N;omega) (by omega);dsimp only[qNC]at hy;have j1:(m:Int)<(N:Int):=by omega
   have j2:(0:Int)<=(m:Int):=by omega
   have⟨v,ac,d,ad⟩:=hyd4 b X f Q;clear Q f X b;gi_wp2;refine Z.mono ?_;rintro e W3 ⟨t,(⟨rfl,D,L⟩| ⟨rfl,r⟩)⟩
   ·have V:=hyd1 t;clear t;gi_wp2;go_roundw
    case rel=>exact⟨k+1,_,by omega,by have:=v.out;go_num,by rw[List.length_append,d.out];rfl,D,g.trans L⟩
    case measure=>simp[intOf]
   ·gi_wp2;refine bodyPost_ret (results_none rfl _ _ _) rfl ?_;exact⟨⟨_,rfl⟩,.inr ⟨_,trivial,r⟩⟩
  ·obtain rfl:k=N:=by omega
   have b:(k:Int) - 1 - (k:Int)= -1:=by omega
   rw[b];have d:=hyd1 f;clear f;gi_wp2;go_end0;exact⟨⟨_,rfl⟩,.inl ⟨_,d.out,o⟩⟩
theorem qLs (A:Option Addr) (n c:Nat) (w:World):
  Calls Tryz.prog 46 #[.slice A n c] w λe w'=>e= .returned (.func (.func 94) #[] #[.pointer (some ⟨w.heap.size,0,none⟩)])/\w.alloc (.cells #[.slice A n c] 56)=w':=by
 have b:∀(fn:Fn) (first cap:Array Value) (w:World),(Instr.makeFunc fn first cap).run Tryz.prog w= .ok (.func fn first cap) w:=λ_ _ _ _=>rfl;go_enter Tryz.func46,Tryz.ntmps46;go_wp2;go_ret;exact⟨rfl,rfl⟩
end Go.Proofs.YtabfaobakmjiaaaGreat

/- Ranges over functions: iterators over an index, by one form of contract. A range over a function whose variables are boxed: each round first makes a box, then .. -/
import Derived.Test.YtbcbcdgbliheoaaGreatPk03
import Derived.RangeFuncNested
import Derived.RangeFuncBound
import Derived.RangeFuncCalls
import Derived.RangeFuncLeaves
import Derived.RangeFuncFrom
import Derived.Shelf.Abstract
import Derived.Shelf.RegionOpen
import Derived.OwnWalkIn
import Derived.TacticsInMore
import Derived.LoopNIn
import Derived.LoopIn
import Derived.RangeFuncWrites
namespace Go.Proofs.YtbcbcdgbliheoaaGreat
set_option maxRecDepth 100000
set_option maxHeartbeats 2000000
open Go.RowKit Go.Shelf
set_option linter.unusedVariables false
set_option linter.unusedSimpArgs false
attribute [local go_sem] Oper.semAt_some

def Kept (n₀:Nat) (Bs:List Nat) (W W':World):Prop:=Below n₀ W W'/\∀B∈Bs,W'.heap[B]? =W.heap[B]?
theorem Kept.refl (n₀:Nat) (Bs:List Nat) (W:World):Kept n₀ Bs W W:=⟨Below.refl _ _,λ_ _=>rfl⟩
theorem Kept.trans {n₀:Nat} {Bs:List Nat} {A B C:World} (h:Kept n₀ Bs A B) (k:Kept n₀ Bs B C):Kept n₀ Bs A C:=⟨h.1.trans k.1,λb hb=>(k.2 b hb).trans (h.2 b hb)⟩
theorem Kept.cell {n₀:Nat} {Bs:List Nat} {W W':World} (h:Kept n₀ Bs W W') {B i:Nat} (hB:B∈Bs):W'.cell? ⟨B,i,none⟩=W.cell? ⟨B,i,none⟩:=World.cell?_of_block (h.2 B hB)
theorem Kept.put {n₀:Nat} {Bs:List Nat} {w:World} (hn:n₀<=w.heap.size) (hBs:∀B∈Bs,B<w.heap.size) (W:World) (l:Nat) (o o':Obj) (hl:w.heap.size<=l) (h:W.heap[l]? =some o) (hc:o.isCells=false) (hw:o.isWalk=false):Kept n₀ Bs W (W.putObj l o'):=
 ⟨belowK_b hn W l o o' hl h hc hw,λB hB=>World.putObj_heap_other (by have:=hBs B hB;omega)⟩

def qG8 (P:Program) (g:Nat) (lb:Array Value) (N:Nat) (f:Fin N->Array Value) (n₀:Nat) (Bs:List Nat) (w:World):Prop:=
 SeqStopsK Fence.wide 4 P g lb f (Kept n₀ Bs) (λys=>ys=List.finRange N) (λpre=>pre<+:List.finRange N) N w
theorem qA4 {N:Nat} (k:Nat) (h:k<N):(List.finRange N).take (k+1)=(List.finRange N).take k++[⟨k,h⟩]:=by
 have b:k<(List.finRange N).length :=by simpa using h
 rw[List.take_add_one,List.getElem?_eq_getElem b];simp
theorem qLT {α:Type} {f:α->Value} {w0 W:World} {v:Value} {xs:List α} (h:Arr f w0 v xs) (hb:Below w0.heap.size w0 W):
  ∃A c,v= .slice A xs.length c/\xs.length<=c/\c<=maxLen/\(A=none->c=0)/\(0<xs.length->∃b off,A=some ⟨b,off,none⟩/\b<w0.heap.size/\∀j (h:j<xs.length),W.cell? ⟨b,off+j,none⟩=some (f xs[j])):=by
 obtain⟨A,c,t,i,k,o,m⟩:=h;refine⟨A,c,t,i,k,o,λg=>?_⟩;obtain⟨b,off,q,d,r⟩:=m g;exact⟨b,off,q,d,λj s=>(hb.cell (p:=⟨b,off+j,none⟩) d).trans (r j s)⟩

theorem qIH {F:Fence} {n:Nat} {P:Program} {w:World} {ops:Array Oper} {rest:List Oper} {o:Oper} {a:Act} {Q:Exit->Act->World->Prop} (hgd:o.guard=none) (s x:Operand) (t:TypeId)
  (ho:o.op= .call {callee:= .builtin .append,args:=#[s,x],argTypes:=#[t,t]})
  (base:Nat) (e:TypeId) (hE:qAd P t e (.int .i64 0) 8)
  (v:Value) (xs:List Int) (hs:a.eval s=v) (hown:w.ownsRow base e 1 v xs.length (xs.map vint))
  (sv:Value) (ys:List Int) (hx:a.eval x=sv) (hsrc:Ints w sv ys)
  (hlen:xs.length+ys.length<=1000000000) (hbase:base<=w.heap.size)
  (h:∀v' w',w'.ownsRow base e 1 v' (xs++ys).length ((xs++ys).map vint)->Below base w w'->w.grownBy w' v.ownBlock->(v'.ownBlock=none↔v.ownBlock=none/\ys=[])->wpListIn F n P ops Q rest (a.put o.dst v') w'):wpListIn F n P ops Q (o::rest) a w:=by
 refine wpListIn_plain hgd λK d=>?_;obtain⟨v',w',b,m,i,p⟩:=qJv (P:=P) (w:=w) (f:=vint) t o.type base e _ 8 hE v xs hown sv ys hsrc (λ_=>rfl) (by omega) (by omega) hbase;unfold Oper.wpIn;refine⟨?_,?_⟩
 ·simp[Oper.about,ho,resolve,Target.leads,Sem.run_pure]
 ·rw[Oper.semAt_plain F _ _ (by rw[ho];intro c g;cases g)];simp[execOp,ho,resolve,invoke,builtin,hs,hx,b,Result.andThen];exact d _ _ (h v' w' m ((Below.refl _ _).grown i hbase λk j=>(hown.lt k j).1) i p)

section
variable {P:Program} {ops:Array Oper} {C:World->Prop} {md:Region.Mode} {l n:Nat}
theorem qHR {o:Oper} {a:Act} {K:Act->Prop} {K':Act->World->Prop} {Q':Exit->Act->World->Prop} {w:World} (hw:C w) (h:∀a w',C w'->K a->K' a w') (hnd:∀c,o.op≠ .defer c) (hh:o.quiet P a C K):
  o.wpIn (Fence.wide.inRound l) n P a w K' Q':=by
 obtain⟨v,k,j⟩:=hh;have b:=k w hw;unfold Oper.quietAt at b;unfold Oper.wpIn;refine⟨λ_ _=>trivial,?_⟩;rw[show(Fence.wide.inRound l).round =some l from rfl,Oper.semAt_some _ _ _ hnd];generalize (execOp a.eval o).run P w=r at*
 cases r with
 | ok x w'=>
  cases x<;>simp only[Oper.quietUpon]at b<;>simp only[Oper.uponIn]
  case value u=>
   obtain⟨d,i⟩:=b;rw[d,i];exact h _ _ hw j
  case skip=>
   obtain⟨d,i⟩:=b;rw[d,<-i];exact h _ _ hw j
  case enter f args=>
   obtain⟨d,m⟩:=b;rw[d];refine⟨(λp=>by cases p),CallsIn.inRound l (callsIn_wide.2 (m.mono λe s ⟨q,g⟩=>?_))⟩;subst q;exact h _ _ g j
 | halt x w'=>simp only[Oper.quietUpon]at b
theorem qHS {i:Nat} {a:Act} {K:Act->Prop} {K':Act->World->Prop} {Q':Exit->Act->World->Prop} {w:World} (hC:C w) (h:∀a w',C w'->K a->K' a w') (hnd:∀o∈ops,∀c,o.op≠ .defer c) (hh:qOp P ops C i K a):
  wpOpIn (Fence.wide.inRound l) n P ops Q' i K' a w:=by
 unfold qOp at hh;unfold wpOpIn
 split
 ·rename_i ho;simp only[ho]at hh;exact h _ _ hC hh
 ·rename_i o ho;simp only[ho]at hh
  split
  ·rename_i hw;simp only[hw,if_true]at hh;exact qHR hC h (hnd o (Array.mem_of_getElem? ho)) hh
  ·rename_i hw;simp only[hw]at hh;exact⟨λ_ _=>trivial,h _ _ hC hh⟩
theorem qDg {Q:Act->Prop} {Q':Exit->Act->World->Prop} (hQ:∀a w,C w->Q a->Q' .normal a w) (hnd:∀o∈ops,∀c,o.op≠ .defer c):∀(fuel:Nat) (listed:Array Bool) (a:Act) (w:World),C w→
  wpAnyQ P md ops C Q fuel listed a->wpAnyIn (Fence.wide.inRound l) n P md ops Q' fuel listed a w
 | 0,_,_,_,hw,h=>⟨h.1,hQ _ _ hw h.2⟩
 | fuel+1,_,_,_,hw,h=>⟨λh0=>hQ _ _ hw (h.1 h0),λi hi=>qHS hw (λa' w' hw'=>qDg hQ hnd fuel _ a' w' hw') hnd (h.2 i hi)⟩
def qDR (ops:List Oper):Bool:=ops.all λo=>match o.op with | .defer _=>false|_=>true
theorem qCw {os:List Oper} (h:qDR os=true):∀o∈os.toArray,∀c,o.op≠ .defer c:=by
 intro o f c d;have b:=List.all_eq_true.1 h o (by simpa using f);simp[d]at b
theorem qBw {id:Nat} {Q:Exit->Act->World->Prop} {a:Act} {w:World} {os:List Oper} (hm:P.follows .mixedOrders =true) (hB:Region.lexB .any os.toArray=true) (hnd:qDR os=true)
  (h:wpQuiet P os.toArray (λw'=>∃n,w'=w.drewN n) (λa'=>∀w',(∃n,w'=w.drewN n)->Q .normal a' w') os a):(Code.region id os.toArray true).wpIn (Fence.wide.inRound l) n P Q a w:=by
 have b:=hB;simp only[Region.lexB,Bool.and_eq_true]at b;refine wpIn_region_any hm (qDg (C:=λw'=>∃n,w'=w.drewN n) (Q:=λa'=>∀w',(∃n,w'=w.drewN n)->Q .normal a' w') (λ_ w' c h=>h w' c) (qCw hnd) _ _ _ _ ⟨1,rfl⟩ ?_);have d:=wpAnyQ_lex (P:=P) (ops:=os.toArray) (C:=λw'=>∃n,w'=w.drewN n) (md:= .any) b.1 os.toArray.toList 0 (Array.replicate os.toArray.size false) a (by simp) (by simpa using b.2) (by simpa using h);simpa using d
end

def Marks (B:Nat) (w:World):List Deferred->Prop
 | []=>True
 | d::ds=>(∃D,d={target:= .collected D,args:=#[]}/\B<=D/\w.heap[D]? =some (.deferred (some []))/\∀d'∈ds,d'≠d)/\Marks B w ds
theorem Marks.keep {B:Nat} {w w':World}:∀{ds:List Deferred},Marks B w ds->(∀D,({target:= .collected D,args:=#[]}:Deferred)∈ds->w.heap[D]? =some (.deferred (some []))->w'.heap[D]? =some (.deferred (some [])))->Marks B w' ds
 | [],_,_=>trivial
 | d::ds,⟨⟨D,hd,hB,hD,hne⟩,hr⟩,hk=>⟨⟨D,hd,hB,hk D (by rw[<-hd];simp) hD,hne⟩,Marks.keep hr λD' hm h=>hk D' (by simp[hm]) h⟩
theorem qFW {w w':World} {base e:Nat} {size n:Nat} {v:Value} {xs:List Value} (h:w.ownsRow base e size v n xs) (hk:∀(k:Nat) (o:Obj),w.heap[k]? =some o->o.isCells=true->w'.heap[k]? =some o):w'.ownsRow base e size v n xs:=by
 obtain⟨c,b⟩:=h;refine⟨c,?_⟩
 rcases b with b| ⟨g,cap,cur,hv,hg,hh,r⟩
 ·exact Or.inl b
 ·exact Or.inr ⟨g,cap,cur,hv,hg,hk _ _ hh rfl,r⟩
theorem qAf {P:Program} {F:Fence} {n:Nat} {fn:Func} {tmps:Array Value} {R:Ending->World->Prop} (B:Nat):∀(ds:List Deferred) (w:World),Marks B w ds→
  (∀w':World,Below B w w'->(∀(k:Nat) (o:Obj),w.heap[k]? =some o->o.isCells=true->w'.heap[k]? =some o)->∃v,(results fn tmps).run P w'= .ok v w'/\R (.returned v) w')->LeavesInM F n P fn tmps R ds .returning w:=by
 intro ds
 induction ds with
 | nil=>intro w _ h;exact h w (Below.refl _ _) λ_ _ h _=>h
 | cons d ds ih=>
  rintro w ⟨⟨D,rfl,y,c,j⟩,x⟩ h;refine⟨by simp,.inl ⟨D,_,rfl,run_takeDeferred c,ih _ (x.keep λq b r=>?_) λw' s t=>?_⟩⟩
  ·have f:q≠D:=by
    rintro rfl;exact j _ b rfl
   rw[World.putObj_heap_other f];exact r
  ·have g:Below B w (w.putObj D (.deferred none)):=(Below.refl B w).grown (grownBy_putObj' w D _) (by have:=(gsl c);omega) (λk e=>by cases e;omega);refine h w' (g.trans s) λk o m p=>t k o ?_ p
   have i:k≠D:=by
    rintro rfl;rw[c]at m
    cases m
    cases p
   rw[World.putObj_heap_other i];exact m

def qKR (b:List Int) (i:Fin b.length):Array Value:=#[.int .i64 ((i.1:Int) - (b.length:Int) / 2),.int .i64 b[i.1]]
theorem qG9 (b:List Int) (v:Value) (w0 w:World) (Bn n₀:Nat) (hv:Ints w0 v b) (hbl:b.length<=1000) (hBn:Bn<w.heap.size) (hn₀:n₀<=w.heap.size) (h0:w0.heap.size<=n₀)
  (hb:Below w0.heap.size w0 w) (hc:w.cell? ⟨Bn,0,none⟩=some v):qG8 Tryz.prog 119 #[.pointer (some ⟨Bn,0,none⟩)] b.length (qKR b) n₀ [Bn] w:=by
 intro l J V W L _ _ S s;have z:=(L.cell (p:=⟨Bn,0,none⟩) hBn).trans hc;have y:Below w0.heap.size w0 W:=hb.trans (L.mono (Nat.le_trans h0 hn₀));obtain⟨A,c,rfl,U,E,_,N⟩:=qLT hv y;unfold maxLen at E;have H:=hyd1 N;clear N;refine callsIn_of_wp Tryz.func119 rfl trivial ?_ rfl;simp only[Tryz.ntmps119,List.size_toArray,List.length_cons,List.length_nil,Nat.reduceAdd,Nat.reduceSub,Array.replicate_succ,Array.replicate_zero,List.push_toArray,List.append_toArray,List.nil_append,List.cons_append];gi_wp2;gi_loopw [7] (λi wr=>∃k:Nat,k<=b.length/\i= .int .i64 k/\J ((List.finRange b.length).take k) wr/\Kept n₀ [Bn] W wr)
  (λi _=>b.length - (intOf i).toNat)
 case atStart=>exact⟨0,Nat.zero_le _,rfl,s,Kept.refl _ _ _⟩
 case round=>
  obtain⟨k,Z,rfl,h,f⟩:=hrel
  by_cases d:k<b.length
  ·obtain⟨r,g,rfl,T,m⟩:=H.out (by omega);have D:wr.cell? ⟨r,g+k,none⟩=some (.int .i64 b[k]):=(f.1.cell (p:=⟨r,g+k,none⟩) (by show r<n₀;omega)).trans (m k d);have o:=(f.cell (B:=Bn) (i:=0) (by simp)).trans z;obtain⟨Y,Q,q,I,O,R⟩:=S _ ⟨k,d⟩ wr h (by simp;omega);dsimp only[qKR]at O;have M:wr.cell? ⟨Bn,0,none⟩=some (.slice (some ⟨r,g,none⟩) b.length c):=o;generalize b[k]=x at D O;clear m o;gi_wp2;refine R.mono ?_;rintro e X (⟨rfl,t,G⟩| ⟨rfl,j⟩)
   ·gi_wp2;go_roundw
    case rel=>exact⟨k+1,by omega,by go_num,by rw[qA4 k d];exact t,f.trans G⟩
    case measure=>simp[intOf];omega
   ·gi_wp2;refine bodyPost_ret (results_none rfl _ _ _) rfl ?_;exact⟨⟨_,rfl⟩,.inr ⟨_,⟨_,by rw[<-qA4 k d];exact List.take_append_drop _ _⟩,j⟩⟩
  ·obtain rfl:k=b.length:=by omega
   gi_wp2;go_end0;exact⟨⟨_,rfl⟩,.inl ⟨_,List.take_of_length_le (by simp),h⟩⟩
theorem qKS (A:Option Addr) (n c:Nat) (w:World):
  Calls Tryz.prog 113 #[.slice A n c] w λe w'=>e= .returned (.func (.func 119) #[] #[.pointer (some ⟨w.heap.size,0,none⟩)])/\w.alloc (.cells #[.slice A n c] 22)=w':=by
 have b:∀(fn:Fn) (first cap:Array Value) (w:World),(Instr.makeFunc fn first cap).run Tryz.prog w= .ok (.func fn first cap) w:=λ_ _ _ _=>rfl;go_enter Tryz.func113,Tryz.ntmps113;go_wp2;go_ret;exact⟨rfl,rfl⟩
end Go.Proofs.YtbcbcdgbliheoaaGreat
namespace Go.Proofs.YtbcbcdgbliheoaaGreat
set_option maxRecDepth 100000
set_option maxHeartbeats 2000000
open Go.RowKit Go.Shelf
set_option linter.unusedVariables false
variable {F:Fence} {n:Nat} {P:Program}
theorem qFU {α:Type} {g:Operand} {ps:Array Tmp} {assign body:Code} {Q:Exit->Act->World->Prop} {a:Act} {w:World}
  (hro:F.round=none) (h1:1<=n) {gf:Nat} {lb:Array Value} (hg:a.eval g= .func (.func gf) #[] lb) (hFg:F.fn gf) (eg:∀args w,(callFunc gf args).run P w= .ok (.enter gf args) w)
  {encs:α->Array Value} {Kp:World->World->Prop} {S Sp:List α->Prop} {N:Nat} {w0:World} (hseq:SeqStopsK F (n - 1) P gf lb encs Kp S Sp N w0)
  (hKt:∀{A B C:World},Kp A B->Kp B C->Kp A C) (hKb:∀(W:World) (l:Nat) (o o':Obj),w.heap.size<=l->W.heap[l]? =some o->o.isCells=false->o.isWalk=false->Kp W (W.putObj l o')) (hb0:Below w0.heap.size w0 w) (hps:∀x,(encs x).size =ps.size)
  (I:List α->World->Prop) (Ix:Code->List α->World->Prop) (hI:OwnFrom w.heap.size I) (hIx:∀c,OwnFrom w.heap.size (Ix c)) (h0:I [] w) (a₁:α->World->Act) (W₁:α->World->World)
  (hgrow:∀(x:α) (W:World),W.grownBy (W₁ x W) none) (hKa:∀(x:α) (W:World),w.heap.size<=W.heap.size->Kp W (W₁ x W))
  (hassign:∀(l:Nat) (x:α) (W:World) (K:Act->World->Prop),K (a₁ x W) (W₁ x W)→
   assign.wpIn (F.inRound l) (n - 1 - 1) P (Exit.then K (λ_ _ _=>False)) {tmps:=(ps.zip (encs x)).foldl (λt (p,v)=>t.setIfInBounds p v) a.tmps,defers:=[]} W)
  (hbody:∀(l:Nat) (pre:List α) (x:α) (W V:World),I pre V->w.heap.size<=W.heap.size->V.heap.size=(W₁ x W).heap.size ->(∀(B:Nat) (o:Obj),(W₁ x W).heap[B]? =some o->o.isCells=true->V.heap[B]? =some o)->pre.length<N→
   body.wpIn (F.inRound l) (n - 1 - 1) P (ownPostG w.heap.size Kp I Ix (pre++[x]) V) (a₁ x W) V)
  (hdone:∀(D:Nat) (xs:List α) (W:World),w.heap.size<=D->S xs->I xs W->W.heap[D]? =some (.deferred (some []))->Q .normal {a with defers:={target:= .collected D,args:=#[]}::a.defers} W)
  (hstop:∀(D:Nat) (c:Code) (pre:List α) (W:World),w.heap.size<=D->Sp pre->Ix c pre W->W.heap[D]? =some (.deferred (some []))->c.wpIn F n P Q {a with defers:={target:= .collected D,args:=#[]}::a.defers} W):
  (Code.rangeFunc g ps assign body).wpIn F n P Q a w:=by
 refine wpIn_rangeFunc ?_;intro fn al;rw[hro];obtain⟨d,f⟩:∃d:LoopState->Option Code->Loop,d=λst pe=>{state:=st,pending:=pe,fn,tmps:=a.tmps,params:=ps,assign,body,defers:=w.heap.size}:=⟨_,rfl⟩;obtain⟨J,z⟩:∃J,(w.alloc (.deferred (some []))).alloc (.loop (d .ready none))=J:=⟨_,rfl⟩
 have ag:J.heap[w.heap.size+1]? =some (.loop (d .ready none)):=by
  rw[<-z];have:=World.alloc_heap_new (w.alloc (.deferred (some []))) (.loop (d .ready none));rwa[World.size_alloc]at this
 have af:J.heap[w.heap.size]? =some (.deferred (some [])):=by
  rw[<-z];exact(Below.heap_alloc _ _ _ (by simp)).trans (World.alloc_heap_new w _)
 have ae:I [] J:=by rw[<-z];exact hI.alloc _ (hI.alloc _ h0)
 have ai:Below w0.heap.size w0 J:=by
  rw[<-z];exact hb0.trans ((((Below.refl _ w).alloc (Nat.le_refl _) _).alloc (by simp) _).mono hb0.size)
 have X:∀{A B:World} {E:Option Nat},(∀r,E=some r->J.heap.size<=r/\∃o:Obj,A.heap[r]? =some o/\o.isWalk=true)->(∀r,E=some r->w.heap.size<=r/\∃o:Obj,A.heap[r]? =some o/\o.isCells=false):=
  λj r e=>by obtain⟨hB,o,ho,hw⟩:=j r e;exact⟨by rw[<-z]at hB;simp at hB;omega,o,ho,Obj.not_cells_of_walk hw⟩
 refine⟨w.heap.size+1,[{target:= .collected w.heap.size,args:=#[]}],J,{target:= .fn (.func gf) lb,args:=#[.func (.yield (w.heap.size+1)) #[] #[]]},J,gf,
  #[.func (.yield (w.heap.size+1)) #[] #[]]++lb,J,?_,?_,?_,?_,λ_=>h1,?_⟩
 ·rw[<-z,f];exact run_enterLoop_outer _ _ _ _ _
 ·simp only[resolve,hg];simp[go_sem]
 ·intro f' Y;simp[Target.leads]at Y;subst Y;exact hFg
 ·simp[invoke,go_sem,eg]
 ·refine(hseq (w.heap.size+1)
   (λpre W=>I pre W/\W.heap[w.heap.size+1]? =some (.loop (d .ready none))/\W.heap[w.heap.size]? =some (.deferred (some [])))
   (λpre W=>∃c,Ix c pre W/\W.heap[w.heap.size+1]? =some (.loop (d .done (some c)))/\W.heap[w.heap.size]? =some (.deferred (some [])))
   J ai
   (λs A B E T k j=>⟨hI s A B E T.1 k (X (B:=B) j),(grownBy_keeps k (λr e=>(j r e).2) T.2.1 rfl).trans T.2.1,(grownBy_keeps k (λr e=>(j r e).2) T.2.2 rfl).trans T.2.2⟩)
   (λs A B E T k j=>by
    obtain⟨c,hc,H,O⟩:=T
    exact⟨c,hIx c s A B E hc k (X (B:=B) j),(grownBy_keeps k (λr e=>(j r e).2) H rfl).trans H,(grownBy_keeps k (λr e=>(j r e).2) O rfl).trans O⟩)
   ?_ ⟨ae,ag,af⟩).mono ?_
  ·rintro pre x W ⟨Z,H,O⟩ ab;have ar:w.heap.size+1<W.heap.size:=(gsl H);have hy:=run_yield (P:=P) (args:=encs x) H (by rw[f];exact hps x);rw[f]at hy;have R:=hgrow x W;have ap:=hKa x W (by omega);have aj:=hbody (w.heap.size+1) pre x W;have am:I pre (W₁ x W):=hI pre W _ none Z R (λr e=>by cases e);have L:(W₁ x W).heap[w.heap.size+1]? =some (.loop (d .ready none)):=(R.block _ ar (by simp)).trans H;have ao:(W₁ x W).heap[w.heap.size]? =some (.deferred (some [])):=(R.block _ (by omega) (by simp)).trans O;have ac:w.heap.size+1<(W₁ x W).heap.size :=(gsl L);refine⟨fn,_,assign,body,hy,roundIn_of_wpIn al (hassign _ x W _ ⟨_,run_beginRound L (by rw[f]),?_⟩)⟩;generalize W₁ x W=V at*;have aq:(V.putObj (w.heap.size+1) (.loop {d .ready none with state:= .busy})).heap[w.heap.size+1]? =some (.loop {d .ready none with state:= .busy}):=World.putObj_heap_same ac;have an:(V.putObj (w.heap.size+1) (.loop {d .ready none with state:= .busy})).heap[w.heap.size]? =some (.deferred (some [])):=(World.putObj_heap_other (by omega)).trans ao;have av:Kp W (V.putObj (w.heap.size+1) (.loop {d .ready none with state:= .busy})):=hKt ap (hKb _ _ _ _ (by omega) L rfl rfl);refine wpIn_mono (aj _ (hI.putObj _ am (by omega) L rfl) (by omega) (by simp[World.putObj]) (λB o ho hc=>?_) ab) ?_
   ·have au:B≠w.heap.size+1:=by
     rintro rfl;rw[L]at ho
     cases ho
     cases hc
    exact(World.putObj_heap_other au).trans ho
   have M:∀(b:Option Code) (G:World),KeepsFrom w.heap.size (V.putObj (w.heap.size+1) (.loop {d .ready none with state:= .busy})) G→
     (Instr.endRound (w.heap.size+1) b).run P G= .ok (.bool b.isNone) (G.putObj (w.heap.size+1) (.loop (d (if b.isNone then .ready else .done) b)))∧
     G.heap[w.heap.size+1]? =some (.loop {d .ready none with state:= .busy})∧
     (G.putObj (w.heap.size+1) (.loop (d (if b.isNone then .ready else .done) b))).heap[w.heap.size+1]? =some (.loop (d (if b.isNone then .ready else .done) b))∧
     (G.putObj (w.heap.size+1) (.loop (d (if b.isNone then .ready else .done) b))).heap[w.heap.size]? =some (.deferred (some [])):=λb G i=>by
    have h:=i.same _ _ (by omega) aq rfl;have:=run_endRound (P:=P) b h;rw[f]at this ⊢;exact⟨this,by rw[f]at h;exact h,World.putObj_heap_same (gsl h),(World.putObj_heap_other (by omega)).trans (i.same _ _ (Nat.le_refl _) an rfl)⟩
   rintro e a3 G U
   cases e with
   | normal=>
    obtain⟨i,aa,m⟩:=U;obtain⟨j,h,y,q⟩:=M none G i;exact⟨_,_,j,.inl ⟨rfl,⟨hI.putObj _ m (by omega) h rfl,y,q⟩,hKt (hKt av aa) (hKb _ _ _ _ (by omega) h rfl rfl)⟩⟩
   | ret=>
    obtain⟨i,m⟩:=U;obtain⟨j,h,y,q⟩:=M (some .ret) G i;exact⟨_,_,j,.inr ⟨rfl,.ret,(hIx _).putObj _ m (by omega) h rfl,y,q⟩⟩
   | exit id=>
    obtain⟨i,m⟩:=U;obtain⟨j,h,y,q⟩:=M (some (.exit id)) G i;exact⟨_,_,j,.inr ⟨rfl,.exit id,(hIx _).putObj _ m (by omega) h rfl,y,q⟩⟩
   | goto t=>
    obtain⟨i,m⟩:=U;obtain⟨j,h,y,q⟩:=M (some (.goto t)) G i;exact⟨_,_,j,.inr ⟨rfl,.goto t,(hIx _).putObj _ m (by omega) h rfl,y,q⟩⟩
   | panic ch=>exact U.elim
   | outgrown=>exact U.elim
  ·rintro e W2 ⟨⟨v,rfl⟩,(⟨xs,hS,Z,H,O⟩| ⟨pre,ah,c,Z,H,O⟩)⟩
   ·exact⟨none,_,by have:=run_endLoop (P:=P) H (by rw[f];simp);rw[f]at this;exact this,hdone _ xs _ (Nat.le_refl _) hS (hI.putObj _ Z (by omega) H rfl) ((World.putObj_heap_other (by omega)).trans O)⟩
   ·exact⟨some c,_,by have:=run_endLoop (P:=P) H (by rw[f];simp);rw[f]at this;exact this,hstop _ c pre _ (Nat.le_refl _) ah ((hIx c).putObj _ Z (by omega) H rfl) ((World.putObj_heap_other (by omega)).trans O)⟩
end Go.Proofs.YtbcbcdgbliheoaaGreat

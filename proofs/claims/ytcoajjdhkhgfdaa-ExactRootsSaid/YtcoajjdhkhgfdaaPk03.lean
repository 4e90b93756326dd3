/- Contracts of the functions of package slices at []int that the program uses. More of package slices at []int: Grow, Concat, Equal. Numbers counted around: the .. -/
import Derived.Test.YtcoajjdhkhgfdaaPk01
import Derived.Lib.AppendZeros
import Derived.RangeFuncNested
import Derived.RangeFuncBound
import Derived.RangeFuncCalls
import Derived.RangeFuncLeaves
import Derived.RangeFuncFrom
import Derived.Shelf.Abstract
import Derived.Shelf.RegionOpen
import Derived.OwnWalkIn
import Derived.TacticsInMore
import Derived.LoopNIn
import Derived.LoopIn
import Derived.RangeFuncWrites
import Derived.StillTail
namespace Go.Proofs.Ytcoajjdhkhgfdaa
set_option maxRecDepth 100000
open Go.RowKit

def idx {α:Type} (p:α->Bool) (zs:List α):Int:=match zs.findIdx? p with |some k=>k|none=> -1
theorem qLb {α:Type} (p:α->Bool) (zs:List α) (k:Nat) (h:k<zs.length) (hp:p zs[k]=true) (hn:∀j (h:j<zs.length),j<k->p zs[j]=false):(k:Int)=idx p zs:=by
 have:zs.findIdx? p=some k:=by
  rw[List.findIdx?_eq_some_iff_getElem];exact⟨h,hp,λj b=>by have:=hn j (by omega) b;simp[this]⟩
 unfold idx;rw[this]
theorem qKw {α:Type} (p:α->Bool) (zs:List α) (hn:∀j (h:j<zs.length),p zs[j]=false):(-1:Int)=idx p zs:=by
 have:zs.findIdx? p=none:=by
  rw[List.findIdx?_eq_none_iff];intro x c;obtain⟨j,b,rfl⟩:=List.mem_iff_getElem.1 c;exact hn j b
 unfold idx;rw[this]
theorem qLc {α:Type} (p:α->Bool) (zs:List α):decide (0<=idx p zs)=zs.any p:=by
 unfold idx
 cases h:zs.findIdx? p with
 | none=>
  rw[List.findIdx?_eq_none_iff]at h;have:zs.any p=false:=by simp only[List.any_eq_false];intro x d;simp[h x d]
  simp[this]
 | some k=>
  rw[List.findIdx?_eq_some_iff_getElem]at h;obtain⟨b,c,_⟩:=h;have:zs.any p=true:=List.any_eq_true.2 ⟨_,List.getElem_mem b,c⟩;simp[this]

set_option linter.unusedVariables false
set_option linter.unusedSimpArgs false
open Go.RowKit Go.Shelf
attribute [local go_sem] Oper.semAt_some

def Kept (n₀:Nat) (Bs:List Nat) (W W':World):Prop:=Below n₀ W W'/\∀B∈Bs,W'.heap[B]? =W.heap[B]?
theorem Kept.refl (n₀:Nat) (Bs:List Nat) (W:World):Kept n₀ Bs W W:=⟨Below.refl _ _,λ_ _=>rfl⟩
theorem Kept.trans {n₀:Nat} {Bs:List Nat} {A B C:World} (h:Kept n₀ Bs A B) (k:Kept n₀ Bs B C):Kept n₀ Bs A C:=⟨h.1.trans k.1,λb hb=>(k.2 b hb).trans (h.2 b hb)⟩
theorem Kept.cell {n₀:Nat} {Bs:List Nat} {W W':World} (h:Kept n₀ Bs W W') {B i:Nat} (hB:B∈Bs):W'.cell? ⟨B,i,none⟩=W.cell? ⟨B,i,none⟩:=World.cell?_of_block (h.2 B hB)
theorem Kept.put {n₀:Nat} {Bs:List Nat} {w:World} (hn:n₀<=w.heap.size) (hBs:∀B∈Bs,B<w.heap.size) (W:World) (l:Nat) (o o':Obj) (hl:w.heap.size<=l) (h:W.heap[l]? =some o) (hc:o.isCells=false) (hw:o.isWalk=false):Kept n₀ Bs W (W.putObj l o'):=
 ⟨belowK_b hn W l o o' hl h hc hw,λB hB=>World.putObj_heap_other (by have:=hBs B hB;omega)⟩

def qLy (P:Program) (g:Nat) (lb:Array Value) (N:Nat) (f:Fin N->Array Value) (n₀:Nat) (Bs:List Nat) (w:World):Prop:=
 SeqStopsK Fence.wide 4 P g lb f (Kept n₀ Bs) (λys=>ys=List.finRange N) (λpre=>pre<+:List.finRange N) N w
theorem qCH {N:Nat} (k:Nat) (h:k<N):(List.finRange N).take (k+1)=(List.finRange N).take k++[⟨k,h⟩]:=by
 have b:k<(List.finRange N).length :=by simpa using h
 rw[List.take_add_one,List.getElem?_eq_getElem b];simp
theorem qLz {α:Type} {f:α->Value} {w0 W:World} {v:Value} {xs:List α} (h:Arr f w0 v xs) (hb:Below w0.heap.size w0 W):
  ∃A c,v= .slice A xs.length c/\xs.length<=c/\c<=maxLen/\(A=none->c=0)/\(0<xs.length->∃b off,A=some ⟨b,off,none⟩/\b<w0.heap.size/\∀j (h:j<xs.length),W.cell? ⟨b,off+j,none⟩=some (f xs[j])):=by
 obtain⟨A,c,x,i,k,q,o⟩:=h;refine⟨A,c,x,i,k,q,λg=>?_⟩;obtain⟨b,off,r,d,s⟩:=o g;exact⟨b,off,r,d,λj t=>(hb.cell (p:=⟨b,off+j,none⟩) d).trans (s j t)⟩

section
variable {P:Program} {ops:Array Oper} {C:World->Prop} {md:Region.Mode} {l n:Nat}
def qFR (ops:List Oper):Bool:=ops.all λo=>match o.op with | .defer _=>false|_=>true
theorem qEm {os:List Oper} (h:qFR os=true):∀o∈os.toArray,∀c,o.op≠ .defer c:=by
 intro o f c d;have b:=List.all_eq_true.1 h o (by simpa using f);simp[d]at b
end

def Marks (B:Nat) (w:World):List Deferred->Prop
 | []=>True
 | d::ds=>(∃D,d={target:= .collected D,args:=#[]}/\B<=D/\w.heap[D]? =some (.deferred (some []))/\∀d'∈ds,d'≠d)/\Marks B w ds
theorem Marks.keep {B:Nat} {w w':World}:∀{ds:List Deferred},Marks B w ds->(∀D,({target:= .collected D,args:=#[]}:Deferred)∈ds->w.heap[D]? =some (.deferred (some []))->w'.heap[D]? =some (.deferred (some [])))->Marks B w' ds
 | [],_,_=>trivial
 | d::ds,⟨⟨D,hd,hB,hD,hne⟩,hr⟩,hk=>⟨⟨D,hd,hB,hk D (by rw[<-hd];simp) hD,hne⟩,Marks.keep hr λD' hm h=>hk D' (by simp[hm]) h⟩
theorem qHH {w w':World} {base e:Nat} {size n:Nat} {v:Value} {xs:List Value} (h:w.ownsRow base e size v n xs) (hk:∀(k:Nat) (o:Obj),w.heap[k]? =some o->o.isCells=true->w'.heap[k]? =some o):w'.ownsRow base e size v n xs:=by
 obtain⟨c,b⟩:=h;refine⟨c,?_⟩
 rcases b with b| ⟨g,cap,cur,hv,hg,hh,r⟩
 ·exact Or.inl b
 ·exact Or.inr ⟨g,cap,cur,hv,hg,hk _ _ hh rfl,r⟩
theorem qCn {P:Program} {F:Fence} {n:Nat} {fn:Func} {tmps:Array Value} {R:Ending->World->Prop} (B:Nat):∀(ds:List Deferred) (w:World),Marks B w ds→
  (∀w':World,Below B w w'->(∀(k:Nat) (o:Obj),w.heap[k]? =some o->o.isCells=true->w'.heap[k]? =some o)->∃v,(results fn tmps).run P w'= .ok v w'/\R (.returned v) w')->LeavesInM F n P fn tmps R ds .returning w:=by
 intro ds
 induction ds with
 | nil=>intro w _ h;exact h w (Below.refl _ _) λ_ _ h _=>h
 | cons d ds ih=>
  rintro w ⟨⟨D,rfl,z,c,j⟩,y⟩ h;refine⟨by simp,.inl ⟨D,_,rfl,run_takeDeferred c,ih _ (y.keep λr b s=>?_) λw' t x=>?_⟩⟩
  ·have f:r≠D:=by
    rintro rfl;exact j _ b rfl
   rw[World.putObj_heap_other f];exact s
  ·have g:Below B w (w.putObj D (.deferred none)):=(Below.refl B w).grown (grownBy_putObj' w D _) (by have:=(gsl c);omega) (λk e=>by cases e;omega);refine h w' (g.trans t) λk o p q=>x k o ?_ q
   have i:k≠D:=by
    rintro rfl;rw[c]at p
    cases p
    cases q
   rw[World.putObj_heap_other i];exact p

end Go.Proofs.Ytcoajjdhkhgfdaa
namespace Go.Proofs.Ytcoajjdhkhgfdaa
set_option maxRecDepth 100000
open Go.RowKit Go.Shelf
set_option linter.unusedVariables false
variable {F:Fence} {n:Nat} {P:Program}
end Go.Proofs.Ytcoajjdhkhgfdaa
namespace Go.Proofs.Ytcoajjdhkhgfdaa
set_option maxRecDepth 100000
open Go.RowKit Go.Shelf
set_option linter.unusedVariables false
set_option linter.unusedSimpArgs false
section
variable {P:Program} {ops:Array Oper} {C:World->Prop} {md:Region.Mode} {n m:Nat} {F:Fence}

end
theorem qDt {P:Program} {f:FuncId} {args:Array Value} {W:World} {n:Nat} {v:Value} (h:Calls P f args (W.drewN n) λe w'=>e= .returned v/\W.drewN n=w'):
  Calls P f args (W.drewN n) λe w''=>e= .returned v/\∃m,w''=W.drewN m:=h.mono λ_ _ ⟨he,hw⟩=>⟨he,n,hw.symm⟩
theorem qAp (F:(Nat->Value)->Array Value) (t:Array Value) (h:t=F (λi=>t.getD i undef)):∃u,t=F u:=⟨_,h⟩
def qBJ (n:Nat):Code->List Code
 | .region m o d=>if m=n then[.region m o d]else[]
 | .seq a b=>match a with
  | .region m _ _=>if m=n then[.seq a b]else qBJ n b
  | _=>qBJ n a++qBJ n b
 | .block _ c=>qBJ n c
 | .scope c=>qBJ n c
 | .loop c=>qBJ n c
 | .cond _ a b=>qBJ n a++qBJ n b
 | _=>[]
end Go.Proofs.Ytcoajjdhkhgfdaa

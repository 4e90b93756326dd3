/- Ranges over functions: iterators over an index, by one form of contract. A range over a function whose variables are boxed: each round first makes a box, then .. -/
import Derived.Test.YtfmfefibadpobaaGreatDoorPk04
import Derived.RangeFuncNested
import Derived.RangeFuncBound
import Derived.RangeFuncCalls
import Derived.RangeFuncLeaves
import Derived.RangeFuncFrom
import Derived.Shelf.Abstract
import Derived.Shelf.RegionOpen
import Derived.OwnWalkIn
import Derived.TacticsInMore
import Derived.LoopNIn
import Derived.LoopIn
import Derived.RangeFuncWrites
namespace Go.Proofs.YtfmfefibadpobaaGreatDoor
set_option maxRecDepth 100000
open Go.RowKit Go.Shelf
set_option linter.unusedVariables false
set_option linter.unusedSimpArgs false
attribute [local go_sem] Oper.semAt_some

def Kept (n₀:Nat) (Bs:List Nat) (W W':World):Prop:=Below n₀ W W'/\∀B∈Bs,W'.heap[B]? =W.heap[B]?
theorem Kept.refl (n₀:Nat) (Bs:List Nat) (W:World):Kept n₀ Bs W W:=⟨Below.refl _ _,λ_ _=>rfl⟩
theorem Kept.trans {n₀:Nat} {Bs:List Nat} {A B C:World} (h:Kept n₀ Bs A B) (k:Kept n₀ Bs B C):Kept n₀ Bs A C:=⟨h.1.trans k.1,λb hb=>(k.2 b hb).trans (h.2 b hb)⟩
theorem Kept.cell {n₀:Nat} {Bs:List Nat} {W W':World} (h:Kept n₀ Bs W W') {B i:Nat} (hB:B∈Bs):W'.cell? ⟨B,i,none⟩=W.cell? ⟨B,i,none⟩:=World.cell?_of_block (h.2 B hB)
theorem Kept.put {n₀:Nat} {Bs:List Nat} {w:World} (hn:n₀<=w.heap.size) (hBs:∀B∈Bs,B<w.heap.size) (W:World) (l:Nat) (o o':Obj) (hl:w.heap.size<=l) (h:W.heap[l]? =some o) (hc:o.isCells=false) (hw:o.isWalk=false):Kept n₀ Bs W (W.putObj l o'):=
 ⟨belowK_b hn W l o o' hl h hc hw,λB hB=>World.putObj_heap_other (by have:=hBs B hB;omega)⟩

def qHh (P:Program) (g:Nat) (lb:Array Value) (N:Nat) (f:Fin N->Array Value) (n₀:Nat) (Bs:List Nat) (w:World):Prop:=
 SeqStopsK Fence.wide 4 P g lb f (Kept n₀ Bs) (λys=>ys=List.finRange N) (λpre=>pre<+:List.finRange N) N w
theorem qBT {N:Nat} (k:Nat) (h:k<N):(List.finRange N).take (k+1)=(List.finRange N).take k++[⟨k,h⟩]:=by
 have b:k<(List.finRange N).length :=by simpa using h
 rw[List.take_add_one,List.getElem?_eq_getElem b];simp
theorem qHi {α:Type} {f:α->Value} {w0 W:World} {v:Value} {xs:List α} (h:Arr f w0 v xs) (hb:Below w0.heap.size w0 W):
  ∃A c,v= .slice A xs.length c/\xs.length<=c/\c<=maxLen/\(A=none->c=0)/\(0<xs.length->∃b off,A=some ⟨b,off,none⟩/\b<w0.heap.size/\∀j (h:j<xs.length),W.cell? ⟨b,off+j,none⟩=some (f xs[j])):=by
 obtain⟨A,c,t,i,k,o,m⟩:=h;refine⟨A,c,t,i,k,o,λg=>?_⟩;obtain⟨b,off,q,d,r⟩:=m g;exact⟨b,off,q,d,λj s=>(hb.cell (p:=⟨b,off+j,none⟩) d).trans (r j s)⟩

section
variable {P:Program} {ops:Array Oper} {C:World->Prop} {md:Region.Mode} {l n:Nat}
def qDV (ops:List Oper):Bool:=ops.all λo=>match o.op with | .defer _=>false|_=>true
theorem qDH {os:List Oper} (h:qDV os=true):∀o∈os.toArray,∀c,o.op≠ .defer c:=by
 intro o f c d;have b:=List.all_eq_true.1 h o (by simpa using f);simp[d]at b
end

def Marks (B:Nat) (w:World):List Deferred->Prop
 | []=>True
 | d::ds=>(∃D,d={target:= .collected D,args:=#[]}/\B<=D/\w.heap[D]? =some (.deferred (some []))/\∀d'∈ds,d'≠d)/\Marks B w ds
theorem Marks.keep {B:Nat} {w w':World}:∀{ds:List Deferred},Marks B w ds->(∀D,({target:= .collected D,args:=#[]}:Deferred)∈ds->w.heap[D]? =some (.deferred (some []))->w'.heap[D]? =some (.deferred (some [])))->Marks B w' ds
 | [],_,_=>trivial
 | d::ds,⟨⟨D,hd,hB,hD,hne⟩,hr⟩,hk=>⟨⟨D,hd,hB,hk D (by rw[<-hd];simp) hD,hne⟩,Marks.keep hr λD' hm h=>hk D' (by simp[hm]) h⟩
theorem qEh {w w':World} {base e:Nat} {size n:Nat} {v:Value} {xs:List Value} (h:w.ownsRow base e size v n xs) (hk:∀(k:Nat) (o:Obj),w.heap[k]? =some o->o.isCells=true->w'.heap[k]? =some o):w'.ownsRow base e size v n xs:=by
 obtain⟨c,b⟩:=h;refine⟨c,?_⟩
 rcases b with b| ⟨g,cap,cur,hv,hg,hh,r⟩
 ·exact Or.inl b
 ·exact Or.inr ⟨g,cap,cur,hv,hg,hk _ _ hh rfl,r⟩
theorem qBC {P:Program} {F:Fence} {n:Nat} {fn:Func} {tmps:Array Value} {R:Ending->World->Prop} (B:Nat):∀(ds:List Deferred) (w:World),Marks B w ds→
  (∀w':World,Below B w w'->(∀(k:Nat) (o:Obj),w.heap[k]? =some o->o.isCells=true->w'.heap[k]? =some o)->∃v,(results fn tmps).run P w'= .ok v w'/\R (.returned v) w')->LeavesInM F n P fn tmps R ds .returning w:=by
 intro ds
 induction ds with
 | nil=>intro w _ h;exact h w (Below.refl _ _) λ_ _ h _=>h
 | cons d ds ih=>
  rintro w ⟨⟨D,rfl,y,c,j⟩,x⟩ h;refine⟨by simp,.inl ⟨D,_,rfl,run_takeDeferred c,ih _ (x.keep λq b r=>?_) λw' s t=>?_⟩⟩
  ·have f:q≠D:=by
    rintro rfl;exact j _ b rfl
   rw[World.putObj_heap_other f];exact r
  ·have g:Below B w (w.putObj D (.deferred none)):=(Below.refl B w).grown (grownBy_putObj' w D _) (by have:=(gsl c);omega) (λk e=>by cases e;omega);refine h w' (g.trans s) λk o m p=>t k o ?_ p
   have i:k≠D:=by
    rintro rfl;rw[c]at m
    cases m
    cases p
   rw[World.putObj_heap_other i];exact m

end Go.Proofs.YtfmfefibadpobaaGreatDoor
namespace Go.Proofs.YtfmfefibadpobaaGreatDoor
set_option maxRecDepth 100000
open Go.RowKit Go.Shelf
set_option linter.unusedVariables false
variable {F:Fence} {n:Nat} {P:Program}
end Go.Proofs.YtfmfefibadpobaaGreatDoor

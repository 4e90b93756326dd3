/- Contracts of the functions of package slices at []int that the program uses. More of package slices at []int: Grow, Concat, Equal. Numbers counted around: the .. -/
import Derived.Test.YtfmfefibadpobaaGreatDoorPk01
import Derived.Lib.AppendZeros
namespace Go.Proofs.YtfmfefibadpobaaGreatDoor
set_option maxRecDepth 100000
open Go.RowKit

def idx {α:Type} (p:α->Bool) (zs:List α):Int:=match zs.findIdx? p with |some k=>k|none=> -1
theorem qH1 {α:Type} (p:α->Bool) (zs:List α) (k:Nat) (h:k<zs.length) (hp:p zs[k]=true) (hn:∀j (h:j<zs.length),j<k->p zs[j]=false):(k:Int)=idx p zs:=by
 have:zs.findIdx? p=some k:=by
  rw[List.findIdx?_eq_some_iff_getElem];exact⟨h,hp,λj b=>by have:=hn j (by omega) b;simp[this]⟩
 unfold idx;rw[this]
theorem qGs {α:Type} (p:α->Bool) (zs:List α) (hn:∀j (h:j<zs.length),p zs[j]=false):(-1:Int)=idx p zs:=by
 have:zs.findIdx? p=none:=by
  rw[List.findIdx?_eq_none_iff];intro x c;obtain⟨j,b,rfl⟩:=List.mem_iff_getElem.1 c;exact hn j b
 unfold idx;rw[this]
theorem qH2 {α:Type} (p:α->Bool) (zs:List α):decide (0<=idx p zs)=zs.any p:=by
 unfold idx
 cases h:zs.findIdx? p with
 | none=>
  rw[List.findIdx?_eq_none_iff]at h;have:zs.any p=false:=by simp only[List.any_eq_false];intro x d;simp[h x d]
  simp[this]
 | some k=>
  rw[List.findIdx?_eq_some_iff_getElem]at h;obtain⟨b,c,_⟩:=h;have:zs.any p=true:=List.any_eq_true.2 ⟨_,List.getElem_mem b,c⟩;simp[this]

set_option linter.unusedVariables false
set_option linter.unusedSimpArgs false
end Go.Proofs.YtfmfefibadpobaaGreatDoor

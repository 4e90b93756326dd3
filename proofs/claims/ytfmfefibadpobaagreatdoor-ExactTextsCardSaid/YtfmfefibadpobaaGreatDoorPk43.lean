/- From what a row's opening gives of a slice of integers to the predicate that the contracts speak of. -/
import Derived.Test.YtfmfefibadpobaaGreatDoorPk01
import Derived.ProofKit
import Derived.OpenShut
import Derived.ShutString
import Derived.ChangeOld
import Derived.Below
namespace Go.Proofs.YtfmfefibadpobaaGreatDoor
set_option maxRecDepth 100000
open Go.RowKit
set_option linter.unusedVariables false
def InRow (k:IntKind) (w:World) (a:Option Addr) (len cap:Nat) (zs:List Int):Prop:=
 (a=none/\len=0/\cap=0/\zs=[])∨
 ∃x,a=some x/\len<=cap/\cap<=maxLen/\zs.length=cap/\(∀i,i<zs.length->w.cell? (x.add i)=some (.int k (zs.getD i 0)))/\∀n∈zs,(Lit.int k n).wf =true
theorem InRow.arr {k:IntKind} {w:World} {a:Option Addr} {len cap:Nat} {zs:List Int} (h:InRow k w a len cap zs):Arr (Value.int k) w (.slice a len cap) (zs.take len)/\∀n∈zs.take len,(Lit.int k n).wf =true:=by
 rcases h with⟨rfl,rfl,rfl,rfl⟩| ⟨x,rfl,hl,hm,hz,hc,hw⟩
 ·exact⟨Arr.nil _ _,by simp⟩
 ·have c:(zs.take len).length =len:=by simp;omega
  refine⟨⟨some x,cap,by rw[c],by omega,hm,λh=>by simp at h,λp=>?_⟩,λn r=>hw n (List.mem_of_mem_take r)⟩;rw[c]at p;obtain⟨b,f,m⟩:=x;have i:=hc 0 (by omega);have d:m=none:=by simpa[Addr.add]using World.cell?_spot i
  subst d;refine⟨b,f,rfl,World.block_lt_of_cell? w _ i,λj q=>?_⟩;have l:j<zs.length:=by rw[c]at q;omega
  have o:=hc j l;have g:(⟨b,f,none⟩:Addr).add j=⟨b,f+j,none⟩:=by unfold Addr.add;split<;>simp_all
  rw[g]at o;rw[o];simp[l]
end Go.Proofs.YtfmfefibadpobaaGreatDoor

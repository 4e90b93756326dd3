/- Regions that draw their order: first operations that only read (quiet ones, over a class of worlds), then a forced tail. Inside a wide fence and outside. A .. -/
import Derived.Test.YtfmfefibadpobaaGreatDoorPk05
import Derived.StillTail
namespace Go.Proofs.YtfmfefibadpobaaGreatDoor
set_option maxRecDepth 100000
open Go.RowKit Go.Shelf
set_option linter.unusedVariables false
set_option linter.unusedSimpArgs false
section
variable {P:Program} {ops:Array Oper} {C:World->Prop} {md:Region.Mode} {n m:Nat} {F:Fence}

end
theorem qC4 {P:Program} {f:FuncId} {args:Array Value} {W:World} {n:Nat} {v:Value} (h:Calls P f args (W.drewN n) λe w'=>e= .returned v/\W.drewN n=w'):
  Calls P f args (W.drewN n) λe w''=>e= .returned v/\∃m,w''=W.drewN m:=h.mono λ_ _ ⟨he,hw⟩=>⟨he,n,hw.symm⟩
theorem qA2 (F:(Nat->Value)->Array Value) (t:Array Value) (h:t=F (λi=>t.getD i undef)):∃u,t=F u:=⟨_,h⟩
def qAb (n:Nat):Code->List Code
 | .region m o d=>if m=n then[.region m o d]else[]
 | .seq a b=>match a with
  | .region m _ _=>if m=n then[.seq a b]else qAb n b
  | _=>qAb n a++qAb n b
 | .block _ c=>qAb n c
 | .scope c=>qAb n c
 | .loop c=>qAb n c
 | .cond _ a b=>qAb n a++qAb n b
 | _=>[]
end Go.Proofs.YtfmfefibadpobaaGreatDoor

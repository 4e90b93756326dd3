/- reference 1: fractions: Order. reference 1: fractions: written. reference 1: fractions: Out. -/
import Derived.Test.YtbcbcdgbliheoaaGreatPk33
namespace Go.Proofs.YtbcbcdgbliheoaaGreat
set_option maxRecDepth 100000
open Go.RowKit Go.Shelf
set_option linter.unusedVariables false
set_option linter.unusedSimpArgs false
theorem qGC (w:World) (o0 o1:Obj):∃W0,(w.alloc o0).alloc o1=W0/\W0.heap.size=w.heap.size+2/\Le w W0/\W0.heap[w.heap.size]? =some o0/\W0.heap[w.heap.size+1]? =some o1:=by
 obtain⟨b,c,d⟩:=qBJ (Le.refl ((w.alloc o0).alloc o1));exact⟨_,rfl,by simp,b,c,d⟩
theorem qMP {W:World} {X:Nat} {v0 v1:Value} {t:TypeId} (h:W.heap[X]? =some (Obj.cells #[v0,v1] t)):W.cell? ⟨X,0,none⟩=some v0/\W.cell? ⟨X,1,none⟩=some v1:=
 ⟨cell_of_row W X 0 _ _ _ h,cell_of_row W X 1 _ _ _ h⟩
def qIY:Value:= .agg #[.bool false,.slice none 0 0,.bool false,.slice none 0 0]
theorem FracL.le {L:Nat->Prop} {w W:World} {v:Value} {r:Rat} (h:FracL L w v r) (hb:Le w W):FracL L W v r:=by
 obtain⟨A,c,B,d,e,b,f⟩:=h;exact⟨A,c,B,d,e,b.le hb,f.le hb⟩
end Go.Proofs.YtbcbcdgbliheoaaGreat

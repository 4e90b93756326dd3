/- Turning numbers, plain: sums, products, powers; how long their parts are. -/
import Derived.Test.YtbcbcdgbliheoaaGreatPk30
namespace Go.Proofs.YtbcbcdgbliheoaaGreat
set_option maxRecDepth 100000
set_option linter.unusedVariables false
abbrev G2:=Rat×Rat
def qCN (a:G2):Rat:=a.1*a.1+a.2*a.2
theorem qFT (x:Rat):0<=x*x:=by
 rcases(Rat.le_total:(0:Rat)<=x∨x<=0)with h|h
 ·exact Rat.mul_nonneg h h
 ·have b:0<= -x:=by grind
  have:=Rat.mul_nonneg b b
  grind
theorem qLE {a:G2} (h:qCN a=0):a.1=0/\a.2=0:=by
 unfold qCN at h;have d:=qFT a.1;have f:=qFT a.2;have b:a.1*a.1=0:=by grind
 have c:a.2*a.2=0:=by grind
 exact⟨by simpa using Rat.mul_eq_zero.1 b,by simpa using Rat.mul_eq_zero.1 c⟩
end Go.Proofs.YtbcbcdgbliheoaaGreat

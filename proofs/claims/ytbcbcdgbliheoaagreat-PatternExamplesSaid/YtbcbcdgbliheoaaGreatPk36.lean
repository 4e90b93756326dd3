/- reference 1: Ratio, Compare, Add, Mul, Div. reference 1: Sub. reference 1: Rounded. reference 1: Nearest. -/
import Derived.Test.YtbcbcdgbliheoaaGreatPk35
namespace Go.Proofs.YtbcbcdgbliheoaaGreat
set_option maxRecDepth 100000
open Go.RowKit Go.Shelf
set_option linter.unusedVariables false
set_option linter.unusedSimpArgs false
theorem qOB {a b:Rat} {n:Nat} (hb0:b≠0) (ha:Rsz a n) (hb:Rsz b n):Rsz (a / b) (n+n):=by
 have c:=ha.1;have d:=ha.2;have f:=hb.1;have g:=hb.2;rw[<-qKF hb0];obtain⟨k,q2⟩:=qNt (rneg a != rneg b) (rnum a*b.den) (a.den*rnum b) (Nat.ne_of_gt (Nat.mul_pos (qDX a) (Nat.pos_of_ne_zero λh=>hb0 (rnum_zero.1 h))));have i:=qAs (rnum a) b.den;have j:=qAs a.den (rnum b);exact⟨by omega,by omega⟩
def MPred.box (B:Nat) (o:Obj):MPred:=⟨λv w=>∃k,v= .pointer (some ⟨k,0,none⟩)/\B<=k/\w.heap[k]? =some o,λ_ _ _ hb ⟨k,e,h1,h2⟩=>⟨k,e,h1,(hb.block k (gsl h2)).trans h2⟩⟩
end Go.Proofs.YtbcbcdgbliheoaaGreat

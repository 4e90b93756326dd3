/- Texts of fractions: Parse undoes Text (plain). -/
import Derived.Test.YtfmfefibadpobaaGreatDoorPk22
namespace Go.Proofs.YtfmfefibadpobaaGreatDoor
set_option maxRecDepth 100000
open Go.RowKit
set_option linter.unusedVariables false
theorem qEF {k:Nat} (h:k<10):(dd k).toNat =48+k:=by
 unfold dd;rw[UInt8.toNat_ofNat'];omega
theorem qGc {k:Nat} (h:k<10):digB (dd k)=true:=by
 unfold digB;rw[qEF h];exact decide_eq_true (by omega)
theorem qHW {k:Nat} (h:k<10):dvB (dd k)=k:=by
 unfold dvB;rw[qEF h];omega
theorem qGd:∀n:Nat,(Lib.decDigits n).all digB=true/\decV 0 (Lib.decDigits n)=n/\Lib.decDigits n≠[]:=by
 intro n
 induction n using Nat.strongRecOn with
 | _ n ih=>
  by_cases h:n<10
  ·rw[qCF h];refine⟨by rw[List.all_cons,qGc h];rfl,?_,by simp⟩;show 0*10+dvB (dd n)=n;rw[qHW h];omega
  ·obtain⟨c,d,f⟩:=ih (n / 10) (by omega);have b:n%10<10:=Nat.mod_lt _ (by decide);rw[qDq h];refine⟨?_,?_,by simp⟩
   ·rw[List.all_append,c,List.all_cons,qGc b]
    rfl
   ·rw[qC3,d];show n / 10*10+dvB (dd (n%10))=n;rw[qHW b];omega
theorem qHC {b:UInt8} (h:digB b=true):b≠45:=λe=>by subst e;revert h;decide
theorem qFj (n k:Nat) (h:n<10^(k+1)):(Lib.decDigits n).length <=k+1:=by
 induction k generalizing n with
 | zero=>rw[qCF (by simpa using h)];exact Nat.le_refl _
 | succ k ih=>
  by_cases b:n<10
  ·rw[qCF b];show 1<=_;omega
  ·rw[qDq b,List.length_append,List.length_singleton];have:=ih (n / 10) (by rw[Nat.pow_succ]at h;omega);omega
theorem qHD {n m:Nat} (h:(dg n).length <=m) (hm:1<=m):(Lib.decDigits n).length <=9*m:=by
 have b:=Nat.lt_of_lt_of_le (qA1 n) (Nat.pow_le_pow_right (by rw[qAD];decide) h);rw[qC9,<-Nat.pow_mul]at b;have:=qFj n (9*m - 1) (by rw[show 9*m - 1+1=9*m by omega];exact b);omega
end Go.Proofs.YtfmfefibadpobaaGreatDoor

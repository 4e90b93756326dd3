/- Texts of numbers: the plain law of decimal digits. -/
import Derived.Test.YtfmfefibadpobaaGreatDoorPk02
import Derived.Lib.ItoaNum
import Derived.Lib.Atoi
namespace Go.Proofs.YtfmfefibadpobaaGreatDoor
set_option maxRecDepth 100000
open Go.RowKit
set_option linter.unusedVariables false
def dd (n:Nat):UInt8:=UInt8.ofNat (48+n)
def padK:Nat->Nat->List UInt8
 | 0,_=>[]
 | k+1,g=>padK k (g / 10)++[dd (g%10)]
theorem qCn:∀k g,(padK k g).length =k
 | 0,_=>rfl
 | k+1,g=>by unfold padK;rw[List.length_append,qCn k];rfl
theorem qCF {u:Nat} (h:u<10):Lib.decDigits u=[dd u]:=by rw[Lib.decDigits,dif_pos h];rfl
theorem qDq {u:Nat} (h:¬u<10):Lib.decDigits u=Lib.decDigits (u / 10)++[dd (u%10)]:=by rw[Lib.decDigits,dif_neg h];rfl
theorem qEW:∀(k n g:Nat),n≠0->g<10^k->Lib.decDigits (n*10^k+g)=Lib.decDigits n++padK k g
 | 0,n,g,h0,hg=>by
  rw[Nat.pow_zero]at hg ⊢
  obtain rfl:g=0:=by omega
  rw[Nat.mul_one,Nat.add_zero];show _=Lib.decDigits n++[];rw[List.append_nil]
 | k+1,n,g,h0,hg=>by
  rw[Nat.pow_succ]at hg ⊢;have d:0<10^k:=Nat.pow_pos (by decide);have f:1<=n*10^k:=Nat.mul_pos (by omega) d;have b:n*(10^k*10)=n*10^k*10:=(Nat.mul_assoc _ _ _).symm;rw[b];have c:¬n*10^k*10+g<10:=by omega
  rw[qDq c,show(n*10^k*10+g) / 10=n*10^k+g / 10 by omega,show(n*10^k*10+g)%10=g%10 by omega,qEW k n (g / 10) h0 (by omega),List.append_assoc]
  rfl
theorem qEg:∀k,padK k 0=List.replicate k 48
 | 0=>rfl
 | k+1=>by
  unfold padK;rw[show 0 / 10=0 from rfl,qEg k,List.replicate_succ']
  rfl
theorem qFg:∀(k g:Nat),1<=k->g<10^k->List.replicate (k - (Lib.decDigits g).length) 48++Lib.decDigits g=padK k g
 | 0,_,h,_=>absurd h (by decide)
 | k+1,g,_,hg=>by
  by_cases h:g<10
  ·rw[qCF h];unfold padK;rw[show g / 10=0 by omega,qEg,show g%10=g by omega]
   rfl
  ·have hk:1<=k:=by
    cases k with
    | zero=>rw[Nat.zero_add,Nat.pow_one]at hg;omega
    | succ k=>omega
   rw[Nat.pow_succ]at hg;rw[qDq h,List.length_append,List.length_singleton,Nat.add_sub_add_right,<-List.append_assoc,qFg k (g / 10) hk (by omega)]
   rfl
theorem qDF:∀k g,padK (k+1) g=dd (g / 10^k%10)::padK k g
 | 0,g=>by
  rw[Nat.pow_zero,Nat.div_one]
  rfl
 | k+1,g=>by
  show padK (k+1) (g / 10)++[dd (g%10)]=_
  rw[qDF k (g / 10),Nat.div_div_eq_div_mul,<-Nat.pow_succ']
  rfl
theorem qFB:∀k g,padK k (g%10^k)=padK k g
 | 0,_=>rfl
 | k+1,g=>by
  unfold padK;rw[Nat.pow_succ',Nat.mod_mul_right_div_self,qFB k (g / 10),Nat.mod_mul_right_mod]
theorem qGY {k g:Nat} (h0:g / 10^k≠0) (h:g<10^(k+1)):Lib.decDigits g=padK (k+1) g:=by
 have f:0<10^k:=Nat.pow_pos (by decide);have c:g / 10^k<10:=Nat.div_lt_of_lt_mul (by rw[Nat.pow_succ]at h;omega);have d:g%10^k<10^k:=Nat.mod_lt _ f;have e:g=g / 10^k*10^k+g%10^k:=by rw[Nat.mul_comm];exact(Nat.div_add_mod g (10^k)).symm
 have b:=qEW k (g / 10^k) (g%10^k) h0 d;rw[<-e,qCF c,qFB]at b;rw[b,qDF,Nat.mod_eq_of_lt c]
 rfl
theorem qC9:B9=10^9:=by rw[qAD]
def txG:List Nat->List UInt8
 | []=>[]
 | [g]=>Lib.decDigits g
 | g::h::r=>txG (h::r)++padK 9 g
theorem qFC {g:Nat} {r:List Nat} (h:r≠[]):txG (g::r)=txG r++padK 9 g:=by
 cases r with
 | nil=>exact absurd rfl h
 | cons a r=>rfl
theorem qFD (n:Nat):n≠0->txG (dg n)=Lib.decDigits n:=by
 induction n using Nat.strongRecOn with
 | _ n ih=>
  intro d;have g:(0:Nat)<B9:=by rw[qAD];decide
  rw[qB8 d]
  by_cases h:n / B9=0
  ·have b:n<B9:=by rcases Nat.div_eq_zero_iff.1 h with h|h<;>omega
   rw[h,qAI,Nat.mod_eq_of_lt b]
   rfl
  ·have c:dg (n / B9)≠[]:=λe=>h (dg_eq_nil.1 e);have b:n / B9<n:=Nat.div_lt_self (by omega) (by rw[qAD];decide);rw[qFC c,ih _ b h];have f:=qEW 9 (n / B9) (n%B9) h (by rw[<-qC9];exact Nat.mod_lt _ g);rw[<-f,<-qC9,Nat.mul_comm,Nat.div_add_mod]
noncomputable def txN (n:Nat):List UInt8:=if n=0 then[48]else txG (dg n)
theorem qDG (n:Nat):txN n=Lib.decDigits n:=by
 unfold txN
 split
 ·rename_i h;subst h;rw[qCF (by decide)];rfl
 ·rename_i h;exact qFD n h
theorem qDb {l:List Nat} {i:Nat} (h:i<l.length):txG (l.drop i)=if i+1<l.length then txG (l.drop (i+1))++padK 9 l[i]else Lib.decDigits l[i]:=by
 rw[List.drop_eq_getElem_cons h]
 split
 ·rename_i h2;exact qFC (λe=>by have:=congrArg List.length e;rw[List.length_drop,List.length_nil]at this;omega)
 ·rename_i h2;rw[List.drop_eq_nil_of_le (by omega)]
  rfl
def lowT (l:List Nat):Nat->List UInt8
 | 0=>[]
 | i+1=>padK 9 (l.getD i 0)++lowT l i
theorem qFh {l:List Nat}:∀i,i<l.length->txG l=txG (l.drop i)++lowT l i
 | 0,_=>by rw[List.drop_zero];show _=txG l++[];rw[List.append_nil]
 | i+1,h=>by
  rw[qFh i (by omega),qDb (by omega),if_pos h,List.append_assoc];rw[show lowT l (i+1)=padK 9 (l.getD i 0)++lowT l i from rfl,List.getD_eq_getElem?_getD,List.getElem?_eq_getElem (by omega)]
  rfl
def digB (b:UInt8):Bool:=decide (48<=b.toNat/\b.toNat<=57)
def dvB (b:UInt8):Nat:=b.toNat - 48
def decV (acc:Nat):List UInt8->Nat
 | []=>acc
 | b::r=>decV (acc*10+dvB b) r
theorem qDr:∀(l:List UInt8) (acc:Nat),Lib.decFrom acc l=if l.all digB=true then some (decV acc l)else none
 | [],acc=>rfl
 | b::r,acc=>by
  unfold Lib.decFrom Lib.digitVal
  by_cases h:48<=b.toNat/\b.toNat<=57
  ·rw[if_pos h];show Lib.decFrom (acc*10+dvB b) r=_;rw[qDr r];have hd:digB b=true:=decide_eq_true h;rw[List.all_cons,hd,Bool.true_and]
   rfl
  ·rw[if_neg h];have hd:digB b=false:=decide_eq_false h;rw[List.all_cons,hd,Bool.false_and]
   rfl
theorem qCo:∀(l:List UInt8) (acc:Nat),decV acc l=acc*10^l.length+decV 0 l
 | [],acc=>by show acc=acc*10^0+0;rw[Nat.pow_zero,Nat.mul_one,Nat.add_zero]
 | b::r,acc=>by
  show decV (acc*10+dvB b) r=acc*10^(r.length+1)+decV (0*10+dvB b) r
  rw[qCo r (acc*10+dvB b),qCo r (0*10+dvB b),Nat.zero_mul,Nat.zero_add,Nat.add_mul,Nat.pow_succ',Nat.mul_assoc,Nat.add_assoc]
theorem qC3 (a b:List UInt8) (acc:Nat):decV acc (a++b)=decV (decV acc a) b:=by
 induction a generalizing acc with
 | nil=>rfl
 | cons x a ih=>exact ih _
theorem qEX:∀(l:List UInt8),l.all digB=true->decV 0 l<10^l.length
 | [],_=>by decide
 | b::r,h=>by
  rw[List.all_cons,Bool.and_eq_true]at h;have ih:=qEX r h.2;have hb:48<=b.toNat/\b.toNat<=57:=of_decide_eq_true h.1;show decV (0*10+dvB b) r<10^(r.length+1);rw[qCo,Nat.zero_mul,Nat.zero_add,Nat.pow_succ];have h9:dvB b<=9:=by unfold dvB;omega
  have:=Nat.mul_le_mul_right (10^r.length) h9;omega
theorem qFz (s:List UInt8) (m f:Nat) (hf:f<=m) (hm:m<=s.length):decV 0 (s.take m)=decV 0 (s.take f)*10^(m - f)+decV 0 ((s.take m).drop f):=by
 have e:s.take m=s.take f++(s.take m).drop f:=by
  have b:=(List.take_append_drop f (s.take m)).symm;rw[List.take_take,Nat.min_eq_left hf]at b;exact b
 have c:((s.take m).drop f).length =m - f:=by rw[List.length_drop,List.length_take,Nat.min_eq_left hm]
 calc decV 0 (s.take m)=decV 0 (s.take f++(s.take m).drop f):=by rw[<-e]
  _=_:=by rw[qC3,qCo,c]
end Go.Proofs.YtfmfefibadpobaaGreatDoor

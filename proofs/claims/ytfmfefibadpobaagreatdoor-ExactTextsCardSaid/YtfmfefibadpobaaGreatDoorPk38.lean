/- Texts: the library's contracts that parsing wants; the plain law of the groups that are read. -/
import Derived.Test.YtfmfefibadpobaaGreatDoorPk37
import Derived.Shelf.Strconv.Atoi
import Derived.Shelf.Strings.SlTrimAscii
import Derived.Shelf.Strings.Prefix
import Derived.Shelf.Strings.Cut
import Derived.Lib.SmallJoins
namespace Go.Proofs.YtfmfefibadpobaaGreatDoor
set_option maxRecDepth 100000
open Go.RowKit Go.Shelf
set_option linter.unusedVariables false
set_option linter.unusedSimpArgs false
theorem qFq {l:List UInt8} (h:l.all digB=true) (a b:Nat):((l.take a).drop b).all digB=true:=by
 rw[List.all_eq_true]at h ⊢;exact λx c=>h x (List.mem_of_mem_take (List.mem_of_mem_drop c))
theorem qHM {l:List UInt8} (h:l.all digB=true) (h0:l≠[]):Lib.atoi l=some (decV 0 l:Nat):=by
 cases l with
 | nil=>exact absurd rfl h0
 | cons b r=>
  have f:digB b=true:=by rw[List.all_cons,Bool.and_eq_true]at h;exact h.1
  have d:(b==45)=false:=beq_eq_false_iff_ne.2 (qHC f);have c:(b==43)=false:=beq_eq_false_iff_ne.2 (λe=>by subst e;revert f;decide);have e:Lib.atoi (b::r)=if (b==45)=true then(Lib.decNat r).map λ(m:Nat)=> -(m:Int)else if (b==43)=true then(Lib.decNat r).map λ(m:Nat)=>(m:Int)else(Lib.decNat (b::r)).map λ(m:Nat)=>(m:Int):=rfl;rw[e,d,c,qHB (b::r),qDj h0 h]
  rfl
theorem qGk {l:List UInt8} (h:l.all digB=true) {m f g V:Nat} {pre:List Nat} (hm:m<=l.length) (h0:0<m) (hf:f=m - 9) (hg:decV 0 ((l.take m).drop f)=g) (hV:V=nv pre+B9^pre.length*decV 0 (l.take m)):g<B9/\V=nv (pre++[g])+B9^(pre++[g]).length *decV 0 (l.take f):=by
 have b:g<B9:=by
  have c:=qEX _ (qFq h m f);rw[hg,List.length_drop,List.length_take,Nat.min_eq_left hm]at c;rw[qC9];exact Nat.lt_of_lt_of_le c (Nat.pow_le_pow_right (by decide) (by omega))
 refine⟨b,?_⟩;have d:=qFz l m f (by omega) hm;rw[hg]at d
 have i:decV 0 (l.take f)*10^(m - f)=decV 0 (l.take f)*B9:=by
  by_cases j:9<=m
  ·rw[show m - f=9 by omega,<-qC9]
  ·rw[show f=0 by omega,List.take_zero];show 0*_=0*_;rw[Nat.zero_mul,Nat.zero_mul]
 rw[hV,d,i,qCD,List.length_append,List.length_singleton,Nat.pow_succ,Nat.mul_add,Nat.add_assoc,Nat.add_comm (B9^pre.length*g),Nat.mul_assoc,Nat.mul_comm B9,Nat.add_comm (B9^pre.length*(decV 0 (l.take f)*B9))]
theorem qHd (l:List UInt8) (w:World) (h:l.all digB=true) (h0:l≠[]) (h9:l.length<=9):Calls Tryz.prog 44 #[.string (baL l)] w λe w'=>e= .returned (.tuple #[.int .i64 (decV 0 l:Nat),.nilIface])/\Le w w':=by
 refine(Any.strconv_Atoi qEL (baL l) (decV 0 l:Nat) (by rw[qAP];omega) (qHM h h0) w).mono ?_;rintro e w' ⟨rfl,t,rfl⟩;exact⟨rfl,Joins.below_bytesWorld w.heap.size w _ t (Nat.le_refl _)⟩
theorem qFr (l:List UInt8) (w:World) (hl:l.length<=1000000):Calls Tryz.prog 43 #[.string (baL l),.string ⟨#[48,49,50,51,52,53,54,55,56,57]⟩] w λe w'=>e= .returned (.string (baL (Lib.trimS l digitsC)))/\Le w w':=by
 refine(Any.strings_Trim_laid qEK (by kernel_rfl) (baL l) ⟨#[48,49,50,51,52,53,54,55,56,57]⟩ w (by rw[qAP];omega) (by decide) (ascii_of_all (by decide))).mono ?_;rintro e w' ⟨rfl,h⟩;exact⟨rfl,h⟩
theorem qF0 (l:List UInt8):Lib.hasPrefix l [45]=decide (l.head?=some 45):=by
 cases l with
 | nil=>rfl
 | cons a r=>
  by_cases h:a=45
  ·subst h;rfl
  ·have b:(a::r).head? ≠some 45:=λe=>h (by injection e);rw[decide_eq_false b];simp only[Lib.hasPrefix,List.isPrefixOf,Bool.and_true,beq_eq_false_iff_ne,ne_eq];exact λe=>h e.symm
theorem qGl (l:List UInt8):Lib.trimPrefix l [45]=if l.head?=some 45 then l.drop 1 else l:=by
 unfold Lib.trimPrefix;rw[qF0];simp only[decide_eq_true_eq]
 rfl
theorem qHe (l:List UInt8) (w:World):Calls Tryz.prog 21 #[.string (baL l),.string ⟨#[45]⟩] w λe w'=>e= .returned (.bool (decide (l.head?=some 45)))/\w'=w:=by
 refine(Any.strings_HasPrefix qE7 (baL l) ⟨#[45]⟩ w).mono ?_;rintro e w' ⟨rfl,rfl⟩;exact⟨by rw[<-qF0];rfl,rfl⟩
theorem qHN (l:List UInt8) (w:World):Calls Tryz.prog 20 #[.string (baL l),.string ⟨#[45]⟩] w λe w'=>e= .returned (.string (baL (if l.head?=some 45 then l.drop 1 else l)))/\w'=w:=by
 refine(Any.strings_TrimPrefix qEJ (baL l) ⟨#[45]⟩ w).mono ?_;rintro e w' ⟨rfl,rfl⟩;exact⟨by rw[<-qGl];rfl,rfl⟩
theorem qHm (l:List UInt8) (w:World) (hw:TxW w) (hl:l.length<=1000000):Calls Tryz.prog 19 #[.string (baL l),.string ⟨#[47]⟩] w λe w'=>e= .returned (.tuple #[.string (baL (cutS l).1),.string (baL (cutS l).2.1),.bool (cutS l).2.2])/\∃n,w'=w.drewN n:=by
 obtain⟨-,m,b⟩:=hw;refine(Any.strings_Cut qEM (baL l) ⟨#[47]⟩ m w (by rw[qAP];omega) b).mono ?_;rintro e w' ⟨rfl,h⟩;refine⟨?_,h⟩;rw[<-qH7]
 rfl
end Go.Proofs.YtfmfefibadpobaaGreatDoor

/- Texts of fractions: the plain law of said and parsed. -/
import Derived.Test.YtfmfefibadpobaaGreatDoorPk03
import Derived.Test.YtfmfefibadpobaaGreatDoorPk21
import Derived.Lib.IndexMore
import Derived.Lib.Strings
import Derived.Lib.SlTrimSet
namespace Go.Proofs.YtfmfefibadpobaaGreatDoor
set_option maxRecDepth 100000
open Go.RowKit
set_option linter.unusedVariables false
def cutS:List UInt8->List UInt8×List UInt8×Bool
 | []=>([],[],false)
 | b::r=>if b=47 then([],r,true)else(b::(cutS r).1,(cutS r).2.1,(cutS r).2.2)
theorem qEl:∀s:List UInt8,(cutS s).2.2=false->(cutS s).1=s/\(cutS s).2.1=[]
 | [],_=>⟨rfl,rfl⟩
 | b::r,h=>by
  unfold cutS at h ⊢
  by_cases hb:b=47
  ·rw[if_pos hb]at h;cases h
  ·rw[if_neg hb]at h ⊢;have ih:=qEl r h;exact⟨by show b::(cutS r).1=b::r;rw[ih.1],ih.2⟩
theorem qEm:∀s:List UInt8,(Lib.index s [47]= -1/\(cutS s).2.2=false)∨(∃i:Nat,Lib.index s [47]=i/\cutS s=(s.take i,s.drop (i+1),true))
 | []=> .inl ⟨rfl,rfl⟩
 | b::r=>by
  unfold Lib.index cutS
  by_cases hb:b=47
  ·right
   have hp:([47]:List UInt8).isPrefixOf (b::r)=true:=by rw[hb];rfl
   rw[if_pos hb,hp];exact⟨0,rfl,rfl⟩
  ·have hp:([47]:List UInt8).isPrefixOf (b::r)=false:=by
    simp only[List.isPrefixOf,Bool.and_true,beq_eq_false_iff_ne,ne_eq];exact λh=>hb h.symm
   rw[if_neg hb,hp]
   rcases qEm r with⟨h1,h2⟩| ⟨i,h1,h2⟩
   ·left
    rw[h1];exact⟨rfl,h2⟩
   ·right
    rw[h1,h2];refine⟨i+1,?_,rfl⟩;have:((i:Int)== -1)=false:=by rw[beq_eq_false_iff_ne];omega
    simp[this]
theorem qH7 (s:List UInt8):Lib.cut s [47]=cutS s:=by
 unfold Lib.cut
 rcases qEm s with⟨h1,h2⟩| ⟨i,h1,h2⟩
 ·rw[h1,if_neg (by decide)];obtain⟨b,c⟩:=qEl s h2;rw[show cutS s=((cutS s).1,(cutS s).2.1,(cutS s).2.2)from rfl,b,c,h2]
 ·rw[h1,if_pos (by omega),h2];simp
theorem qDh {p:UInt8->Bool} (l:List UInt8):l.dropWhile p=[]↔l.all p=true:=by
 induction l with
 | nil=>exact⟨λ_=>rfl,λ_=>rfl⟩
 | cons b r ih=>
  by_cases h:p b=true
  ·rw[List.dropWhile_cons_of_pos h,ih,List.all_cons,h,Bool.true_and]
  ·rw[List.dropWhile_cons_of_neg h,List.all_cons];refine⟨λe=>(by cases e),λe=>?_⟩;rw[Bool.and_eq_true]at e;exact absurd e.1 h
theorem qHA {p:UInt8->Bool} (l:List UInt8) (h:(l.dropWhile p).all p=true):l.dropWhile p=[]:=by
 induction l with
 | nil=>rfl
 | cons b r ih=>
  by_cases c:p b=true
  ·rw[List.dropWhile_cons_of_pos c]at h ⊢;exact ih h
  ·rw[List.dropWhile_cons_of_neg c,List.all_cons,Bool.and_eq_true]at h;exact absurd h.1 c
theorem qGb (s cs:List UInt8):Lib.trimS s cs=[]↔s.all (cs.contains ·)=true:=by
 unfold Lib.trimS Lib.trimLeftS Lib.trimRightS;rw[qDh,List.all_reverse];constructor
 ·intro h;have:=qHA _ h;rw[qDh,List.all_reverse]at this;exact this
 ·intro h;have:s.reverse.dropWhile (cs.contains ·)=[]:=by rw[qDh,List.all_reverse];exact h
  rw[this]
  rfl
def digitsC:List UInt8:=[48,49,50,51,52,53,54,55,56,57]
theorem qGM (b:UInt8):digitsC.contains b=digB b:=by
 have h:∀n,n<256->digitsC.contains (UInt8.ofNat n)=digB (UInt8.ofNat n):=by decide+kernel
 have e:UInt8.ofNat b.toNat=b:=by simp
 have:=h b.toNat (UInt8.toNat_lt b)
 rwa[e]at this
theorem qD7 (s:List UInt8):Lib.trimS s digitsC=[]↔s.all digB=true:=by
 rw[qGb];have:(λb=>digitsC.contains b)=digB:=funext qGM;rw[this]
def qAH (r:Rat):List UInt8:=(if r.num<0 then[45]else[])++Lib.decDigits r.num.natAbs++(if r.den=1 then[]else 47::Lib.decDigits r.den)
def numE (s:List UInt8):Option Nat:=if s=[]then none else if s.all digB=true then some (decV 0 s)else none
theorem qHB (s:List UInt8):Lib.decNat s=numE s:=by
 unfold Lib.decNat numE
 cases s with
 | nil=>rfl
 | cons b r=>
  rw[if_neg (by simp),if_neg (by simp),qDr]
def qBZ (s:List UInt8):Option Rat:=
 let t:=if s.head?=some 45 then s.tail else s
 match numE (cutS t).1,numE (if (cutS t).2.2=true then(cutS t).2.1 else[49])with
 | some n,some d=>if d=0 then none else some (mkR (decide (s.head?=some 45)) n d)
 | _,_=>none
noncomputable def qAE (s:List UInt8):Except Int Rat:=
 if 800<s.length then .error 4 else match qBZ s with
 | none=> .error 13
 | some r=>if qAH r=s then outR r else .error 13
end Go.Proofs.YtfmfefibadpobaaGreatDoor

/- Texts of fractions: the plain law of said and parsed. Texts of fractions: Parse undoes Text (plain). -/
import Derived.Test.YtenjpccpldajoaaGreatDoorPk14
import Derived.Lib.IndexMore
import Derived.Lib.Strings
import Derived.Lib.SlTrimSet
namespace Go.Proofs.YtenjpccpldajoaaGreatDoor
set_option maxRecDepth 100000
open Go.RowKit
set_option linter.unusedVariables false
def cutS:List UInt8→List UInt8×List UInt8×Bool
 | []=>([],[],false)
 | b::r=>if b=47 then([],r,true)else(b::(cutS r).1,(cutS r).2.1,(cutS r).2.2)
theorem qHt:∀s:List UInt8,(cutS s).2.2=false→(cutS s).1=s∧(cutS s).2.1=[]
 | [],_=>⟨rfl,rfl⟩
 | b::r,h=>by
  unfold cutS at h ⊢
  by_cases hb:b=47
  ·rw[if_pos hb]at h;cases h
  ·rw[if_neg hb]at h ⊢;have ih:=qHt r h;exact⟨by show b::(cutS r).1=b::r;rw[ih.1],ih.2⟩
theorem qHu:∀s:List UInt8,(Lib.index s [47]= -1∧(cutS s).2.2=false)∨(∃i:Nat,Lib.index s [47]=i∧cutS s=(s.take i,s.drop (i+1),true))
 | []=> .inl ⟨rfl,rfl⟩
 | b::r=>by
  unfold Lib.index cutS
  by_cases hb:b=47
  ·right
   have hp:([47]:List UInt8).isPrefixOf (b::r)=true:=by rw[hb];rfl
   rw[if_pos hb,hp];exact⟨0,rfl,rfl⟩
  ·have hp:([47]:List UInt8).isPrefixOf (b::r)=false:=by
    simp only[List.isPrefixOf,Bool.and_true,beq_eq_false_iff_ne,ne_eq];exact fun h=>hb h.symm
   rw[if_neg hb,hp]
   rcases qHu r with⟨h1,h2⟩| ⟨i,h1,h2⟩
   ·left
    rw[h1];exact⟨rfl,h2⟩
   ·right
    rw[h1,h2];refine⟨i+1,?_,rfl⟩;have:((i:Int)== -1)=false:=by rw[beq_eq_false_iff_ne];omega
    simp[this]
theorem qN8 (s:List UInt8):Lib.cut s [47]=cutS s:=by
 unfold Lib.cut
 rcases qHu s with⟨h1,h2⟩| ⟨i,h1,h2⟩
 ·rw[h1,if_neg (by decide)];obtain⟨e1,e2⟩:=qHt s h2;rw[show cutS s=((cutS s).1,(cutS s).2.1,(cutS s).2.2)from rfl,e1,e2,h2]
 ·rw[h1,if_pos (by omega),h2];simp
theorem qGH {p:UInt8→Bool} (l:List UInt8):l.dropWhile p=[]↔l.all p=true:=by
 induction l with
 | nil=>exact⟨fun _=>rfl,fun _=>rfl⟩
 | cons b r ih=>
  by_cases h:p b=true
  ·rw[List.dropWhile_cons_of_pos h,ih,List.all_cons,h,Bool.true_and]
  ·rw[List.dropWhile_cons_of_neg h,List.all_cons];refine⟨fun e=>(by cases e),fun e=>?_⟩;rw[Bool.and_eq_true]at e;exact absurd e.1 h
theorem qM6 {p:UInt8→Bool} (l:List UInt8) (h:(l.dropWhile p).all p=true):l.dropWhile p=[]:=by
 induction l with
 | nil=>rfl
 | cons b r ih=>
  by_cases hb:p b=true
  ·rw[List.dropWhile_cons_of_pos hb]at h ⊢;exact ih h
  ·rw[List.dropWhile_cons_of_neg hb,List.all_cons,Bool.and_eq_true]at h;exact absurd h.1 hb
theorem qL8 (s cs:List UInt8):Lib.trimS s cs=[]↔s.all (cs.contains ·)=true:=by
 unfold Lib.trimS Lib.trimLeftS Lib.trimRightS;rw[qGH,List.all_reverse];constructor
 ·intro h;have:=qM6 _ h;rw[qGH,List.all_reverse]at this;exact this
 ·intro h;have:s.reverse.dropWhile (cs.contains ·)=[]:=by rw[qGH,List.all_reverse];exact h
  rw[this]
  rfl
def digitsC:List UInt8:=[48,49,50,51,52,53,54,55,56,57]
theorem qKe (b:UInt8):digitsC.contains b=digB b:=by
 have h:∀n,n<256→digitsC.contains (UInt8.ofNat n)=digB (UInt8.ofNat n):=by decide+kernel
 have e:UInt8.ofNat b.toNat=b:=by simp
 have:=h b.toNat (UInt8.toNat_lt b)
 rwa[e]at this
theorem qFt (s:List UInt8):Lib.trimS s digitsC=[]↔s.all digB=true:=by
 rw[qL8];have:(fun b=>digitsC.contains b)=digB:=funext qKe;rw[this]
def qAH (r:Rat):List UInt8:=(if r.num<0 then[45]else[])++Lib.decDigits r.num.natAbs++(if r.den=1 then[]else 47::Lib.decDigits r.den)
def numE (s:List UInt8):Option Nat:=if s=[]then none else if s.all digB=true then some (decV 0 s)else none
theorem qM7 (s:List UInt8):Lib.decNat s=numE s:=by
 unfold Lib.decNat numE
 cases s with
 | nil=>rfl
 | cons b r=>
  rw[if_neg (by simp),if_neg (by simp),qG3]
def qCR (s:List UInt8):Option Rat:=
 let t:=if s.head?=some 45 then s.tail else s
 match numE (cutS t).1,numE (if (cutS t).2.2=true then(cutS t).2.1 else[49])with
 | some n,some d=>if d=0 then none else some (mkR (decide (s.head?=some 45)) n d)
 | _,_=>none
noncomputable def qAe (s:List UInt8):Except Int Rat:=
 if 800<s.length then .error 4 else match qCR s with
 | none=> .error 13
 | some r=>if qAH r=s then outR r else .error 13
theorem qL9 {k:Nat} (h:k<10):(dd k).toNat =48+k:=by
 unfold dd;rw[UInt8.toNat_ofNat'];omega
theorem qLa {k:Nat} (h:k<10):digB (dd k)=true:=by
 unfold digB;rw[qL9 h];exact decide_eq_true (by omega)
theorem qNQ {k:Nat} (h:k<10):dvB (dd k)=k:=by
 unfold dvB;rw[qL9 h];omega
theorem qCa:∀n:Nat,(Lib.decDigits n).all digB=true∧decV 0 (Lib.decDigits n)=n∧Lib.decDigits n≠[]:=by
 intro n
 induction n using Nat.strongRecOn with
 | _ n ih=>
  by_cases h:n<10
  ·rw[qFE h];refine⟨by rw[List.all_cons,qLa h];rfl,?_,by simp⟩;show 0*10+dvB (dd n)=n;rw[qNQ h];omega
  ·obtain⟨h1,h2,h3⟩:=ih (n / 10) (by omega);have hm:n%10<10:=Nat.mod_lt _ (by decide);rw[qG2 h];refine⟨?_,?_,by simp⟩
   ·rw[List.all_append,h1,List.all_cons,qLa hm]
    rfl
   ·rw[qFq,h2];show n / 10*10+dvB (dd (n%10))=n;rw[qNQ hm];omega
theorem qD5 (n:Nat):numE (Lib.decDigits n)=some n:=by
 obtain⟨h1,h2,h3⟩:=qCa n;unfold numE;rw[if_neg h3,if_pos h1,h2]
theorem qIq {b:UInt8} (h:digB b=true):b≠47:=fun e=>by subst e;revert h;decide
theorem qIr {b:UInt8} (h:digB b=true):b≠45:=fun e=>by subst e;revert h;decide
theorem qIs:∀(l:List UInt8),l.all digB=true→cutS l=(l,[],false)
 | [],_=>rfl
 | b::r,h=>by
  rw[List.all_cons,Bool.and_eq_true]at h;unfold cutS;rw[if_neg (qIq h.1),qIs r h.2]
theorem qJw:∀(l r:List UInt8),l.all digB=true→cutS (l++47::r)=(l,r,true)
 | [],r,_=>by show cutS (47::r)=_;unfold cutS;rw[if_pos rfl]
 | b::l,r,h=>by
  rw[List.all_cons,Bool.and_eq_true]at h;show cutS (b::(l++47::r))=_;unfold cutS;rw[if_neg (qIq h.1),qJw l r h.2]
theorem qM8 {l r:List UInt8} (h:l.all digB=true) (h0:l≠[]):(l++r).head? ≠some 45:=by
 cases l with
 | nil=>exact absurd rfl h0
 | cons b l=>
  rw[List.all_cons,Bool.and_eq_true]at h;intro e;injection e with e;exact qIr h.1 e
theorem qJx (r:Rat):mkR (decide (r.num<0)) r.num.natAbs r.den=r:=by
 unfold mkR;rw[qHN,Rat.mkRat_self]
theorem qKf (r:Rat):qCR (qAH r)=some r:=by
 obtain⟨a1,a2,a3⟩:=qCa r.num.natAbs;obtain⟨b1,b2,b3⟩:=qCa r.den;have hd:r.den≠0:=r.den_nz
 have hh:(qAH r).head? =some 45↔r.num<0:=by
  unfold qAH
  by_cases h:r.num<0
  ·rw[if_pos h];exact⟨fun _=>h,fun _=>rfl⟩
  ·rw[if_neg h,List.nil_append];exact⟨fun e=>absurd e (qM8 a1 a3),fun e=>absurd e h⟩
 have ht:(if (qAH r).head? =some 45 then(qAH r).tail else qAH r)=Lib.decDigits r.num.natAbs++(if r.den=1 then[]else 47::Lib.decDigits r.den):=by
  by_cases h:r.num<0
  ·rw[if_pos (hh.2 h)];unfold qAH;rw[if_pos h]
   rfl
  ·rw[if_neg (fun e=>h (hh.1 e))];unfold qAH;rw[if_neg h]
   rfl
 have hdec:decide ((qAH r).head? =some 45)=decide (r.num<0):=by
  by_cases h:r.num<0
  ·rw[decide_eq_true h,decide_eq_true (hh.2 h)]
  ·rw[decide_eq_false h,decide_eq_false (fun e=>h (hh.1 e))]
 unfold qCR;dsimp only;rw[ht,hdec]
 by_cases h1:r.den=1
 ·rw[if_pos h1,List.append_nil,qIs _ a1];dsimp only;rw[qD5,if_neg (by decide)];have e1:numE [49]=some 1:=by decide
  rw[e1];dsimp only;rw[if_neg (by decide)];have:=qJx r;rw[h1]at this;rw[this]
 ·rw[if_neg h1,qJw _ _ a1];dsimp only;rw[qD5,if_pos rfl,qD5];dsimp only;rw[if_neg hd,qJx]
theorem qJy (n k:Nat) (h:n<10^(k+1)):(Lib.decDigits n).length ≤k+1:=by
 induction k generalizing n with
 | zero=>rw[qFE (by simpa using h)];exact Nat.le_refl _
 | succ k ih=>
  by_cases h9:n<10
  ·rw[qFE h9];show 1≤_;omega
  ·rw[qG2 h9,List.length_append,List.length_singleton];have:=ih (n / 10) (by rw[Nat.pow_succ]at h;omega);omega
theorem qGI {n m:Nat} (h:(dg n).length ≤m) (hm:1≤m):(Lib.decDigits n).length ≤9*m:=by
 have h1:=Nat.lt_of_lt_of_le (qA6 n) (Nat.pow_le_pow_right (by rw[qAN];decide) h);rw[qET,←Nat.pow_mul]at h1;have:=qJy n (9*m - 1) (by rw[show 9*m - 1+1=9*m by omega];exact h1);omega
theorem qIt {r:Rat} {m:Nat} (h:Rsz r m) (hm:1≤m):(qAH r).length ≤18*m+2:=by
 have h1:=qGI (show(dg r.num.natAbs).length ≤m from h.1) hm;have h2:=qGI h.2 hm;unfold qAH;rw[List.length_append,List.length_append];have h3:(if r.num<0 then[45]else[]:List UInt8).length ≤1:=by split<;>simp
 have h4:(if r.den=1 then[]else 47::Lib.decDigits r.den:List UInt8).length ≤9*m+1:=by
  split
  ·simp
  ·rw[List.length_cons];omega
 omega
theorem qGe {r:Rat} (h:Rsz r 40):qAe (qAH r)= .ok r:=by
 have hl:=qIt h (by decide);unfold qAe;rw[if_neg (by omega),qKf];dsimp only;rw[if_pos rfl];unfold outR;rw[if_pos h]
theorem qKg (r:Rat) (i:Nat) (b:UInt8) (h:(qAH r)[i]? =some b):digB b=true∨b=47∨b=45∧i=0:=by
 obtain⟨a1,-,-⟩:=qCa r.num.natAbs;obtain⟨b1,-,-⟩:=qCa r.den
 have tailOk:∀c∈Lib.decDigits r.num.natAbs++(if r.den=1 then[]else 47::Lib.decDigits r.den),digB c=true∨c=47:=fun c hc=>by
  rw[List.mem_append]at hc
  rcases hc with hc|hc
  ·exact .inl (List.all_eq_true.1 a1 c hc)
  ·split at hc
   ·cases hc
   ·rw[List.mem_cons]at hc
    rcases hc with hc|hc
    ·exact .inr hc
    ·exact .inl (List.all_eq_true.1 b1 c hc)
 unfold qAH at h
 by_cases hn:r.num<0
 ·rw[if_pos hn]at h
  cases i with
  | zero=>
   injection h with h;exact .inr (.inr ⟨h.symm,rfl⟩)
  | succ i=>
   have h2:(Lib.decDigits r.num.natAbs++(if r.den=1 then[]else 47::Lib.decDigits r.den))[i]? =some b:=h
   rcases tailOk b (List.mem_of_getElem? h2)with h3|h3
   ·exact .inl h3
   ·exact .inr (.inl h3)
 ·rw[if_neg hn,List.nil_append]at h
  rcases tailOk b (List.mem_of_getElem? h)with h3|h3
  ·exact .inl h3
  ·exact .inr (.inl h3)
end Go.Proofs.YtenjpccpldajoaaGreatDoor

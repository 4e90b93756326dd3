/- Texts of fractions: the plain law of said and parsed. Texts of fractions: Parse undoes Text (plain). Texts: the library's contracts laid at the seat's program, .. -/
import Derived.Test.YtenjpccpldajoaaGreatDoorPk14
import Derived.Lib.IndexMore
import Derived.Lib.Strings
import Derived.Lib.SlTrimSet
import Derived.Shelf.LaysM
import Derived.Shelf.Strings.BuilderX
namespace Go.Proofs.YtenjpccpldajoaaGreatDoor
set_option maxRecDepth 100000
open Go.RowKit
set_option linter.unusedVariables false
def cutS:List UInt8→List UInt8×List UInt8×Bool
 | []=>([],[],false)
 | b::r=>if b=47 then([],r,true)else(b::(cutS r).1,(cutS r).2.1,(cutS r).2.2)
theorem qI1:∀s:List UInt8,(cutS s).2.2=false→(cutS s).1=s∧(cutS s).2.1=[]
 | [],_=>⟨rfl,rfl⟩
 | b::r,h=>by
  unfold cutS at h ⊢
  by_cases hb:b=47
  ·rw[if_pos hb]at h;cases h
  ·rw[if_neg hb]at h ⊢;have ih:=qI1 r h;exact⟨by show b::(cutS r).1=b::r;rw[ih.1],ih.2⟩
theorem qI2:∀s:List UInt8,(Lib.index s [47]= -1∧(cutS s).2.2=false)∨(∃i:Nat,Lib.index s [47]=i∧cutS s=(s.take i,s.drop (i+1),true))
 | []=> .inl ⟨rfl,rfl⟩
 | b::r=>by
  unfold Lib.index cutS
  by_cases hb:b=47
  ·right
   have hp:([47]:List UInt8).isPrefixOf (b::r)=true:=by rw[hb];rfl
   rw[if_pos hb,hp];exact⟨0,rfl,rfl⟩
  ·have hp:([47]:List UInt8).isPrefixOf (b::r)=false:=by
    simp only[List.isPrefixOf,Bool.and_true,beq_eq_false_iff_ne,ne_eq];exact fun h=>hb h.symm
   rw[if_neg hb,hp]
   rcases qI2 r with⟨h1,h2⟩| ⟨i,h1,h2⟩
   ·left
    rw[h1];exact⟨rfl,h2⟩
   ·right
    rw[h1,h2];refine⟨i+1,?_,rfl⟩;have:((i:Int)== -1)=false:=by rw[beq_eq_false_iff_ne];omega
    simp[this]
theorem qOc (s:List UInt8):Lib.cut s [47]=cutS s:=by
 unfold Lib.cut
 rcases qI2 s with⟨h1,h2⟩| ⟨i,h1,h2⟩
 ·rw[h1,if_neg (by decide)];obtain⟨e1,e2⟩:=qI1 s h2;rw[show cutS s=((cutS s).1,(cutS s).2.1,(cutS s).2.2)from rfl,e1,e2,h2]
 ·rw[h1,if_pos (by omega),h2];simp
theorem qGb {p:UInt8→Bool} (l:List UInt8):l.dropWhile p=[]↔l.all p=true:=by
 induction l with
 | nil=>exact⟨fun _=>rfl,fun _=>rfl⟩
 | cons b r ih=>
  by_cases h:p b=true
  ·rw[List.dropWhile_cons_of_pos h,ih,List.all_cons,h,Bool.true_and]
  ·rw[List.dropWhile_cons_of_neg h,List.all_cons];refine⟨fun e=>(by cases e),fun e=>?_⟩;rw[Bool.and_eq_true]at e;exact absurd e.1 h
theorem qN5 {p:UInt8→Bool} (l:List UInt8) (h:(l.dropWhile p).all p=true):l.dropWhile p=[]:=by
 induction l with
 | nil=>rfl
 | cons b r ih=>
  by_cases hb:p b=true
  ·rw[List.dropWhile_cons_of_pos hb]at h ⊢;exact ih h
  ·rw[List.dropWhile_cons_of_neg hb,List.all_cons,Bool.and_eq_true]at h;exact absurd h.1 hb
theorem qMY (s cs:List UInt8):Lib.trimS s cs=[]↔s.all (cs.contains ·)=true:=by
 unfold Lib.trimS Lib.trimLeftS Lib.trimRightS;rw[qGb,List.all_reverse];constructor
 ·intro h;have:=qN5 _ h;rw[qGb,List.all_reverse]at this;exact this
 ·intro h;have:s.reverse.dropWhile (cs.contains ·)=[]:=by rw[qGb,List.all_reverse];exact h
  rw[this]
  rfl
def digitsC:List UInt8:=[48,49,50,51,52,53,54,55,56,57]
theorem qLT (b:UInt8):digitsC.contains b=digB b:=by
 have h:∀n,n<256→digitsC.contains (UInt8.ofNat n)=digB (UInt8.ofNat n):=by decide+kernel
 have e:UInt8.ofNat b.toNat=b:=by simp
 have:=h b.toNat (UInt8.toNat_lt b)
 rwa[e]at this
theorem qGY (s:List UInt8):Lib.trimS s digitsC=[]↔s.all digB=true:=by
 rw[qMY];have:(fun b=>digitsC.contains b)=digB:=funext qLT;rw[this]
def qAL (r:Rat):List UInt8:=(if r.num<0 then[45]else[])++Lib.decDigits r.num.natAbs++(if r.den=1 then[]else 47::Lib.decDigits r.den)
def numE (s:List UInt8):Option Nat:=if s=[]then none else if s.all digB=true then some (decV 0 s)else none
theorem qN6 (s:List UInt8):Lib.decNat s=numE s:=by
 unfold Lib.decNat numE
 cases s with
 | nil=>rfl
 | cons b r=>
  rw[if_neg (by simp),if_neg (by simp),qHH]
def qDB (s:List UInt8):Option Rat:=
 let t:=if s.head?=some 45 then s.tail else s
 match numE (cutS t).1,numE (if (cutS t).2.2=true then(cutS t).2.1 else[49])with
 | some n,some d=>if d=0 then none else some (mkR (decide (s.head?=some 45)) n d)
 | _,_=>none
noncomputable def qAr (s:List UInt8):Except Int Rat:=
 if 800<s.length then .error 4 else match qDB s with
 | none=> .error 13
 | some r=>if qAL r=s then outR r else .error 13
theorem qMZ {k:Nat} (h:k<10):(dd k).toNat =48+k:=by
 unfold dd;rw[UInt8.toNat_ofNat'];omega
theorem qM0 {k:Nat} (h:k<10):digB (dd k)=true:=by
 unfold digB;rw[qMZ h];exact decide_eq_true (by omega)
theorem qOU {k:Nat} (h:k<10):dvB (dd k)=k:=by
 unfold dvB;rw[qMZ h];omega
theorem qEa:∀n:Nat,(Lib.decDigits n).all digB=true∧decV 0 (Lib.decDigits n)=n∧Lib.decDigits n≠[]:=by
 intro n
 induction n using Nat.strongRecOn with
 | _ n ih=>
  by_cases h:n<10
  ·rw[qFa h];refine⟨by rw[List.all_cons,qM0 h];rfl,?_,by simp⟩;show 0*10+dvB (dd n)=n;rw[qOU h];omega
  ·obtain⟨h1,h2,h3⟩:=ih (n / 10) (by omega);have hm:n%10<10:=Nat.mod_lt _ (by decide);rw[qHG h];refine⟨?_,?_,by simp⟩
   ·rw[List.all_append,h1,List.all_cons,qM0 hm]
    rfl
   ·rw[qGV,h2];show n / 10*10+dvB (dd (n%10))=n;rw[qOU hm];omega
theorem qEE (n:Nat):numE (Lib.decDigits n)=some n:=by
 obtain⟨h1,h2,h3⟩:=qEa n;unfold numE;rw[if_neg h3,if_pos h1,h2]
theorem qJX {b:UInt8} (h:digB b=true):b≠47:=fun e=>by subst e;revert h;decide
theorem qJY {b:UInt8} (h:digB b=true):b≠45:=fun e=>by subst e;revert h;decide
theorem qJZ:∀(l:List UInt8),l.all digB=true→cutS l=(l,[],false)
 | [],_=>rfl
 | b::r,h=>by
  rw[List.all_cons,Bool.and_eq_true]at h;unfold cutS;rw[if_neg (qJX h.1),qJZ r h.2]
theorem qKa:∀(l r:List UInt8),l.all digB=true→cutS (l++47::r)=(l,r,true)
 | [],r,_=>by show cutS (47::r)=_;unfold cutS;rw[if_pos rfl]
 | b::l,r,h=>by
  rw[List.all_cons,Bool.and_eq_true]at h;show cutS (b::(l++47::r))=_;unfold cutS;rw[if_neg (qJX h.1),qKa l r h.2]
theorem qN7 {l r:List UInt8} (h:l.all digB=true) (h0:l≠[]):(l++r).head? ≠some 45:=by
 cases l with
 | nil=>exact absurd rfl h0
 | cons b l=>
  rw[List.all_cons,Bool.and_eq_true]at h;intro e;injection e with e;exact qJY h.1 e
theorem qKb (r:Rat):mkR (decide (r.num<0)) r.num.natAbs r.den=r:=by
 unfold mkR;rw[qHr,Rat.mkRat_self]
theorem qLU (r:Rat):qDB (qAL r)=some r:=by
 obtain⟨a1,a2,a3⟩:=qEa r.num.natAbs;obtain⟨b1,b2,b3⟩:=qEa r.den;have hd:r.den≠0:=r.den_nz
 have hh:(qAL r).head? =some 45↔r.num<0:=by
  unfold qAL
  by_cases h:r.num<0
  ·rw[if_pos h];exact⟨fun _=>h,fun _=>rfl⟩
  ·rw[if_neg h,List.nil_append];exact⟨fun e=>absurd e (qN7 a1 a3),fun e=>absurd e h⟩
 have ht:(if (qAL r).head? =some 45 then(qAL r).tail else qAL r)=Lib.decDigits r.num.natAbs++(if r.den=1 then[]else 47::Lib.decDigits r.den):=by
  by_cases h:r.num<0
  ·rw[if_pos (hh.2 h)];unfold qAL;rw[if_pos h]
   rfl
  ·rw[if_neg (fun e=>h (hh.1 e))];unfold qAL;rw[if_neg h]
   rfl
 have hdec:decide ((qAL r).head? =some 45)=decide (r.num<0):=by
  by_cases h:r.num<0
  ·rw[decide_eq_true h,decide_eq_true (hh.2 h)]
  ·rw[decide_eq_false h,decide_eq_false (fun e=>h (hh.1 e))]
 unfold qDB;dsimp only;rw[ht,hdec]
 by_cases h1:r.den=1
 ·rw[if_pos h1,List.append_nil,qJZ _ a1];dsimp only;rw[qEE,if_neg (by decide)];have e1:numE [49]=some 1:=by decide
  rw[e1];dsimp only;rw[if_neg (by decide)];have:=qKb r;rw[h1]at this;rw[this]
 ·rw[if_neg h1,qKa _ _ a1];dsimp only;rw[qEE,if_pos rfl,qEE];dsimp only;rw[if_neg hd,qKb]
theorem qKc (n k:Nat) (h:n<10^(k+1)):(Lib.decDigits n).length ≤k+1:=by
 induction k generalizing n with
 | zero=>rw[qFa (by simpa using h)];exact Nat.le_refl _
 | succ k ih=>
  by_cases h9:n<10
  ·rw[qFa h9];show 1≤_;omega
  ·rw[qHG h9,List.length_append,List.length_singleton];have:=ih (n / 10) (by rw[Nat.pow_succ]at h;omega);omega
theorem qGc {n m:Nat} (h:(dg n).length ≤m) (hm:1≤m):(Lib.decDigits n).length ≤9*m:=by
 have h1:=Nat.lt_of_lt_of_le (qAa n) (Nat.pow_le_pow_right (by rw[qAO];decide) h);rw[qEu,←Nat.pow_mul]at h1;have:=qKc n (9*m - 1) (by rw[show 9*m - 1+1=9*m by omega];exact h1);omega
theorem qN8 {r:Rat} {m:Nat} (h:Rsz r m) (hm:1≤m):(qAL r).length ≤18*m+2:=by
 have h1:=qGc (show(dg r.num.natAbs).length ≤m from h.1) hm;have h2:=qGc h.2 hm;unfold qAL;rw[List.length_append,List.length_append];have h3:(if r.num<0 then[45]else[]:List UInt8).length ≤1:=by split<;>simp
 have h4:(if r.den=1 then[]else 47::Lib.decDigits r.den:List UInt8).length ≤9*m+1:=by
  split
  ·simp
  ·rw[List.length_cons];omega
 omega
theorem qLV {r:Rat} (h:Rsz r 40):qAr (qAL r)= .ok r:=by
 have hl:=qN8 h (by decide);unfold qAr;rw[if_neg (by omega),qLU];dsimp only;rw[if_pos rfl];unfold outR;rw[if_pos h]
open Go.RowKit Go.Shelf
def txRen:Ren:=⟨fun x=>if x=99 then 46 else if x=101 then 45 else if x=105 then 147 else if x=119 then 200 else if x=120 then 190 else if x=129 then 204 else if x=137 then 199 else if x=145 then 44 else if x=151 then 174 else if x=152 then 189 else if x=160 then 109 else if x=165 then 165 else if x=166 then 146 else if x=169 then 148 else if x=170 then 166 else if x=171 then 145 else if x=172 then 110 else if x=197 then 173 else if x=205 then 193 else if x=206 then 108 else if x=208 then 107 else if x=212 then 164 else if x=217 then 168 else if x=219 then 151 else if x=220 then 106 else if x=224 then 170 else if x=225 then 169 else if x=227 then 154 else if x=228 then 172 else if x=231 then 152 else if x=232 then 153 else if x=233 then 155 else if x=234 then 156 else if x=235 then 157 else if x=236 then 158 else if x=240 then 163 else if x=241 then 185 else if x=243 then 162 else if x=244 then 159 else if x=245 then 160 else if x=246 then 181 else if x=247 then 176 else if x=260 then 188 else if x=263 then 183 else if x=264 then 184 else if x=266 then 186 else if x=267 then 171 else if x=271 then 175 else if x=276 then 182 else if x=277 then 198 else if x=279 then 177 else if x=280 then 178 else if x=281 then 179 else if x=282 then 180 else if x=283 then 194 else if x=284 then 195 else if x=285 then 196 else if x=286 then 197 else if x=287 then 191 else if x=314 then 187 else if x=316 then 192 else if x=317 then 203 else if x=318 then 205 else if x=319 then 206 else if x=320 then 207 else if x=321 then 201 else if x=322 then 202 else if x=337 then 208 else if x=338 then 209 else x,fun x=>if x=0 then 0 else if x=2 then 2 else if x=3 then 3 else if x=4 then 4 else if x=5 then 5 else if x=9 then 9 else if x=20 then 20 else if x=21 then 21 else if x=37 then 163 else if x=46 then 179 else if x=51 then 92 else if x=53 then 98 else if x=59 then 74 else if x=70 then 162 else if x=72 then 165 else if x=75 then 142 else if x=76 then 143 else if x=80 then 72 else if x=85 then 192 else if x=105 then 188 else if x=109 then 180 else if x=116 then 173 else if x=117 then 174 else if x=119 then 218 else if x=124 then 177 else if x=127 then 183 else if x=138 then 220 else if x=139 then 221 else if x=143 then 225 else if x=145 then 227 else if x=146 then 200 else if x=148 then 202 else if x=164 then 198 else if x=167 then 191 else if x=168 then 194 else if x=171 then 212 else if x=173 then 215 else if x=175 then 206 else if x=210 then 210 else if x=212 then 229 else if x=213 then 230 else if x=232 then 234 else if x=233 then 235 else x,fun x=>if x=1 then 0 else if x=3 then 3 else if x=4 then 4 else if x=15 then 1 else if x=16 then 2 else if x=17 then 5 else if x=18 then 6 else if x=19 then 7 else x⟩
theorem qHS:Lays.n166 Tryz.prog txRen where
 mixed:=by kernel_rfl
 f166:=by kernel_rfl
 f240:=by kernel_rfl
 f276:=by kernel_rfl
 t0:=by kernel_rfl
 a0:=fun _=>by kernel_rfl
 z0:=fun _=>by kernel_rfl
 v0:=fun _=>by kernel_rfl
 t3:=by kernel_rfl
 a3:=fun _=>by kernel_rfl
 z3:=fun _=>by kernel_rfl
 v3:=fun _=>by kernel_rfl
 t4:=by kernel_rfl
 a4:=fun _=>by kernel_rfl
 z4:=fun _=>by kernel_rfl
 v4:=fun _=>by kernel_rfl
 t9:=by kernel_rfl
 a9:=fun _=>by kernel_rfl
 z9:=fun _=>by kernel_rfl
 v9:=fun _=>by kernel_rfl
 t20:=by kernel_rfl
 a20:=fun _=>by kernel_rfl
 z20:=fun _=>by kernel_rfl
 v20:=fun _=>by kernel_rfl
 t37:=by kernel_rfl
 a37:=fun _=>by kernel_rfl
 z37:=fun _=>by kernel_rfl
 v37:=fun _=>by kernel_rfl
 t70:=by kernel_rfl
 a70:=fun _=>by kernel_rfl
 z70:=fun _=>by kernel_rfl
 v70:=fun _=>by kernel_rfl
 t72:=by kernel_rfl
 a72:=fun _=>by kernel_rfl
 z72:=fun _=>by kernel_rfl
 v72:=fun _=>by kernel_rfl
 t75:=by kernel_rfl
 a75:=fun _=>by kernel_rfl
 z75:=fun _=>by kernel_rfl
 v75:=fun _=>by kernel_rfl
 t164:=by kernel_rfl
 a164:=fun _=>by kernel_rfl
 z164:=fun _=>by kernel_rfl
 v164:=fun _=>by kernel_rfl
theorem qHT:Lays.n169 Tryz.prog txRen where
 mixed:=by kernel_rfl
 f169:=by kernel_rfl
 t0:=by kernel_rfl
 a0:=fun _=>by kernel_rfl
 z0:=fun _=>by kernel_rfl
 v0:=fun _=>by kernel_rfl
 t3:=by kernel_rfl
 a3:=fun _=>by kernel_rfl
 z3:=fun _=>by kernel_rfl
 v3:=fun _=>by kernel_rfl
 t9:=by kernel_rfl
 a9:=fun _=>by kernel_rfl
 z9:=fun _=>by kernel_rfl
 v9:=fun _=>by kernel_rfl
 t37:=by kernel_rfl
 a37:=fun _=>by kernel_rfl
 z37:=fun _=>by kernel_rfl
 v37:=fun _=>by kernel_rfl
 t70:=by kernel_rfl
 a70:=fun _=>by kernel_rfl
 z70:=fun _=>by kernel_rfl
 v70:=fun _=>by kernel_rfl
 t72:=by kernel_rfl
 a72:=fun _=>by kernel_rfl
 z72:=fun _=>by kernel_rfl
 v72:=fun _=>by kernel_rfl
 t127:=by kernel_rfl
 a127:=fun _=>by kernel_rfl
 z127:=fun _=>by kernel_rfl
 v127:=fun _=>by kernel_rfl
theorem qGd:LaysM.n171 Tryz.prog txRen where
 mixed:=by kernel_rfl
 f129:=by kernel_rfl
 f171:=by kernel_rfl
 f243:=by kernel_rfl
 f246:=by kernel_rfl
 f283:=by kernel_rfl
 f284:=by kernel_rfl
 f285:=by kernel_rfl
 f286:=by kernel_rfl
 f317:=by kernel_rfl
 f318:=by kernel_rfl
 f319:=by kernel_rfl
 f320:=by kernel_rfl
 f337:=by kernel_rfl
 f338:=by kernel_rfl
 t0:=by kernel_rfl
 a0:=fun _=>by kernel_rfl
 z0:=fun _=>by kernel_rfl
 v0:=fun _=>by kernel_rfl
 t2:=by kernel_rfl
 a2:=fun _=>by kernel_rfl
 z2:=fun _=>by kernel_rfl
 v2:=fun _=>by kernel_rfl
 t3:=by kernel_rfl
 a3:=fun _=>by kernel_rfl
 z3:=fun _=>by kernel_rfl
 v3:=fun _=>by kernel_rfl
 t4:=by kernel_rfl
 a4:=fun _=>by kernel_rfl
 z4:=fun _=>by kernel_rfl
 v4:=fun _=>by kernel_rfl
 t5:=by kernel_rfl
 a5:=fun _=>by kernel_rfl
 z5:=fun _=>by kernel_rfl
 v5:=fun _=>by kernel_rfl
 t9:=by kernel_rfl
 a9:=fun _=>by kernel_rfl
 z9:=fun _=>by kernel_rfl
 v9:=fun _=>by kernel_rfl
 t20:=by kernel_rfl
 a20:=fun _=>by kernel_rfl
 z20:=fun _=>by kernel_rfl
 v20:=fun _=>by kernel_rfl
 t37:=by kernel_rfl
 a37:=fun _=>by kernel_rfl
 z37:=fun _=>by kernel_rfl
 v37:=fun _=>by kernel_rfl
 t46:=by kernel_rfl
 a46:=fun _=>by kernel_rfl
 z46:=fun _=>by kernel_rfl
 v46:=fun _=>by kernel_rfl
 t51:=by kernel_rfl
 a51:=fun _=>by kernel_rfl
 z51:=fun _=>by kernel_rfl
 v51:=fun _=>by kernel_rfl
 t53:=by kernel_rfl
 a53:=fun _=>by kernel_rfl
 z53:=fun _=>by kernel_rfl
 v53:=fun _=>by kernel_rfl
 t171:=by kernel_rfl
 a171:=fun _=>by kernel_rfl
 z171:=fun _=>by kernel_rfl
 v171:=fun _=>by kernel_rfl
 t173:=by kernel_rfl
 a173:=fun _=>by kernel_rfl
 z173:=fun _=>by kernel_rfl
 v173:=fun _=>by kernel_rfl
 t212:=by kernel_rfl
 a212:=fun _=>by kernel_rfl
 z212:=fun _=>by kernel_rfl
 v212:=fun _=>by kernel_rfl
 t213:=by kernel_rfl
 a213:=fun _=>by kernel_rfl
 z213:=fun _=>by kernel_rfl
 t232:=by kernel_rfl
 a232:=fun _=>by kernel_rfl
 z232:=fun _=>by kernel_rfl
 v232:=fun _=>by kernel_rfl
 t233:=by kernel_rfl
 a233:=fun _=>by kernel_rfl
 z233:=fun _=>by kernel_rfl
 v233:=fun _=>by kernel_rfl
 g17:=by kernel_rfl
 g18:=by kernel_rfl
 g19:=by kernel_rfl
 i0:=by kernel_rfl
 i2:=by kernel_rfl
 i3:=by kernel_rfl
 i4:=by kernel_rfl
 i5:=by kernel_rfl
 i9:=by kernel_rfl
 i20:=by kernel_rfl
 i37:=by kernel_rfl
 i46:=by kernel_rfl
 i51:=by kernel_rfl
 i53:=by kernel_rfl
 i171:=by kernel_rfl
 i173:=by kernel_rfl
 i212:=by kernel_rfl
 i232:=by kernel_rfl
 i233:=by kernel_rfl
 m17:=by kernel_rfl
 m18:=by kernel_rfl
 m19:=by kernel_rfl
theorem qHU:Lays.n105 Tryz.prog txRen where
 mixed:=by kernel_rfl
 f99:=by kernel_rfl
 f105:=by kernel_rfl
 f165:=by kernel_rfl
 f166:=by kernel_rfl
 f169:=by kernel_rfl
 f170:=by kernel_rfl
 f206:=by kernel_rfl
 f212:=by kernel_rfl
 f240:=by kernel_rfl
 f241:=by kernel_rfl
 f263:=by kernel_rfl
 f264:=by kernel_rfl
 f276:=by kernel_rfl
 f277:=by kernel_rfl
 t0:=by kernel_rfl
 a0:=fun _=>by kernel_rfl
 z0:=fun _=>by kernel_rfl
 v0:=fun _=>by kernel_rfl
 t3:=by kernel_rfl
 a3:=fun _=>by kernel_rfl
 z3:=fun _=>by kernel_rfl
 v3:=fun _=>by kernel_rfl
 t4:=by kernel_rfl
 a4:=fun _=>by kernel_rfl
 z4:=fun _=>by kernel_rfl
 v4:=fun _=>by kernel_rfl
 t5:=by kernel_rfl
 a5:=fun _=>by kernel_rfl
 z5:=fun _=>by kernel_rfl
 v5:=fun _=>by kernel_rfl
 t9:=by kernel_rfl
 a9:=fun _=>by kernel_rfl
 z9:=fun _=>by kernel_rfl
 v9:=fun _=>by kernel_rfl
 t20:=by kernel_rfl
 a20:=fun _=>by kernel_rfl
 z20:=fun _=>by kernel_rfl
 v20:=fun _=>by kernel_rfl
 t37:=by kernel_rfl
 a37:=fun _=>by kernel_rfl
 z37:=fun _=>by kernel_rfl
 v37:=fun _=>by kernel_rfl
 t46:=by kernel_rfl
 a46:=fun _=>by kernel_rfl
 z46:=fun _=>by kernel_rfl
 v46:=fun _=>by kernel_rfl
 t51:=by kernel_rfl
 a51:=fun _=>by kernel_rfl
 z51:=fun _=>by kernel_rfl
 v51:=fun _=>by kernel_rfl
 t53:=by kernel_rfl
 a53:=fun _=>by kernel_rfl
 z53:=fun _=>by kernel_rfl
 v53:=fun _=>by kernel_rfl
 t70:=by kernel_rfl
 a70:=fun _=>by kernel_rfl
 z70:=fun _=>by kernel_rfl
 v70:=fun _=>by kernel_rfl
 t72:=by kernel_rfl
 a72:=fun _=>by kernel_rfl
 z72:=fun _=>by kernel_rfl
 v72:=fun _=>by kernel_rfl
 t75:=by kernel_rfl
 a75:=fun _=>by kernel_rfl
 z75:=fun _=>by kernel_rfl
 v75:=fun _=>by kernel_rfl
 t76:=by kernel_rfl
 a76:=fun _=>by kernel_rfl
 z76:=fun _=>by kernel_rfl
 v76:=fun _=>by kernel_rfl
 t109:=by kernel_rfl
 a109:=fun _=>by kernel_rfl
 z109:=fun _=>by kernel_rfl
 v109:=fun _=>by kernel_rfl
 t127:=by kernel_rfl
 a127:=fun _=>by kernel_rfl
 z127:=fun _=>by kernel_rfl
 v127:=fun _=>by kernel_rfl
 t146:=by kernel_rfl
 a146:=fun _=>by kernel_rfl
 z146:=fun _=>by kernel_rfl
 v146:=fun _=>by kernel_rfl
 t148:=by kernel_rfl
 a148:=fun _=>by kernel_rfl
 z148:=fun _=>by kernel_rfl
 v148:=fun _=>by kernel_rfl
 t164:=by kernel_rfl
 a164:=fun _=>by kernel_rfl
 z164:=fun _=>by kernel_rfl
 v164:=fun _=>by kernel_rfl
theorem qHV:Lays.n101 Tryz.prog txRen where
 mixed:=by kernel_rfl
 f101:=by kernel_rfl
 f206:=by kernel_rfl
 f208:=by kernel_rfl
 t3:=by kernel_rfl
 a3:=fun _=>by kernel_rfl
 z3:=fun _=>by kernel_rfl
 v3:=fun _=>by kernel_rfl
 t4:=by kernel_rfl
 a4:=fun _=>by kernel_rfl
 z4:=fun _=>by kernel_rfl
 v4:=fun _=>by kernel_rfl
 t9:=by kernel_rfl
 a9:=fun _=>by kernel_rfl
 z9:=fun _=>by kernel_rfl
 v9:=fun _=>by kernel_rfl
theorem qIB:Lays.n99 Tryz.prog txRen where
 mixed:=by kernel_rfl
 f99:=by kernel_rfl
 f206:=by kernel_rfl
 t3:=by kernel_rfl
 a3:=fun _=>by kernel_rfl
 z3:=fun _=>by kernel_rfl
 v3:=fun _=>by kernel_rfl
 t4:=by kernel_rfl
 a4:=fun _=>by kernel_rfl
 z4:=fun _=>by kernel_rfl
 v4:=fun _=>by kernel_rfl
 t9:=by kernel_rfl
 a9:=fun _=>by kernel_rfl
 z9:=fun _=>by kernel_rfl
 v9:=fun _=>by kernel_rfl
theorem qHW:Lays.n160 Tryz.prog txRen where
 mixed:=by kernel_rfl
 f119:=by kernel_rfl
 f120:=by kernel_rfl
 f137:=by kernel_rfl
 f151:=by kernel_rfl
 f152:=by kernel_rfl
 f160:=by kernel_rfl
 f197:=by kernel_rfl
 f217:=by kernel_rfl
 f224:=by kernel_rfl
 f225:=by kernel_rfl
 f227:=by kernel_rfl
 f228:=by kernel_rfl
 f231:=by kernel_rfl
 f232:=by kernel_rfl
 f233:=by kernel_rfl
 f234:=by kernel_rfl
 f235:=by kernel_rfl
 f236:=by kernel_rfl
 f260:=by kernel_rfl
 f266:=by kernel_rfl
 f271:=by kernel_rfl
 t0:=by kernel_rfl
 a0:=fun _=>by kernel_rfl
 z0:=fun _=>by kernel_rfl
 v0:=fun _=>by kernel_rfl
 t3:=by kernel_rfl
 a3:=fun _=>by kernel_rfl
 z3:=fun _=>by kernel_rfl
 v3:=fun _=>by kernel_rfl
 t4:=by kernel_rfl
 a4:=fun _=>by kernel_rfl
 z4:=fun _=>by kernel_rfl
 v4:=fun _=>by kernel_rfl
 t5:=by kernel_rfl
 a5:=fun _=>by kernel_rfl
 z5:=fun _=>by kernel_rfl
 v5:=fun _=>by kernel_rfl
 t9:=by kernel_rfl
 a9:=fun _=>by kernel_rfl
 z9:=fun _=>by kernel_rfl
 v9:=fun _=>by kernel_rfl
 t21:=by kernel_rfl
 a21:=fun _=>by kernel_rfl
 z21:=fun _=>by kernel_rfl
 v21:=fun _=>by kernel_rfl
 t46:=by kernel_rfl
 a46:=fun _=>by kernel_rfl
 z46:=fun _=>by kernel_rfl
 v46:=fun _=>by kernel_rfl
 t105:=by kernel_rfl
 a105:=fun _=>by kernel_rfl
 z105:=fun _=>by kernel_rfl
 v105:=fun _=>by kernel_rfl
 t116:=by kernel_rfl
 a116:=fun _=>by kernel_rfl
 z116:=fun _=>by kernel_rfl
 t117:=by kernel_rfl
 a117:=fun _=>by kernel_rfl
 z117:=fun _=>by kernel_rfl
 v117:=fun _=>by kernel_rfl
 t119:=by kernel_rfl
 a119:=fun _=>by kernel_rfl
 z119:=fun _=>by kernel_rfl
 t124:=by kernel_rfl
 a124:=fun _=>by kernel_rfl
 z124:=fun _=>by kernel_rfl
 v124:=fun _=>by kernel_rfl
 t138:=by kernel_rfl
 a138:=fun _=>by kernel_rfl
 z138:=fun _=>by kernel_rfl
 v138:=fun _=>by kernel_rfl
 t139:=by kernel_rfl
 a139:=fun _=>by kernel_rfl
 z139:=fun _=>by kernel_rfl
 v139:=fun _=>by kernel_rfl
 g3:=by kernel_rfl
 g4:=by kernel_rfl
theorem qHX:Lays.n172 Tryz.prog txRen where
 mixed:=by kernel_rfl
 f129:=by kernel_rfl
 f171:=by kernel_rfl
 f172:=by kernel_rfl
 f205:=by kernel_rfl
 f243:=by kernel_rfl
 f244:=by kernel_rfl
 f245:=by kernel_rfl
 f246:=by kernel_rfl
 f247:=by kernel_rfl
 f279:=by kernel_rfl
 f280:=by kernel_rfl
 f281:=by kernel_rfl
 f282:=by kernel_rfl
 f283:=by kernel_rfl
 f284:=by kernel_rfl
 f285:=by kernel_rfl
 f286:=by kernel_rfl
 f287:=by kernel_rfl
 f316:=by kernel_rfl
 f317:=by kernel_rfl
 f318:=by kernel_rfl
 f319:=by kernel_rfl
 f320:=by kernel_rfl
 f321:=by kernel_rfl
 f322:=by kernel_rfl
 f337:=by kernel_rfl
 f338:=by kernel_rfl
 t0:=by kernel_rfl
 a0:=fun _=>by kernel_rfl
 z0:=fun _=>by kernel_rfl
 v0:=fun _=>by kernel_rfl
 t2:=by kernel_rfl
 a2:=fun _=>by kernel_rfl
 z2:=fun _=>by kernel_rfl
 v2:=fun _=>by kernel_rfl
 t3:=by kernel_rfl
 a3:=fun _=>by kernel_rfl
 z3:=fun _=>by kernel_rfl
 v3:=fun _=>by kernel_rfl
 t4:=by kernel_rfl
 a4:=fun _=>by kernel_rfl
 z4:=fun _=>by kernel_rfl
 v4:=fun _=>by kernel_rfl
 t5:=by kernel_rfl
 a5:=fun _=>by kernel_rfl
 z5:=fun _=>by kernel_rfl
 v5:=fun _=>by kernel_rfl
 t9:=by kernel_rfl
 a9:=fun _=>by kernel_rfl
 z9:=fun _=>by kernel_rfl
 v9:=fun _=>by kernel_rfl
 t20:=by kernel_rfl
 a20:=fun _=>by kernel_rfl
 z20:=fun _=>by kernel_rfl
 v20:=fun _=>by kernel_rfl
 t21:=by kernel_rfl
 a21:=fun _=>by kernel_rfl
 z21:=fun _=>by kernel_rfl
 v21:=fun _=>by kernel_rfl
 t37:=by kernel_rfl
 a37:=fun _=>by kernel_rfl
 z37:=fun _=>by kernel_rfl
 v37:=fun _=>by kernel_rfl
 t46:=by kernel_rfl
 a46:=fun _=>by kernel_rfl
 z46:=fun _=>by kernel_rfl
 v46:=fun _=>by kernel_rfl
 t51:=by kernel_rfl
 a51:=fun _=>by kernel_rfl
 z51:=fun _=>by kernel_rfl
 v51:=fun _=>by kernel_rfl
 t53:=by kernel_rfl
 a53:=fun _=>by kernel_rfl
 z53:=fun _=>by kernel_rfl
 v53:=fun _=>by kernel_rfl
 t75:=by kernel_rfl
 a75:=fun _=>by kernel_rfl
 z75:=fun _=>by kernel_rfl
 v75:=fun _=>by kernel_rfl
 t76:=by kernel_rfl
 a76:=fun _=>by kernel_rfl
 z76:=fun _=>by kernel_rfl
 v76:=fun _=>by kernel_rfl
 t85:=by kernel_rfl
 a85:=fun _=>by kernel_rfl
 z85:=fun _=>by kernel_rfl
 v85:=fun _=>by kernel_rfl
 t127:=by kernel_rfl
 a127:=fun _=>by kernel_rfl
 z127:=fun _=>by kernel_rfl
 v127:=fun _=>by kernel_rfl
 t143:=by kernel_rfl
 a143:=fun _=>by kernel_rfl
 z143:=fun _=>by kernel_rfl
 v143:=fun _=>by kernel_rfl
 t145:=by kernel_rfl
 a145:=fun _=>by kernel_rfl
 z145:=fun _=>by kernel_rfl
 v145:=fun _=>by kernel_rfl
 t167:=by kernel_rfl
 a167:=fun _=>by kernel_rfl
 z167:=fun _=>by kernel_rfl
 v167:=fun _=>by kernel_rfl
 t168:=by kernel_rfl
 a168:=fun _=>by kernel_rfl
 z168:=fun _=>by kernel_rfl
 v168:=fun _=>by kernel_rfl
 t171:=by kernel_rfl
 a171:=fun _=>by kernel_rfl
 z171:=fun _=>by kernel_rfl
 v171:=fun _=>by kernel_rfl
 t173:=by kernel_rfl
 a173:=fun _=>by kernel_rfl
 z173:=fun _=>by kernel_rfl
 v173:=fun _=>by kernel_rfl
 t175:=by kernel_rfl
 a175:=fun _=>by kernel_rfl
 z175:=fun _=>by kernel_rfl
 v175:=fun _=>by kernel_rfl
 t210:=by kernel_rfl
 a210:=fun _=>by kernel_rfl
 z210:=fun _=>by kernel_rfl
 v210:=fun _=>by kernel_rfl
 t212:=by kernel_rfl
 a212:=fun _=>by kernel_rfl
 z212:=fun _=>by kernel_rfl
 v212:=fun _=>by kernel_rfl
 t213:=by kernel_rfl
 a213:=fun _=>by kernel_rfl
 z213:=fun _=>by kernel_rfl
 t232:=by kernel_rfl
 a232:=fun _=>by kernel_rfl
 z232:=fun _=>by kernel_rfl
 v232:=fun _=>by kernel_rfl
 t233:=by kernel_rfl
 a233:=fun _=>by kernel_rfl
 z233:=fun _=>by kernel_rfl
 v233:=fun _=>by kernel_rfl
 g15:=by kernel_rfl
 g16:=by kernel_rfl
 g17:=by kernel_rfl
 g18:=by kernel_rfl
 g19:=by kernel_rfl
theorem qHY:Lays.n145 Tryz.prog txRen where
 mixed:=by kernel_rfl
 f145:=by kernel_rfl
 f217:=by kernel_rfl
 f219:=by kernel_rfl
 f220:=by kernel_rfl
 f224:=by kernel_rfl
 f225:=by kernel_rfl
 f266:=by kernel_rfl
 f267:=by kernel_rfl
 f314:=by kernel_rfl
 t3:=by kernel_rfl
 a3:=fun _=>by kernel_rfl
 z3:=fun _=>by kernel_rfl
 v3:=fun _=>by kernel_rfl
 t4:=by kernel_rfl
 a4:=fun _=>by kernel_rfl
 z4:=fun _=>by kernel_rfl
 v4:=fun _=>by kernel_rfl
 t5:=by kernel_rfl
 a5:=fun _=>by kernel_rfl
 z5:=fun _=>by kernel_rfl
 v5:=fun _=>by kernel_rfl
 t9:=by kernel_rfl
 a9:=fun _=>by kernel_rfl
 z9:=fun _=>by kernel_rfl
 v9:=fun _=>by kernel_rfl
 t46:=by kernel_rfl
 a46:=fun _=>by kernel_rfl
 z46:=fun _=>by kernel_rfl
 v46:=fun _=>by kernel_rfl
 t51:=by kernel_rfl
 a51:=fun _=>by kernel_rfl
 z51:=fun _=>by kernel_rfl
 v51:=fun _=>by kernel_rfl
 t59:=by kernel_rfl
 a59:=fun _=>by kernel_rfl
 z59:=fun _=>by kernel_rfl
 v59:=fun _=>by kernel_rfl
 t146:=by kernel_rfl
 a146:=fun _=>by kernel_rfl
 z146:=fun _=>by kernel_rfl
 v146:=fun _=>by kernel_rfl
 g1:=by kernel_rfl
theorem qEk:Builder.Extra Tryz.prog txRen where
 sizeBuilder:=by kernel_rfl
 liesBuilder:=by kernel_rfl
 t5:=by kernel_rfl
 a5:=fun _=>by kernel_rfl
 z5:=fun _=>by kernel_rfl
 v5:=fun _=>by kernel_rfl
 infoByte:=by kernel_rfl
 cellsByte:=by kernel_rfl
 sizeByte:=by kernel_rfl
 neB5:=by decide
end Go.Proofs.YtenjpccpldajoaaGreatDoor

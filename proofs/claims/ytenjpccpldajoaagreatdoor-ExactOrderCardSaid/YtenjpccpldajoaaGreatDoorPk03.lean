/- Texts of numbers: the plain law of decimal digits. Contracts of the functions of package slices at []int that the program uses. More of package slices at .. -/
import Derived.Test.YtenjpccpldajoaaGreatDoorPk02
import Derived.Lib.ItoaNum
import Derived.Lib.Atoi
import Derived.Lib.AppendZeros
import Derived.RangeFuncNested
import Derived.RangeFuncBound
import Derived.RangeFuncCalls
import Derived.RangeFuncLeaves
import Derived.RangeFuncFrom
import Derived.Shelf.Abstract
import Derived.Shelf.RegionOpen
import Derived.OwnWalkIn
import Derived.TacticsInMore
import Derived.LoopNIn
import Derived.LoopIn
import Derived.RangeFuncWrites
import Derived.StillTail
namespace Go.Proofs.YtenjpccpldajoaaGreatDoor
set_option maxRecDepth 100000
open Go.RowKit
set_option linter.unusedVariables false
def dd (n:Nat):UInt8:=UInt8.ofNat (48+n)
def padK:Nat→Nat→List UInt8
 | 0,_=>[]
 | k+1,g=>padK k (g / 10)++[dd (g%10)]
theorem qFa {u:Nat} (h:u<10):Lib.decDigits u=[dd u]:=by rw[Lib.decDigits,dif_pos h];rfl
theorem qHG {u:Nat} (h:¬u<10):Lib.decDigits u=Lib.decDigits (u / 10)++[dd (u%10)]:=by rw[Lib.decDigits,dif_neg h];rfl
theorem qK7:∀(k n g:Nat),n≠0→g<10^k→Lib.decDigits (n*10^k+g)=Lib.decDigits n++padK k g
 | 0,n,g,h0,hg=>by
  rw[Nat.pow_zero]at hg ⊢
  obtain rfl:g=0:=by omega
  rw[Nat.mul_one,Nat.add_zero];show _=Lib.decDigits n++[];rw[List.append_nil]
 | k+1,n,g,h0,hg=>by
  rw[Nat.pow_succ]at hg ⊢;have hp:0<10^k:=Nat.pow_pos (by decide);have h1:1≤n*10^k:=Nat.mul_pos (by omega) hp;have h2:n*(10^k*10)=n*10^k*10:=(Nat.mul_assoc _ _ _).symm;rw[h2];have h3:¬n*10^k*10+g<10:=by omega
  rw[qHG h3,show(n*10^k*10+g) / 10=n*10^k+g / 10 by omega,show(n*10^k*10+g)%10=g%10 by omega,qK7 k n (g / 10) h0 (by omega),List.append_assoc]
  rfl
theorem qIY:∀k,padK k 0=List.replicate k 48
 | 0=>rfl
 | k+1=>by
  unfold padK;rw[show 0 / 10=0 from rfl,qIY k,List.replicate_succ']
  rfl
theorem qK8:∀(k g:Nat),1≤k→g<10^k→List.replicate (k - (Lib.decDigits g).length) 48++Lib.decDigits g=padK k g
 | 0,_,h,_=>absurd h (by decide)
 | k+1,g,_,hg=>by
  by_cases h:g<10
  ·rw[qFa h];unfold padK;rw[show g / 10=0 by omega,qIY,show g%10=g by omega]
   rfl
  ·have hk:1≤k:=by
    cases k with
    | zero=>rw[Nat.zero_add,Nat.pow_one]at hg;omega
    | succ k=>omega
   rw[Nat.pow_succ]at hg;rw[qHG h,List.length_append,List.length_singleton,Nat.add_sub_add_right,←List.append_assoc,qK8 k (g / 10) hk (by omega)]
   rfl
theorem qEu:B9=10^9:=by rw[qAO]
def txG:List Nat→List UInt8
 | []=>[]
 | [g]=>Lib.decDigits g
 | g::h::r=>txG (h::r)++padK 9 g
theorem qJJ {g:Nat} {r:List Nat} (h:r≠[]):txG (g::r)=txG r++padK 9 g:=by
 cases r with
 | nil=>exact absurd rfl h
 | cons a r=>rfl
theorem qMM (n:Nat):n≠0→txG (dg n)=Lib.decDigits n:=by
 induction n using Nat.strongRecOn with
 | _ n ih=>
  intro h0;have hb:(0:Nat)<B9:=by rw[qAO];decide
  rw[qDR h0]
  by_cases h:n / B9=0
  ·have hlt:n<B9:=by rcases Nat.div_eq_zero_iff.1 h with h|h<;>omega
   rw[h,qA4,Nat.mod_eq_of_lt hlt]
   rfl
  ·have hne:dg (n / B9)≠[]:=fun e=>h (dg_eq_nil.1 e);have hlt:n / B9<n:=Nat.div_lt_self (by omega) (by rw[qAO];decide);rw[qJJ hne,ih _ hlt h];have h1:=qK7 9 (n / B9) (n%B9) h (by rw[←qEu];exact Nat.mod_lt _ hb);rw[←h1,←qEu,Nat.mul_comm,Nat.div_add_mod]
noncomputable def txN (n:Nat):List UInt8:=if n=0 then[48]else txG (dg n)
theorem qJK (n:Nat):txN n=Lib.decDigits n:=by
 unfold txN
 split
 ·rename_i h;subst h;rw[qFa (by decide)];rfl
 ·rename_i h;exact qMM n h
theorem qNW {l:List Nat} {i:Nat} (h:i<l.length):txG (l.drop i)=if i+1<l.length then txG (l.drop (i+1))++padK 9 l[i]else Lib.decDigits l[i]:=by
 rw[List.drop_eq_getElem_cons h]
 split
 ·rename_i h2;exact qJJ (fun e=>by have:=congrArg List.length e;rw[List.length_drop,List.length_nil]at this;omega)
 ·rename_i h2;rw[List.drop_eq_nil_of_le (by omega)]
  rfl
def digB (b:UInt8):Bool:=decide (48≤b.toNat∧b.toNat≤57)
def dvB (b:UInt8):Nat:=b.toNat - 48
def decV (acc:Nat):List UInt8→Nat
 | []=>acc
 | b::r=>decV (acc*10+dvB b) r
theorem qHH:∀(l:List UInt8) (acc:Nat),Lib.decFrom acc l=if l.all digB=true then some (decV acc l)else none
 | [],acc=>rfl
 | b::r,acc=>by
  unfold Lib.decFrom Lib.digitVal
  by_cases h:48≤b.toNat∧b.toNat≤57
  ·rw[if_pos h];show Lib.decFrom (acc*10+dvB b) r=_;rw[qHH r];have hd:digB b=true:=decide_eq_true h;rw[List.all_cons,hd,Bool.true_and]
   rfl
  ·rw[if_neg h];have hd:digB b=false:=decide_eq_false h;rw[List.all_cons,hd,Bool.false_and]
   rfl
theorem qFF:∀(l:List UInt8) (acc:Nat),decV acc l=acc*10^l.length+decV 0 l
 | [],acc=>by show acc=acc*10^0+0;rw[Nat.pow_zero,Nat.mul_one,Nat.add_zero]
 | b::r,acc=>by
  show decV (acc*10+dvB b) r=acc*10^(r.length+1)+decV (0*10+dvB b) r
  rw[qFF r (acc*10+dvB b),qFF r (0*10+dvB b),Nat.zero_mul,Nat.zero_add,Nat.add_mul,Nat.pow_succ',Nat.mul_assoc,Nat.add_assoc]
theorem qGV (a b:List UInt8) (acc:Nat):decV acc (a++b)=decV (decV acc a) b:=by
 induction a generalizing acc with
 | nil=>rfl
 | cons x a ih=>exact ih _
theorem qGF:∀(l:List UInt8),l.all digB=true→decV 0 l<10^l.length
 | [],_=>by decide
 | b::r,h=>by
  rw[List.all_cons,Bool.and_eq_true]at h;have ih:=qGF r h.2;have hb:48≤b.toNat∧b.toNat≤57:=of_decide_eq_true h.1;show decV (0*10+dvB b) r<10^(r.length+1);rw[qFF,Nat.zero_mul,Nat.zero_add,Nat.pow_succ];have h9:dvB b≤9:=by unfold dvB;omega
  have:=Nat.mul_le_mul_right (10^r.length) h9;omega
theorem qLJ (s:List UInt8) (m f:Nat) (hf:f≤m) (hm:m≤s.length):decV 0 (s.take m)=decV 0 (s.take f)*10^(m - f)+decV 0 ((s.take m).drop f):=by
 have e:s.take m=s.take f++(s.take m).drop f:=by
  have h1:=(List.take_append_drop f (s.take m)).symm;rw[List.take_take,Nat.min_eq_left hf]at h1;exact h1
 have h2:((s.take m).drop f).length =m - f:=by rw[List.length_drop,List.length_take,Nat.min_eq_left hm]
 calc decV 0 (s.take m)=decV 0 (s.take f++(s.take m).drop f):=by rw[←e]
  _=_:=by rw[qGV,qFF,h2]
def idx {α:Type} (p:α→Bool) (zs:List α):Int:=match zs.findIdx? p with |some k=>k|none=> -1
theorem qO5 {α:Type} (p:α→Bool) (zs:List α) (k:Nat) (h:k<zs.length) (hp:p zs[k]=true) (hn:∀j (h:j<zs.length),j<k→p zs[j]=false):(k:Int)=idx p zs:=by
 have:zs.findIdx? p=some k:=by
  rw[List.findIdx?_eq_some_iff_getElem];exact⟨h,hp,fun j hj=>by have:=hn j (by omega) hj;simp[this]⟩
 unfold idx;rw[this]
theorem qNX {α:Type} (p:α→Bool) (zs:List α) (hn:∀j (h:j<zs.length),p zs[j]=false):(-1:Int)=idx p zs:=by
 have:zs.findIdx? p=none:=by
  rw[List.findIdx?_eq_none_iff];intro x hx;obtain⟨j,hj,rfl⟩:=List.mem_iff_getElem.1 hx;exact hn j hj
 unfold idx;rw[this]
theorem qO6 {α:Type} (p:α→Bool) (zs:List α):decide (0≤idx p zs)=zs.any p:=by
 unfold idx
 cases h:zs.findIdx? p with
 | none=>
  rw[List.findIdx?_eq_none_iff]at h;have:zs.any p=false:=by simp only[List.any_eq_false];intro x hx;simp[h x hx]
  simp[this]
 | some k=>
  rw[List.findIdx?_eq_some_iff_getElem]at h;obtain⟨hk,hp,_⟩:=h;have:zs.any p=true:=List.any_eq_true.2 ⟨_,List.getElem_mem hk,hp⟩;simp[this]

set_option linter.unusedVariables false
set_option linter.unusedSimpArgs false
open Go.RowKit Go.Shelf
attribute [local go_sem] Oper.semAt_some

def Kept (n₀:Nat) (Bs:List Nat) (W W':World):Prop:=Below n₀ W W'∧∀B∈Bs,W'.heap[B]? =W.heap[B]?
theorem Kept.refl (n₀:Nat) (Bs:List Nat) (W:World):Kept n₀ Bs W W:=⟨Below.refl _ _,fun _ _=>rfl⟩
theorem Kept.trans {n₀:Nat} {Bs:List Nat} {A B C:World} (h:Kept n₀ Bs A B) (k:Kept n₀ Bs B C):Kept n₀ Bs A C:=⟨h.1.trans k.1,fun b hb=>(k.2 b hb).trans (h.2 b hb)⟩
theorem Kept.cell {n₀:Nat} {Bs:List Nat} {W W':World} (h:Kept n₀ Bs W W') {B i:Nat} (hB:B∈Bs):W'.cell? ⟨B,i,none⟩=W.cell? ⟨B,i,none⟩:=World.cell?_of_block (h.2 B hB)
theorem Kept.put {n₀:Nat} {Bs:List Nat} {w:World} (hn:n₀≤w.heap.size) (hBs:∀B∈Bs,B<w.heap.size) (W:World) (l:Nat) (o o':Obj) (hl:w.heap.size≤l) (h:W.heap[l]? =some o) (hc:o.isCells=false) (hw:o.isWalk=false):Kept n₀ Bs W (W.putObj l o'):=
 ⟨belowK_b hn W l o o' hl h hc hw,fun B hB=>World.putObj_heap_other (by have:=hBs B hB;omega)⟩

def qPK (P:Program) (g:Nat) (lb:Array Value) (N:Nat) (f:Fin N→Array Value) (n₀:Nat) (Bs:List Nat) (w:World):Prop:=
 SeqStopsK Fence.wide 4 P g lb f (Kept n₀ Bs) (fun ys=>ys=List.finRange N) (fun pre=>pre<+:List.finRange N) N w
theorem qC9 {N:Nat} (k:Nat) (h:k<N):(List.finRange N).take (k+1)=(List.finRange N).take k++[⟨k,h⟩]:=by
 have hl:k<(List.finRange N).length :=by simpa using h
 rw[List.take_add_one,List.getElem?_eq_getElem hl];simp
theorem qPL {α:Type} {f:α→Value} {w0 W:World} {v:Value} {xs:List α} (h:Arr f w0 v xs) (hb:Below w0.heap.size w0 W):
  ∃A c,v= .slice A xs.length c∧xs.length≤c∧c≤maxLen∧(A=none→c=0)∧(0<xs.length→∃b off,A=some ⟨b,off,none⟩∧b<w0.heap.size∧∀j (h:j<xs.length),W.cell? ⟨b,off+j,none⟩=some (f xs[j])):=by
 obtain⟨A,c,hv,h1,h2,hN,h3⟩:=h;refine⟨A,c,hv,h1,h2,hN,fun h0=>?_⟩;obtain⟨b,off,ha,hlt,hc⟩:=h3 h0;exact⟨b,off,ha,hlt,fun j hj=>(hb.cell (p:=⟨b,off+j,none⟩) hlt).trans (hc j hj)⟩

section
variable {P:Program} {ops:Array Oper} {C:World→Prop} {md:Region.Mode} {l n:Nat}
def qGG (ops:List Oper):Bool:=ops.all fun o=>match o.op with | .defer _=>false|_=>true
theorem qFb {os:List Oper} (h:qGG os=true):∀o∈os.toArray,∀c,o.op≠ .defer c:=by
 intro o ho c hc;have h1:=List.all_eq_true.1 h o (by simpa using ho);simp[hc]at h1
end

def Marks (B:Nat) (w:World):List Deferred→Prop
 | []=>True
 | d::ds=>(∃D,d={target:= .collected D,args:=#[]}∧B≤D∧w.heap[D]? =some (.deferred (some []))∧∀d'∈ds,d'≠d)∧Marks B w ds
theorem Marks.keep {B:Nat} {w w':World}:∀{ds:List Deferred},Marks B w ds→(∀D,({target:= .collected D,args:=#[]}:Deferred)∈ds→w.heap[D]? =some (.deferred (some []))→w'.heap[D]? =some (.deferred (some [])))→Marks B w' ds
 | [],_,_=>trivial
 | d::ds,⟨⟨D,hd,hB,hD,hne⟩,hr⟩,hk=>⟨⟨D,hd,hB,hk D (by rw[←hd];simp) hD,hne⟩,Marks.keep hr fun D' hm h=>hk D' (by simp[hm]) h⟩
theorem qIZ {w w':World} {base e:Nat} {size n:Nat} {v:Value} {xs:List Value} (h:w.ownsRow base e size v n xs) (hk:∀(k:Nat) (o:Obj),w.heap[k]? =some o→o.isCells=true→w'.heap[k]? =some o):w'.ownsRow base e size v n xs:=by
 obtain⟨h1,h2⟩:=h;refine⟨h1,?_⟩
 rcases h2 with h2| ⟨g,cap,cur,hv,hg,hh,r⟩
 ·exact Or.inl h2
 ·exact Or.inr ⟨g,cap,cur,hv,hg,hk _ _ hh rfl,r⟩
theorem qBJ {P:Program} {F:Fence} {n:Nat} {fn:Func} {tmps:Array Value} {R:Ending→World→Prop} (B:Nat):∀(ds:List Deferred) (w:World),Marks B w ds→
  (∀w':World,Below B w w'→(∀(k:Nat) (o:Obj),w.heap[k]? =some o→o.isCells=true→w'.heap[k]? =some o)→∃v,(results fn tmps).run P w'= .ok v w'∧R (.returned v) w')→LeavesInM F n P fn tmps R ds .returning w:=by
 intro ds
 induction ds with
 | nil=>intro w _ h;exact h w (Below.refl _ _) fun _ _ h _=>h
 | cons d ds ih=>
  rintro w ⟨⟨D,rfl,hB,hD,hne⟩,hm⟩ h;refine⟨by simp,.inl ⟨D,_,rfl,run_takeDeferred hD,ih _ (hm.keep fun D' hmem h'=>?_) fun w' hb hk=>?_⟩⟩
  ·have hDD:D'≠D:=by
    rintro rfl;exact hne _ hmem rfl
   rw[World.putObj_heap_other hDD];exact h'
  ·have hb1:Below B w (w.putObj D (.deferred none)):=(Below.refl B w).grown (grownBy_putObj' w D _) (by have:=(gsl hD);omega) (fun k e=>by cases e;omega);refine h w' (hb1.trans hb) fun k o ho hc=>hk k o ?_ hc
   have hkD:k≠D:=by
    rintro rfl;rw[hD]at ho
    cases ho
    cases hc
   rw[World.putObj_heap_other hkD];exact ho

end Go.Proofs.YtenjpccpldajoaaGreatDoor
namespace Go.Proofs.YtenjpccpldajoaaGreatDoor
set_option maxRecDepth 100000
open Go.RowKit Go.Shelf
set_option linter.unusedVariables false
variable {F:Fence} {n:Nat} {P:Program}
end Go.Proofs.YtenjpccpldajoaaGreatDoor
namespace Go.Proofs.YtenjpccpldajoaaGreatDoor
set_option maxRecDepth 100000
open Go.RowKit Go.Shelf
set_option linter.unusedVariables false
set_option linter.unusedSimpArgs false
section
variable {P:Program} {ops:Array Oper} {C:World→Prop} {md:Region.Mode} {n m:Nat} {F:Fence}

end
theorem qKK {P:Program} {f:FuncId} {args:Array Value} {W:World} {n:Nat} {v:Value} (h:Calls P f args (W.drewN n) fun e w'=>e= .returned v∧W.drewN n=w'):
  Calls P f args (W.drewN n) fun e w''=>e= .returned v∧∃m,w''=W.drewN m:=h.mono fun _ _ ⟨he,hw⟩=>⟨he,n,hw.symm⟩
theorem qBA (F:(Nat→Value)→Array Value) (t:Array Value) (h:t=F (fun i=>t.getD i undef)):∃u,t=F u:=⟨_,h⟩
def qBX (n:Nat):Code→List Code
 | .region m o d=>if m=n then[.region m o d]else[]
 | .seq a b=>match a with
  | .region m _ _=>if m=n then[.seq a b]else qBX n b
  | _=>qBX n a++qBX n b
 | .block _ c=>qBX n c
 | .scope c=>qBX n c
 | .loop c=>qBX n c
 | .cond _ a b=>qBX n a++qBX n b
 | _=>[]
end Go.Proofs.YtenjpccpldajoaaGreatDoor

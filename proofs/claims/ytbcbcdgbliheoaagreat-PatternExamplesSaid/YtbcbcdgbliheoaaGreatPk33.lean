/- exact: fractions that are arguments: what they are; in. The reference: groups. reference 1: In. -/
import Derived.Test.YtbcbcdgbliheoaaGreatPk32
import Derived.Test.YtbcbcdgbliheoaaGreatPk31
namespace Go.Proofs.YtbcbcdgbliheoaaGreat
set_option maxRecDepth 100000
open Go.RowKit Go.Shelf
set_option linter.unusedVariables false
set_option linter.unusedSimpArgs false
structure FracA where
 sn:Bool
 gn:List Nat
 sd:Bool
 gd:List Nat
def FracA.ok (x:FracA):Bool:=isW x.sn x.gn&&isW x.sd x.gd&& !x.sd&&decide (0<x.gd.length)
open Classical in
noncomputable def FracA.rat? (x:FracA):Option Rat:=if x.ok=true/\Nat.gcd (nv x.gn) (nv x.gd)=1 then some (mkR x.sn (nv x.gn) (nv x.gd))else none
def IsFracA (L:Nat->Prop) (w:World) (v:Value) (x:FracA):Prop:=∃A c B d,v= .agg #[.bool x.sn,.slice A x.gn.length c,.bool x.sd,.slice B x.gd.length d]/\ArrL L (gv .u32) w (.slice A x.gn.length c) x.gn/\ArrL L (gv .u32) w (.slice B x.gd.length d) x.gd
theorem IsFracA.le {L:Nat->Prop} {w W:World} {v:Value} {x:FracA} (h:IsFracA L w v x) (hb:Le w W):IsFracA L W v x:=by
 obtain⟨A,c,B,d,e,b,f⟩:=h;exact⟨A,c,B,d,e,b.le hb,f.le hb⟩
theorem IsFracA.mono {L L2:Nat->Prop} {w:World} {v:Value} {x:FracA} (h:IsFracA L w v x) (hL:∀b,L b->L2 b):IsFracA L2 w v x:=by
 obtain⟨A,c,B,d,e,f,g⟩:=h;exact⟨A,c,B,d,e,f.mono hL,g.mono hL⟩
theorem qD0 {s:Bool} {g:List Nat} (h:isW s g=true):Norm g/\g.length<=40/\(nv g=0->s=false):=by
 unfold isW at h;simp only[Bool.and_eq_true,decide_eq_true_eq,Bool.not_eq_true']at h;obtain⟨⟨i,j⟩,d⟩:=h;have k:=qA5
 have f:Low g:=λx l=>by
  rw[k];have:=List.any_eq_false.1 j x l;simpa using this
 have b:g.getLast?≠some 0:=by
  by_cases c:g.length=0
  ·have:g=[]:=List.eq_nil_of_length_eq_zero c;subst this;simp
  ·rw[if_neg c]at d;rw[List.getLast?_eq_getElem?];intro e;rw[List.getD_eq_getElem?_getD,e]at d;simp at d
 refine⟨⟨f,b⟩,i,λm=>?_⟩
 by_cases c:g.length=0
 ·rw[if_pos c]at d;simpa using d
 ·have:=qGt b (λe=>c (by rw[e];rfl));omega
theorem qMO {s:Bool} {g:List Nat} (h:isW s g=true):dg (nv g)=g:=qFv (qD0 h).1
structure FracA.Val (x:FracA) (r:Rat):Prop where
 neg:rneg r=x.sn
 num:dg (rnum r)=x.gn
 den:dg r.den=x.gd
 pos:x.sd=false
 wn:isW x.sn x.gn=true
 wd:isW false x.gd=true
 sz:Rsz r 40
theorem FracA.val {x:FracA} {r:Rat} (h:x.rat?=some r):x.Val r:=by
 unfold FracA.rat? at h
 split at h
 ·rename_i hc;injection h with h;subst h;obtain⟨b,m⟩:=hc;unfold FracA.ok at b;simp only[Bool.and_eq_true,decide_eq_true_eq,Bool.not_eq_true']at b;obtain⟨⟨⟨j,d⟩,k⟩,l⟩:=b;obtain⟨n,s,t⟩:=qD0 j;obtain⟨c,o,v⟩:=qD0 d;have f:nv x.gd≠0:=Nat.ne_of_gt (qGt c.2 (λe=>by rw[e]at l;simp at l))
  have p:rneg (mkR x.sn (nv x.gn) (nv x.gd))=x.sn:=by
   rw[qKE _ _ _ f]
   by_cases q:nv x.gn=0
   ·rw[t q];rfl
   ·rw[show decide (0<nv x.gn)=true by simp;omega,Bool.and_true]
  have g:rnum (mkR x.sn (nv x.gn) (nv x.gd))=nv x.gn:=by rw[qFz _ _ _ f,m,Nat.div_one]
  have i:(mkR x.sn (nv x.gn) (nv x.gd)).den =nv x.gd:=by rw[qHX _ _ _ f,m,Nat.div_one]
  refine⟨p,by rw[g,qFv n],by rw[i,qFv c],k,j,by rw[k]at d;exact d,?_,?_⟩
  ·rw[g,qFv n];exact s
  ·rw[i,qFv c];exact o
 ·cases h
theorem FracA.bad {x:FracA} (h:x.rat?=none):x.ok=false∨(isW x.sn x.gn=true/\isW false x.gd=true/\x.sd=false/\nv x.gd≠0/\Nat.gcd (nv x.gn) (nv x.gd)≠1):=by
 unfold FracA.rat? at h
 split at h
 ·cases h
 ·rename_i hc
  cases hok:x.ok with
  | false=>exact .inl rfl
  | true=>
   have c:=hok;unfold FracA.ok at c;simp only[Bool.and_eq_true,decide_eq_true_eq,Bool.not_eq_true']at c;obtain⟨⟨⟨i,b⟩,d⟩,f⟩:=c;obtain⟨g,k,l⟩:=qD0 b;refine .inr ⟨i,by rw[d]at b;exact b,d,Nat.ne_of_gt (qGt g.2 (λe=>by rw[e]at f;simp at f)),λj=>hc ⟨hok,j⟩⟩
theorem qDu (L:Nat->Prop) (x:FracA) (r:Rat) (v:Value) (w:World) (hL:Up w L) (h:IsFracA L w v x) (hr:x.rat?=some r):
  Calls Tryz.prog 61 #[v] w λe w'=>∃v',e= .returned v'/\Le w w'/\RatL L .u32 w' v' r:=by
 obtain⟨A,c,B,d,rfl,b,f⟩:=h;have V:=FracA.val hr;have k:=qNP L r (.slice A x.gn.length c) (.slice B x.gd.length d) w hL (by unfold NumL;rw[V.num];exact b) (by unfold NumL;rw[V.den];exact f) (by rw[V.neg,V.num];exact V.wn) (by rw[V.den];exact V.wd) V.sz;rw[V.neg]at k;rw[V.pos];exact k
theorem qDv (L:Nat->Prop) (x:FracA) (v:Value) (w:World) (hL:Up w L) (h:IsFracA L w v x) (hr:x.rat?=none):
  Calls Tryz.prog 61 #[v] w λe w'=>e= .panicked [{v:= .iface 111 (.agg #[.int .i64 10]),recovered:=false}]/\Le w w':=by
 obtain⟨A,c,B,d,rfl,g,i⟩:=h
 rcases FracA.bad hr with hb| ⟨b1,b2,b3,b4,b5⟩
 ·exact qNQ L x.sn x.sd x.gn x.gd _ _ w hL g i hb
 ·rw[b3];have b:=qMO b1;have f:=qMO b2;exact qMM L x.sn (nv x.gn) (nv x.gd) _ _ w hL (by unfold NumL;rw[b];exact g) (by unfold NumL;rw[f];exact i) b4 (by rw[b];exact b1) (by rw[f];exact b2) (by rw[b];exact(qD0 b1).2.1) (by rw[f];exact(qD0 b2).2.1) b5
end Go.Proofs.YtbcbcdgbliheoaaGreat
namespace Go.Proofs.YtbcbcdgbliheoaaGreat
set_option maxRecDepth 100000
open Go.RowKit Go.Shelf
set_option linter.unusedVariables false
set_option linter.unusedSimpArgs false
end Go.Proofs.YtbcbcdgbliheoaaGreat

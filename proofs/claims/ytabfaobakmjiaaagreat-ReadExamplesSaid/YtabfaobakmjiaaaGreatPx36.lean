/- exact: fractions that are arguments: what they are; in. The reference: groups. reference 1: In. reference 1: fractions: Order. reference 1: fractions: written. .. -/
import Derived.Test.YtabfaobakmjiaaaGreatPx35
namespace Go.Proofs.YtabfaobakmjiaaaGreat
set_option maxRecDepth 100000
set_option maxHeartbeats 4000000
open Go.RowKit Go.Shelf
set_option linter.unusedVariables false
set_option linter.unusedSimpArgs false
structure FracA where
 sn:Bool
 gn:List Nat
 sd:Bool
 gd:List Nat
def FracA.ok (x:FracA):Bool:=isW x.sn x.gn&&isW x.sd x.gd&& !x.sd&&decide (0<x.gd.length)
open Classical in
noncomputable def FracA.rat? (x:FracA):Option Rat:=if x.ok=true/\Nat.gcd (nv x.gn) (nv x.gd)=1 then some (mkR x.sn (nv x.gn) (nv x.gd))else none
def IsFracA (L:Nat->Prop) (w:World) (v:Value) (x:FracA):Prop:=∃A c B d,v= .agg #[.bool x.sn,.slice A x.gn.length c,.bool x.sd,.slice B x.gd.length d]/\ArrL L (gv .u32) w (.slice A x.gn.length c) x.gn/\ArrL L (gv .u32) w (.slice B x.gd.length d) x.gd
theorem IsFracA.le {L:Nat->Prop} {w W:World} {v:Value} {x:FracA} (h:IsFracA L w v x) (hb:Le w W):IsFracA L W v x:=by
 obtain⟨A,c,B,d,e,b,f⟩:=h;exact⟨A,c,B,d,e,b.le hb,f.le hb⟩
theorem IsFracA.mono {L L2:Nat->Prop} {w:World} {v:Value} {x:FracA} (h:IsFracA L w v x) (hL:∀b,L b->L2 b):IsFracA L2 w v x:=by
 obtain⟨A,c,B,d,e,f,g⟩:=h;exact⟨A,c,B,d,e,f.mono hL,g.mono hL⟩
theorem qET {s:Bool} {g:List Nat} (h:isW s g=true):Norm g/\g.length<=40/\(nv g=0->s=false):=by
 unfold isW at h;simp only[Bool.and_eq_true,decide_eq_true_eq,Bool.not_eq_true']at h;obtain⟨⟨i,j⟩,d⟩:=h;have k:=qA6
 have f:Low g:=λx l=>by
  rw[k];have:=List.any_eq_false.1 j x l;simpa using this
 have b:g.getLast?≠some 0:=by
  by_cases c:g.length=0
  ·have:g=[]:=List.eq_nil_of_length_eq_zero c;subst this;simp
  ·rw[if_neg c]at d;rw[List.getLast?_eq_getElem?];intro e;rw[List.getD_eq_getElem?_getD,e]at d;simp at d
 refine⟨⟨f,b⟩,i,λm=>?_⟩
 by_cases c:g.length=0
 ·rw[if_pos c]at d;simpa using d
 ·have:=qIn b (λe=>c (by rw[e];rfl));omega
theorem qPt {s:Bool} {g:List Nat} (h:isW s g=true):dg (nv g)=g:=qH0 (qET h).1
structure FracA.Val (x:FracA) (r:Rat):Prop where
 neg:rneg r=x.sn
 num:dg (rnum r)=x.gn
 den:dg r.den=x.gd
 pos:x.sd=false
 wn:isW x.sn x.gn=true
 wd:isW false x.gd=true
 sz:Rsz r 40
theorem FracA.val {x:FracA} {r:Rat} (h:x.rat?=some r):x.Val r:=by
 unfold FracA.rat? at h
 split at h
 ·rename_i hc;injection h with h;subst h;obtain⟨b,m⟩:=hc;unfold FracA.ok at b;simp only[Bool.and_eq_true,decide_eq_true_eq,Bool.not_eq_true']at b;obtain⟨⟨⟨j,d⟩,k⟩,l⟩:=b;obtain⟨n,s,t⟩:=qET j;obtain⟨c,o,v⟩:=qET d;have f:nv x.gd≠0:=Nat.ne_of_gt (qIn c.2 (λe=>by rw[e]at l;simp at l))
  have p:rneg (mkR x.sn (nv x.gn) (nv x.gd))=x.sn:=by
   rw[qJ3 _ _ _ f]
   by_cases q:nv x.gn=0
   ·rw[t q];rfl
   ·rw[show decide (0<nv x.gn)=true by simp;omega,Bool.and_true]
  have g:rnum (mkR x.sn (nv x.gn) (nv x.gd))=nv x.gn:=by rw[qGA _ _ _ f,m,Nat.div_one]
  have i:(mkR x.sn (nv x.gn) (nv x.gd)).den =nv x.gd:=by rw[qH4 _ _ _ f,m,Nat.div_one]
  refine⟨p,by rw[g,qH0 n],by rw[i,qH0 c],k,j,by rw[k]at d;exact d,?_,?_⟩
  ·rw[g,qH0 n];exact s
  ·rw[i,qH0 c];exact o
 ·cases h
theorem FracA.bad {x:FracA} (h:x.rat?=none):x.ok=false∨(isW x.sn x.gn=true/\isW false x.gd=true/\x.sd=false/\nv x.gd≠0/\Nat.gcd (nv x.gn) (nv x.gd)≠1):=by
 unfold FracA.rat? at h
 split at h
 ·cases h
 ·rename_i hc
  cases hok:x.ok with
  | false=>exact .inl rfl
  | true=>
   have c:=hok;unfold FracA.ok at c;simp only[Bool.and_eq_true,decide_eq_true_eq,Bool.not_eq_true']at c;obtain⟨⟨⟨i,b⟩,d⟩,f⟩:=c;obtain⟨g,k,l⟩:=qET b;refine .inr ⟨i,by rw[d]at b;exact b,d,Nat.ne_of_gt (qIn g.2 (λe=>by rw[e]at f;simp at f)),λj=>hc ⟨hok,j⟩⟩
theorem qCU (L:Nat->Prop) (x:FracA) (r:Rat) (v:Value) (w:World) (hL:Up w L) (h:IsFracA L w v x) (hr:x.rat?=some r):
  Calls Tryz.prog 137 #[v] w λe w'=>∃v',e= .returned v'/\Le w w'/\RatL L .u32 w' v' r:=by
 obtain⟨A,c,B,d,rfl,b,f⟩:=h;have V:=FracA.val hr;have k:=qRB L r (.slice A x.gn.length c) (.slice B x.gd.length d) w hL (by unfold NumL;rw[V.num];exact b) (by unfold NumL;rw[V.den];exact f) (by rw[V.neg,V.num];exact V.wn) (by rw[V.den];exact V.wd) V.sz;rw[V.neg]at k;rw[V.pos];exact k
theorem qGU (L:Nat->Prop) (x:FracA) (v:Value) (w:World) (hL:Up w L) (h:IsFracA L w v x) (hr:x.rat?=none):
  Calls Tryz.prog 137 #[v] w λe w'=>e= .panicked [{v:= .iface 223 (.agg #[.int .i64 10]),recovered:=false}]/\Le w w':=by
 obtain⟨A,c,B,d,rfl,g,i⟩:=h
 rcases FracA.bad hr with hb| ⟨b1,b2,b3,b4,b5⟩
 ·exact qRC L x.sn x.sd x.gn x.gd _ _ w hL g i hb
 ·rw[b3];have b:=qPt b1;have f:=qPt b2;exact qPq L x.sn (nv x.gn) (nv x.gd) _ _ w hL (by unfold NumL;rw[b];exact g) (by unfold NumL;rw[f];exact i) b4 (by rw[b];exact b1) (by rw[f];exact b2) (by rw[b];exact(qET b1).2.1) (by rw[f];exact(qET b2).2.1) b5
end Go.Proofs.YtabfaobakmjiaaaGreat
namespace Go.Proofs.YtabfaobakmjiaaaGreat
set_option maxRecDepth 100000
set_option maxHeartbeats 4000000
open Go.RowKit Go.Shelf
set_option linter.unusedVariables false
set_option linter.unusedSimpArgs false
theorem qBa (w:World) (o0 o1:Obj):∃W0,(w.alloc o0).alloc o1=W0/\W0.heap.size=w.heap.size+2/\Le w W0/\W0.heap[w.heap.size]? =some o0/\W0.heap[w.heap.size+1]? =some o1:=by
 obtain⟨b,c,d⟩:=qBR (Le.refl ((w.alloc o0).alloc o1));exact⟨_,rfl,by simp,b,c,d⟩
theorem qDz {W:World} {X:Nat} {v0 v1:Value} {t:TypeId} (h:W.heap[X]? =some (Obj.cells #[v0,v1] t)):W.cell? ⟨X,0,none⟩=some v0/\W.cell? ⟨X,1,none⟩=some v1:=
 ⟨cell_of_row W X 0 _ _ _ h,cell_of_row W X 1 _ _ _ h⟩
theorem qCV {W:World} {X:Nat} {v0 v1 u0 u1:Value} {t:TypeId} (h:W.heap[X]? =some (Obj.cells #[v0,v1] t)):((W.setCell ⟨X,0,none⟩ u0).setCell ⟨X,1,none⟩ u1).heap[X]? =some (.cells #[u0,u1] t):=by
 simp only[World.setCell,Array.getElem?_modify,h];simp
theorem FracL.le {L:Nat->Prop} {w W:World} {v:Value} {r:Rat} (h:FracL L w v r) (hb:Le w W):FracL L W v r:=by
 obtain⟨A,c,B,d,e,b,f⟩:=h;exact⟨A,c,B,d,e,b.le hb,f.le hb⟩
theorem qSQ (w:World) (o0 o1 o2 o3:Obj):∃W0,(((w.alloc o0).alloc o1).alloc o2).alloc o3=W0/\W0.heap.size=w.heap.size+4/\Le w W0/\W0.heap[w.heap.size]? =some o0/\W0.heap[w.heap.size+1]? =some o1/\W0.heap[w.heap.size+1+1]? =some o2/\W0.heap[w.heap.size+1+1+1]? =some o3:=by
 obtain⟨c,d,f,b,g,h,i⟩:=qCQ w o0 o1 o2;rw[d];refine⟨_,rfl,by rw[World.size_alloc];omega,b.trans (qAB _ _),?_,?_,?_,?_⟩
 ·exact((qAB c o3).block _ (by omega)).trans g
 ·exact((qAB c o3).block _ (by omega)).trans h
 ·exact((qAB c o3).block _ (by omega)).trans i
 ·have:w.heap.size+1+1+1=c.heap.size:=by omega
  rw[this];unfold World.alloc;exact Array.getElem?_push_size
def qT6 (v:Value):Prop:=∃s A n c B m d,v= .agg #[.bool s,.slice A n c,.slice B m d]
theorem RatL.qform {L:Nat->Prop} {k:IntKind} {w:World} {v:Value} {r:Rat} (h:RatL L k w v r):qT6 v:=by
 obtain⟨b,d,c,f,rfl,-,-⟩:=h.form;exact⟨_,_,_,_,_,_,_,rfl⟩
open Classical in
noncomputable def okE (b:Bool):Int:=if b then 0 else 10
def qT7 (v:Value):Prop:=∃s A n c s' B m d,v= .agg #[.bool s,.slice A n c,.bool s',.slice B m d]
theorem FracL.box4 {L:Nat->Prop} {W:World} {v u0 u1 u2 u3:Value} {b0 b1:Bool} {A1 A2:Option Addr} {n1 c1 n2 c2 B:Nat} {r:Rat} {t:TypeId} (h:FracL L W v r) (hk:W.heap[B]? =some (Obj.cells #[.bool b0,.slice A1 n1 c1,.bool b1,.slice A2 n2 c2] t)):
  FracL L ((((W.setCell ⟨B,0,none⟩ u0).setCell ⟨B,1,none⟩ u1).setCell ⟨B,2,none⟩ u2).setCell ⟨B,3,none⟩ u3) v r:=by
 obtain⟨A,c,b,d,e,f,g⟩:=h;exact⟨A,c,b,d,e,f.box4 hk,g.box4 hk⟩
theorem FracA.sz {x:FracA} {r:Rat} (h:x.rat?=some r):Rsz r 40:=(FracA.val h).sz
theorem Rsz.up {r:Rat} {m n:Nat} (h:Rsz r m) (hmn:m<=n):Rsz r n:=⟨Nat.le_trans h.1 hmn,Nat.le_trans h.2 hmn⟩
end Go.Proofs.YtabfaobakmjiaaaGreat
namespace Go.Proofs.YtabfaobakmjiaaaGreat
set_option maxRecDepth 100000
set_option maxHeartbeats 4000000
open Go.RowKit Go.Shelf
set_option linter.unusedVariables false
set_option linter.unusedSimpArgs false
noncomputable def qCW (r:Rat):FracA:=⟨rneg r,dg (rnum r),false,dg r.den⟩
def qO9:FracA:=⟨false,[],false,[]⟩
theorem FracL.isA {L:Nat->Prop} {w:World} {v:Value} {r:Rat} (h:FracL L w v r):IsFracA L w v (qCW r):=by
 obtain⟨A,c,B,d,rfl,b,f⟩:=h;exact⟨A,c,B,d,rfl,b.1,f.1⟩
theorem qKN (L:Nat->Prop) (w:World):IsFracA L w (.agg #[.bool false,.slice none 0 0,.bool false,.slice none 0 0]) qO9:=
 ⟨none,0,none,0,rfl,⟨none,0,rfl,Nat.le_refl _,by decide,by decide,λh=>absurd h (Nat.lt_irrefl 0)⟩,⟨none,0,rfl,Nat.le_refl _,by decide,by decide,λh=>absurd h (Nat.lt_irrefl 0)⟩⟩
theorem qKO {neg:Bool} {n:Nat} (h:(dg n).length <=40) (hz:n=0->neg=false):isW neg (dg n)=true:=by
 unfold isW
 have b:((dg n).any λg=>decide (1000000000<=g))=false:=by
  rw[List.any_eq_false];intro x f;have:=qAr n x f;rw[qA6]at this
  simp;omega
 rw[b,decide_eq_true h]
 by_cases c:(dg n).length =0
 ·have d:n=0:=by rw[<-qAh n,List.eq_nil_of_length_eq_zero c];rfl
  rw[if_pos c,hz d]
  rfl
 ·rw[if_neg c];have:=qFm (n:=n) (by omega);rw[qBf (by omega)]
  simp;omega
theorem qHJ {r:Rat} (h:Rsz r 40):(qCW r).rat? =some r:=by
 have c:isW (rneg r) (dg (rnum r))=true:=qKO h.1 qO3;have d:isW false (dg r.den)=true:=qKO h.2 λ_=>rfl
 have f:(dg r.den).length ≠0:=λb=>by
  have:r.den=0:=by rw[<-qAh r.den,List.eq_nil_of_length_eq_zero b];rfl
  exact r.den_nz this
 unfold FracA.rat? FracA.ok qCW;simp only;rw[c,d,qAh,qAh];rw[if_pos ⟨by simp;omega,r.reduced⟩,qLs]
theorem qD0 {a b:Rat} {n:Nat} (ha:Rsz a n) (hb:Rsz b n):Rsz (a+b) (n+n+1):=by
 have g:=ha.1;have i:=ha.2;have j:=hb.1;have k:=hb.2;have l:=qAd (rnum a) b.den;have m:=qAd (rnum b) a.den;have o:=qAd a.den b.den;have c:a.den*b.den≠0:=Nat.ne_of_gt (Nat.mul_pos (qBB a) (qBB b))
 by_cases h:rneg a=rneg b
 ·rw[<-qLt h];obtain⟨f,q2⟩:=qH5 (rneg a) (rnum a*b.den+rnum b*a.den) (a.den*b.den) c;have d:=qDb (rnum a*b.den) (rnum b*a.den);exact⟨by omega,by omega⟩
 ·rw[<-qPl h]
  split
  ·obtain⟨f,q2⟩:=qH5 (rneg b) (rnum b*a.den - rnum a*b.den) (a.den*b.den) c;have d:(dg (rnum b*a.den - rnum a*b.den)).length <=(dg (rnum b*a.den)).length :=qAW (Nat.sub_le _ _);exact⟨by omega,by omega⟩
  ·obtain⟨f,q2⟩:=qH5 (rneg a) (rnum a*b.den - rnum b*a.den) (a.den*b.den) c;have d:(dg (rnum a*b.den - rnum b*a.den)).length <=(dg (rnum a*b.den)).length :=qAW (Nat.sub_le _ _);exact⟨by omega,by omega⟩
theorem qN0 {a:Rat} {n:Nat} (ha:Rsz a n):Rsz (-a) n:=by obtain⟨c,q2,b⟩:=qJ4 a;unfold Rsz;rw[q2,b];exact ha
theorem qSR {a b:Rat} {n:Nat} (ha:Rsz a n) (hb:Rsz b n):Rsz (a - b) (n+n+1):=by rw[Rat.sub_eq_add_neg];exact qD0 ha (qN0 hb)
theorem qEU {a b:Rat} {n:Nat} (ha:Rsz a n) (hb:Rsz b n):Rsz (a*b) (n+n):=by
 have c:=ha.1;have d:=ha.2;have f:=hb.1;have g:=hb.2;rw[<-qNY];obtain⟨j,q2⟩:=qH5 (rneg a != rneg b) (rnum a*rnum b) (a.den*b.den) (Nat.ne_of_gt (Nat.mul_pos (qBB a) (qBB b)));have h:=qAd (rnum a) (rnum b);have i:=qAd a.den b.den;exact⟨by omega,by omega⟩
theorem qKP {r:Rat}:rsgn r=0↔r=0:=by unfold rsgn;rw[Int.sign_eq_zero_iff_zero,Rat.num_eq_zero]
noncomputable def halfR:Rat:=((1:Int):Rat) / ((2:Int):Rat)
theorem qRG:mkR false 1 2=halfR:=by
 have h:=qRF 1 2 (by decide);unfold halfR;rw[<-h]
 rfl
theorem qHm:rneg halfR=false/\rnum halfR=1/\halfR.den=2:=by
 rw[<-qRG];refine⟨?_,?_,?_⟩
 ·rw[qJ3 _ _ _ (by decide)];rfl
 ·rw[qGA _ _ _ (by decide)];decide
 ·rw[qH4 _ _ _ (by decide)];decide
theorem halfR_sz:Rsz halfR 3:=by
 obtain⟨-,b,c⟩:=qHm;exact⟨by rw[b];exact qD5 (by omega),by rw[c];exact qD5 (by omega)⟩
noncomputable def qC7 (r:Rat):Nat:=rnum (r+halfR) / (r+halfR).den +(if rneg (r+halfR)=true/\rnum (r+halfR)%(r+halfR).den ≠0 then 1 else 0)
noncomputable def qEy (r:Rat):Int:=if qC7 r<=4611686018427387904 then sg (rneg (r+halfR)) (qC7 r)else 0
noncomputable def qBb (r:Rat):Bool:=decide (qC7 r<=4611686018427387904)
noncomputable def qAT (x:FracA):Int×Int:=
 match x.rat? with
 | some r=>if qBb r then(qEy r,0)else(0,12)
 | none=>(0,10)
def MPred.box (B:Nat) (o:Obj):MPred:=⟨λv w=>∃k,v= .pointer (some ⟨k,0,none⟩)/\B<=k/\w.heap[k]? =some o,λ_ _ _ hb ⟨k,e,h1,h2⟩=>⟨k,e,h1,(hb.block k (gsl h2)).trans h2⟩⟩
set_option maxRecDepth 10000
abbrev flt (c:Int):List PanicEntry:=[{v:= .iface 223 (.agg #[.int .i64 c]),recovered:=false}]
structure TwoG (i j:Nat) (D:Nat->Bool) (x:Nat->Value) (W:World):Prop where
 a:D i=true->∃k,x i= .pointer (some ⟨k,0,none⟩)/\k<W.heap.size
 b:D j=true->∃k,x j= .pointer (some ⟨k,0,none⟩)/\k<W.heap.size
 ne:D i=true->D j=true->x i≠x j
theorem TwoG.quiet {i j n:Nat} {D:Nat->Bool} {x:Nat->Value} {W W':World} {v:Value} (h:TwoG i j D x W) (hs:Le W W') (hi:n≠i) (hj:n≠j):TwoG i j (updB D n) (updV x n v) W':=by
 have c:∀q,q≠n->updB D n q=D q:=λq hq=>by simp[updB,hq]
 have d:∀q,q≠n->updV x n v q=x q:=λq hq=>by simp[updV,hq]
 refine⟨?_,?_,?_⟩
 ·rw[c i (Ne.symm hi),d i (Ne.symm hi)];exact λl=>by obtain⟨k,f,g⟩:=h.a l;exact⟨k,f,Nat.lt_of_lt_of_le g hs.size⟩
 ·rw[c j (Ne.symm hj),d j (Ne.symm hj)];exact λl=>by obtain⟨k,f,g⟩:=h.b l;exact⟨k,f,Nat.lt_of_lt_of_le g hs.size⟩
 ·rw[c i (Ne.symm hi),d i (Ne.symm hi),c j (Ne.symm hj),d j (Ne.symm hj)];exact h.ne
theorem TwoG.left {i j:Nat} {D:Nat->Bool} {x:Nat->Value} {W:World} {o:Obj} (h:TwoG i j D x W) (hij:i≠j):TwoG i j (updB D i) (updV x i (.pointer (some ⟨W.heap.size,0,none⟩))) (W.alloc o):=by
 have g:∀q,q≠i->updB D i q=D q:=λq hq=>by simp[updB,hq]
 have l:∀v q,q≠i->updV x i v q=x q:=λv q hq=>by simp[updV,hq]
 refine⟨λ_=>⟨W.heap.size,by simp[updV],by simp⟩,?_,λ_=>?_⟩
 ·rw[g j (Ne.symm hij),l _ j (Ne.symm hij)];exact λf=>by obtain⟨k,d,m⟩:=h.b f;exact⟨k,d,by rw[World.size_alloc];omega⟩
 ·rw[g j (Ne.symm hij),l _ j (Ne.symm hij)];intro f c;obtain⟨k,d,m⟩:=h.b f;rw[d]at c;simp only[updV,if_true]at c;injection c with c;injection c with c;injection c with c;omega
theorem TwoG.right {i j:Nat} {D:Nat->Bool} {x:Nat->Value} {W:World} {o:Obj} (h:TwoG i j D x W) (hij:i≠j):TwoG i j (updB D j) (updV x j (.pointer (some ⟨W.heap.size,0,none⟩))) (W.alloc o):=by
 have f:∀q,q≠j->updB D j q=D q:=λq hq=>by simp[updB,hq]
 have g:∀v q,q≠j->updV x j v q=x q:=λv q hq=>by simp[updV,hq]
 refine⟨?_,λ_=>⟨W.heap.size,by simp[updV],by simp⟩,?_⟩
 ·rw[f i hij,g _ i hij];exact λd=>by obtain⟨k,c,l⟩:=h.a d;exact⟨k,c,by rw[World.size_alloc];omega⟩
 ·rw[f i hij,g _ i hij];intro d _ b;obtain⟨k,c,l⟩:=h.a d;rw[c]at b;simp only[updV,if_true]at b;injection b with b;injection b with b;injection b with b;omega
theorem TwoG.start {i j:Nat} {D:Nat->Bool} {x:Nat->Value} {W:World} (hi:D i=false) (hj:D j=false):TwoG i j D x W:=
 ⟨λh=>absurd h (by rw[hi];simp),λh=>absurd h (by rw[hj];simp),λh=>absurd h (by rw[hi];simp)⟩
def MPred.ratO (x:FracA):MPred:=⟨λv w=>∃r,x.rat?=some r/\RatL (λ_=>True) .u32 w v r,λ_ _ _ hb ⟨r,e,h⟩=>⟨r,e,h.le hb⟩⟩
def FBox (W:World) (B:Nat) (v:Value) (x:FracA):Prop:=∃A c A' c',v= .agg #[.bool x.sn,.slice A x.gn.length c,.bool x.sd,.slice A' x.gd.length c']/\W.heap[B]? =some (.cells #[.bool x.sn,.slice A x.gn.length c,.bool x.sd,.slice A' x.gd.length c'] 76)/\IsFracA (λ_=>True) W v x
end Go.Proofs.YtabfaobakmjiaaaGreat

/- A block of the call's own that stays as it is; cells of one-cell blocks; owned rows that read. qAZ lists: a list whose first elements have been turned. make .. -/
import Derived.Test.YtbcbcdgbliheoaaGreatPk03
namespace Go.Proofs.YtbcbcdgbliheoaaGreat
set_option maxRecDepth 100000
set_option maxHeartbeats 1000000
open Go.RowKit
set_option linter.unusedVariables false
theorem qAH {W:World} {B:Nat} {v:Value} {t:TypeId} (h:W.heap[B]? =some (.cells #[v] t)):W.cell? ⟨B,0,none⟩=some v:=cell_of_row W B 0 _ _ _ h
theorem qAK {W:World} {B:Nat} {cs:Array Value} {t:TypeId} (h:W.heap[B]? =some (.cells cs t)) (i:Nat):W.frozen? ⟨B,i,none⟩=false:=by simp[World.frozen?,h]
theorem qAk (w:World) (a:Obj):(w.alloc a).heap[w.heap.size]? =some a:=by unfold World.alloc;exact Array.getElem?_push_size
structure Box (w:World) (B:Nat) (a:Obj) (w1:World):Prop where
 below:Below w.heap.size w w1
 block:w1.heap[B]? =some a
theorem Box.lt {w:World} {B:Nat} {a:Obj} {w1:World} (h:Box w B a w1):B<w1.heap.size:=(gsl h.block)
theorem Box.size {w:World} {B:Nat} {a:Obj} {w1:World} (h:Box w B a w1):w.heap.size<=w1.heap.size:=h.below.size
theorem Box.start (w:World) (a:Obj):Box w w.heap.size a (w.alloc a):=⟨alc1 _ _,qAk _ _⟩
theorem Box.next {w:World} {B:Nat} {a:Obj} {w1 w2:World} (h:Box w B a w1) (k:Below w1.heap.size w1 w2):Box w B a w2:=
 ⟨h.below.trans (k.mono h.size),(k.block _ h.lt).trans h.block⟩
theorem Box.nextB {w:World} {B:Nat} {a:Obj} {w1 w2:World} (h:Box w B a w1) {n:Nat} (k:Below n w1 w2) (hB:B<n) (hn:w.heap.size<=n):Box w B a w2:=
 ⟨h.below.trans (k.mono hn),(k.block _ hB).trans h.block⟩
theorem Box.drewN {w:World} {B:Nat} {a:Obj} {w1:World} (h:Box w B a w1) (n:Nat):Box w B a (w1.drewN n):=⟨qAF h.below n,h.block⟩
theorem Below.of_drewN (w:World) (n:Nat):Below w.heap.size w (w.drewN n):=qAF (Below.refl _ _) n
theorem qCR {w:World} {base:Nat} {e:TypeId} {v:Value} {n:Nat} {xs:List Int} (h:w.ownsRow base e 1 v n (xs.map vint)):Ints w v xs:=Arr.of_own h
theorem Ints.cells {w:World} {v:Value} {L:List Int} (h:Ints w v L) (h0:0<L.length):
  ∃la lo c,v= .slice (some ⟨la,lo,none⟩) L.length c/\la<w.heap.size/\L.length<=c/\c<=maxLen/\∀k (hk:k<L.length),w.cell? ⟨la,lo+k,none⟩=some (.int .i64 L[k]):=by
 obtain⟨A,c,rfl,b,d,_,i⟩:=h;obtain⟨la,lo,rfl,f,g⟩:=i h0;exact⟨la,lo,c,rfl,f,b,d,g⟩
set_option linter.unusedSimpArgs false
def part (f:Int->Int) (L:List Int) (k:Nat):List Int:=(L.take k).map f++L.drop k
theorem qLU {w:World} {base:Nat} {e:TypeId} {size:Nat} {v:Value} {n:Nat} {xs:List Value} (h:w.ownsRow base e size v n xs) (k:Nat):(w.drewN k).ownsRow base e size v n xs:=h
theorem qEl {w:World} {base:Nat} {e:TypeId} {g c n:Nat} {L:List Int} (h:w.ownsRow base e 1 (.slice (some ⟨g,0,none⟩) n c) n (L.map vint)) (hn:L.length=n) {k:Nat} {x:Int} (hk:L[k]? =some x):w.cell? ⟨g,k,none⟩=some (.int .i64 x):=by
 have b:k<L.length:=(List.getElem?_eq_some_iff.1 hk).1;rw[h.cellAt k (by omega)];simp[hk]
theorem qHT {w:World} {base:Nat} {e:TypeId} {g c n:Nat} {L:List Int} (h:w.ownsRow base e 1 (.slice (some ⟨g,0,none⟩) n c) n (L.map vint)) (k:Nat) (y:Int):
  (w.setCell ⟨g,k,none⟩ (.int .i64 y)).ownsRow base e 1 (.slice (some ⟨g,0,none⟩) n c) n ((L.set k y).map vint):=by
 have b:=(h.stored k (.int .i64 y)).1;rw[List.map_set];exact b
theorem qLV {w:World} {base:Nat} {e:TypeId} {size:Nat} {v:Value} {n:Nat} {xs:List Value} (h:w.ownsRow base e size v n xs) {B k:Nat} (hB:B<base) (u:Value):(w.setCell ⟨B,k,none⟩ u).ownsRow base e size v n xs:=by
 refine⟨h.1,?_⟩
 rcases h.2 with h'| ⟨g,cap,cur,hv',hbg,hh,r⟩
 ·exact Or.inl h'
 ·exact Or.inr ⟨g,cap,cur,hv',hbg,(Below.heap_setCell _ _ _ _ (by show g≠B;omega)).trans hh,r⟩
def qAh (n:Nat):List Int:=List.replicate n 0
theorem qII (n:Nat):(qAh n).length =n:=by simp[qAh]
theorem qI8 {P:Program} (w:World) {ops:Array Oper} {rest:List Oper} {o:Oper} {a:Act} {Q:Exit->Act->World->Prop}
  (hg:o.guard=none) (l c:Operand) (t:TypeId) (hop:o.op=Op.makeSlice t l c) (base:Nat) (e:TypeId) (hE:qAd P t e (.int .i64 0) 8)
  (n:Nat) (hl:a.eval l= .int .i64 (n:Int)) (hc:a.eval c= .int .i64 (n:Int)) (hn:n<=1000000000) (b4:base<=w.heap.size)
  (hK:∀w',w'.ownsRow base e 1 (.slice (some ⟨w.heap.size,0,none⟩) n n) n ((qAh n).map vint)->Below w.heap.size w w'->w.heap.size<w'.heap.size->wpList P ops Q rest (a.put o.dst (.slice (some ⟨w.heap.size,0,none⟩) n n)) w'):
  wpList P ops Q (o::rest) a w:=by
 obtain⟨r,q,v⟩:=hE;obtain⟨i,d,s,f,b⟩:=info_parts q;refine wpList_make_full w hg l c t hop base e i (.int .i64 0) 1 r d s f .i64 .i64 _ _ n hl hc rfl rfl (by rw[b];omega) (by unfold maxLen;omega) b4 ?_;intro w' j p;refine hK w' ?_ ((Below.refl _ _).grown p (Nat.le_refl _) (by simp)) ((j.lt w.heap.size rfl).2)
 rcases j.2 with⟨h,_⟩| ⟨g,cap,cur,hv,hb,hh,hnc,hcm,hs,htake⟩
 ·simp at h
 ·refine⟨by simp[qAh],.inr ⟨g,cap,cur,hv,hb,hh,hnc,hcm,hs,?_⟩⟩;rw[htake];apply List.ext_getElem?;intro k;simp[qAh,madeCells,Value.cells,List.getElem?_replicate]
  by_cases m:k<n
  ·simp[m,Nat.mod_one]
  ·simp[m]
theorem qJ1 (v v':Value) (xs ys:List Int) (w:World) (hx:Ints w v xs) (hy:Ints w v' ys):
  Calls Tryz.prog 27 #[v,v'] w λe w'=>e= .returned (.bool (xs==ys))/\∃n,w'=w.drewN n:=by
 obtain⟨A,c,rfl,X,H,_,R⟩:=hx;obtain⟨A',c',rfl,Q,p,_,C⟩:=hy;unfold maxLen at H p;have O:=Lib.hid R;have P:=Lib.hid C;clear R C
 by_cases r:xs.length=ys.length
 ·have s:=hyd1 r;have M:((xs.length:Int) != (ys.length:Int))=false:=by simp[r]
  clear r;go_enter Tryz.func27,Tryz.ntmps27;go_wp2;go_loopw [5] (λi wr=>∃k:Nat,k<=xs.length/\i= .int .i64 k/\Hid (∃n,wr=w.drewN n)/\Hid (xs.take k=ys.take k)) (λi _=>xs.length - (intOf i).toNat)
  case atStart=>exact⟨0,Nat.zero_le _,rfl,⟨0,rfl⟩,rfl⟩
  case round=>
   obtain⟨k,hk,rfl,q,f⟩:=hrel;obtain⟨Z,N⟩:=q.out;subst N
   by_cases t:k<xs.length
   ·have d:k<ys.length:=by have:=s.out;omega
    obtain⟨S,F,rfl,U,m⟩:=O.out (by omega);obtain⟨T,G,rfl,V,o⟩:=P.out (by omega);have J:w.cell? ⟨S,F+k,none⟩=some (.int .i64 xs[k]):=m k t;have L:w.cell? ⟨T,G+k,none⟩=some (.int .i64 ys[k]):=o k d;have D:xs.take (k+1)=xs.take k++[xs[k]]:=by rw[List.take_add_one,List.getElem?_eq_getElem t];rfl
    have E:ys.take (k+1)=ys.take k++[ys[k]]:=by rw[List.take_add_one,List.getElem?_eq_getElem d];rfl
    have⟨g,j⟩:=hyd2 D E;generalize hxk:xs[k]=x at J g;generalize hyk:ys[k]=y at L j;have i1:(0:Int)<=(k:Int):=by omega
    have i2:(k:Int)<(xs.length:Int):=by omega
    have i3:(k:Int)<(ys.length:Int):=by omega
    clear m o D E q
    by_cases b:x=y
    ·subst b;have Y:(x != x)=false:=by simp
     clear hxk hyk;go_wp2;go_quiet (fail);go_wp2;go_roundw
     case rel=>exact⟨k+1,by omega,by go_num,⟨_,rfl⟩,by rw[g.out,j.out,f.out];exact rfl⟩
     case measure=>simp[intOf];omega
    ·have Y:(x != y)=true:=by simpa using b
     have z:(xs==ys)=false:=by
      rw[beq_eq_false_iff_ne];intro l;subst l;exact b (hxk.symm.trans hyk)
     have B:=hyd1 z;clear hxk hyk z b;go_wp2;go_quiet (fail);go_wp2;go_ret;exact⟨qAo (by rw[B.out]),⟨_,World.drewN_drewN _ _ _⟩⟩
   ·have l:(xs==ys)=true:=by
     rw[beq_iff_eq];have h:=f.out
     rwa[List.take_of_length_le (by omega),List.take_of_length_le (by have:=s.out;omega)]at h
    have I:=hyd1 l;clear l;go_wp2;go_ret;exact⟨qAo (by rw[I.out]),⟨Z,rfl⟩⟩
 ·have M:((xs.length:Int) != (ys.length:Int))=true:=by simp;omega
  have l:(xs==ys)=false:=by
   rw[beq_eq_false_iff_ne];intro h;exact r (by rw[h])
  rw[l];clear l r;go_enter Tryz.func27,Tryz.ntmps27;go_wp2;go_ret;exact⟨rfl,⟨0,rfl⟩⟩
theorem qKT (v v':Value) (xs ys:List Int) (w:World) (hx:Ints w v xs) (hy:Ints w v' ys):
  Calls Tryz.prog 10 #[v,v'] w λe w'=>e= .returned (.bool (xs==ys))/\∃n,w'=w.drewN n:=by
 have⟨b,c⟩:=hyd2 hx hy;clear hy hx;go_enter Tryz.func10,Tryz.ntmps10;go_wp2_with (first | (go_at_call 27;((with_reducible refine(qJ1 _ _ xs ys _ b.out c.out).mono ?_);rintro e w' ⟨rfl,n,rfl⟩)));go_ret;exact⟨rfl,n,rfl⟩
end Go.Proofs.YtbcbcdgbliheoaaGreat

/- Slices that read as lists, in blocks of a kind: what lies elsewhere may change; numbers and fractions in memory. exact: numbers of 0 or more: trimmed, one. .. -/
import Derived.Test.YtenjpccpldajoaaGreatDoorPk04
namespace Go.Proofs.YtenjpccpldajoaaGreatDoor
set_option maxRecDepth 100000
set_option maxHeartbeats 2000000
open Go.RowKit
set_option linter.unusedVariables false
def gv (k:IntKind) (g:Nat):Value:= .int k (g:Int)
def ArrL {α:Type} (L:Nat→Prop) (f:α→Value) (w:World) (v:Value) (xs:List α):Prop:=
 ∃A c,v= .slice A xs.length c∧xs.length≤c∧c≤maxLen∧(A=none→c=0)∧
  (0<xs.length→∃b off,A=some ⟨b,off,none⟩∧L b∧b<w.heap.size∧∀j (h:j<xs.length),w.cell? ⟨b,off+j,none⟩=some (f xs[j]))
def Up (w:World) (L:Nat→Prop):Prop:=∀b,w.heap.size≤b→L b
theorem Up.later {w W:World} {L:Nat→Prop} (h:Up w L) (hs:w.heap.size≤W.heap.size):Up W L:=fun b hb=>h b (Nat.le_trans hs hb)
theorem Up.le {w W:World} {L:Nat→Prop} (h:Up w L) (hs:Le w W):Up W L:=h.later hs.size
theorem Up.any (w:World):Up w (fun _=>True):=fun _ _=>trivial
def qOS (L:Nat→Prop) (w W:World):Prop:=w.heap.size≤W.heap.size∧∀b,L b→b<w.heap.size→W.heap[b]? =w.heap[b]?
theorem Le.stays {w W:World} (h:Le w W) (L:Nat→Prop):qOS L w W:=⟨h.size,fun b _ hb=>h.block b hb⟩
section
variable {α:Type} {f:α→Value} {L:Nat→Prop}
theorem ArrL.arr {w:World} {v:Value} {xs:List α} (h:ArrL L f w v xs):Arr f w v xs:=by
 obtain⟨A,c,hv,h1,h2,hN,h3⟩:=h;refine⟨A,c,hv,h1,h2,hN,fun h0=>?_⟩;obtain⟨b,off,ha,hL,hlt,hc⟩:=h3 h0;exact⟨b,off,ha,hlt,hc⟩
theorem ArrL.stays {w W:World} {v:Value} {xs:List α} (h:ArrL L f w v xs) (hb:qOS L w W):ArrL L f W v xs:=by
 obtain⟨A,c,hv,h1,h2,hN,h3⟩:=h;refine⟨A,c,hv,h1,h2,hN,fun h0=>?_⟩;obtain⟨b,off,ha,hL,hlt,hc⟩:=h3 h0;exact⟨b,off,ha,hL,Nat.lt_of_lt_of_le hlt hb.1,fun j hj=>(World.cell?_of_block (hb.2 b hL hlt)).trans (hc j hj)⟩
theorem ArrL.le {w W:World} {v:Value} {xs:List α} (h:ArrL L f w v xs) (hb:Le w W):ArrL L f W v xs:=h.stays (hb.stays L)
theorem ArrL.mono {L':Nat→Prop} {w:World} {v:Value} {xs:List α} (h:ArrL L f w v xs) (hL:∀b,L b→L' b):ArrL L' f w v xs:=by
 obtain⟨A,c,hv,h1,h2,hN,h3⟩:=h;refine⟨A,c,hv,h1,h2,hN,fun h0=>?_⟩;obtain⟨b,off,ha,hb,r⟩:=h3 h0;exact⟨b,off,ha,hL b hb,r⟩
theorem ArrL.of_arr {w:World} {v:Value} {xs:List α} (h:Arr f w v xs) (hL:∀b,b<w.heap.size→L b):ArrL L f w v xs:=by
 obtain⟨A,c,hv,h1,h2,hN,h3⟩:=h;refine⟨A,c,hv,h1,h2,hN,fun h0=>?_⟩;obtain⟨b,off,ha,hlt,hc⟩:=h3 h0;exact⟨b,off,ha,hL b hlt,hlt,hc⟩
theorem ArrL.nil (f:α→Value) (L:Nat→Prop) (w:World):ArrL L f w (.slice none 0 0) []:=
 ⟨none,0,rfl,Nat.le_refl _,Nat.zero_le _,fun _=>rfl,fun h=>absurd h (by simp)⟩
theorem ArrL.of_own {w:World} {base:Nat} {e:TypeId} {v:Value} {n:Nat} {xs:List α} (h:w.ownsRow base e 1 v n (xs.map f)) (hL:∀b,base≤b→L b):ArrL L f w v xs:=by
 obtain⟨h1,h2⟩:=h;have hn:n=xs.length:=by simpa using h1.symm
 subst hn
 rcases h2 with⟨rfl,h0⟩| ⟨g,cap,cur,rfl,hbg,hg,hnc,hcm,hsz,htake⟩
 ·have:xs=[]:=List.eq_nil_of_length_eq_zero h0;subst this;exact ArrL.nil f L w
 ·refine⟨_,cap,rfl,hnc,hcm,fun h=>by simp at h,fun _=>⟨g,0,rfl,hL g hbg,(gsl hg),fun j hj=>?_⟩⟩;rw[Nat.zero_add,cell_of_row w g j cur e (0,0) hg];have h3:(cur.toList.take (xs.length*1))[j]? =some (f xs[j]):=by rw[htake];simp[hj]
  rw[List.getElem?_take,if_pos (by omega)]at h3;simpa using h3
theorem ArrL.len {w:World} {a:Option Addr} {n c:Nat} {xs:List α} (h:ArrL L f w (.slice a n c) xs):n=xs.length:=by
 obtain⟨A,c',hv,_⟩:=h;injection hv
theorem ArrL.take {w:World} {A:Option Addr} {c:Nat} {xs:List α} (h:ArrL L f w (.slice A xs.length c) xs) (n:Nat) (hn:n≤xs.length):ArrL L f w (.slice A n c) (xs.take n):=by
 obtain⟨A',c',hv,h1,h2,hN,h3⟩:=h;injection hv with e1 e2 e3;subst e1 e3;have hl:(xs.take n).length =n:=by simp;omega
 refine⟨A,c,by rw[hl],by omega,h2,hN,fun h0=>?_⟩;rw[hl]at h0;obtain⟨b,off,ha,hb,hlt,hc⟩:=h3 (by omega);exact⟨b,off,ha,hb,hlt,fun j hj=>by rw[hc j (by omega),List.getElem_take]⟩
end
def NumL (L:Nat→Prop) (k:IntKind) (w:World) (v:Value) (n:Nat):Prop:=ArrL L (gv k) w v (dg n)
def RatL (L:Nat→Prop) (k:IntKind) (w:World) (v:Value) (r:Rat):Prop:=
 ∃vn vd,v= .agg #[.bool (rneg r),vn,vd]∧NumL L k w vn (rnum r)∧NumL L k w vd r.den
theorem NumL.le {L:Nat→Prop} {k:IntKind} {w W:World} {v:Value} {n:Nat} (h:NumL L k w v n) (hb:Le w W):NumL L k W v n:=ArrL.le h hb
theorem RatL.le {L:Nat→Prop} {k:IntKind} {w W:World} {v:Value} {r:Rat} (h:RatL L k w v r) (hb:Le w W):RatL L k W v r:=by
 obtain⟨vn,vd,rfl,h1,h2⟩:=h;exact⟨vn,vd,rfl,h1.le hb,h2.le hb⟩
def MPred.num (L:Nat→Prop) (k:IntKind) (n:Nat):MPred:=⟨fun v w=>NumL L k w v n,fun _ _ _ hb h=>h.le hb⟩
def MPred.rat (L:Nat→Prop) (k:IntKind) (r:Rat):MPred:=⟨fun v w=>RatL L k w v r,fun _ _ _ hb h=>h.le hb⟩
theorem NumL.slice {L:Nat→Prop} {k:IntKind} {w:World} {v:Value} {n:Nat} (h:NumL L k w v n):∃A c,v= .slice A (dg n).length c:=by
 obtain⟨A,c,rfl,_⟩:=h;exact⟨A,c,rfl⟩
end Go.Proofs.YtenjpccpldajoaaGreatDoor
namespace Go.Proofs.YtenjpccpldajoaaGreatDoor
set_option maxRecDepth 100000
set_option maxHeartbeats 2000000
open Go.RowKit
set_option linter.unusedVariables false
set_option linter.unusedSimpArgs false
def qC3:Value→Nat
 | .slice _ n _=>n
 | _=>0
theorem qHN {l:List Nat} {m:Nat} (hm:m<l.length) (h:l[m]=0):qA5 (l.take (m+1))=qA5 (l.take m):=by
 rw[List.take_succ_eq_append_getElem hm,h,qC2]
theorem qHx {l:List Nat} {m:Nat} (hm:m<l.length) (h:l[m]≠0):qA5 (l.take (m+1))=l.take (m+1):=by
 rw[List.take_succ_eq_append_getElem hm,qEG h]
theorem qFg (l:List Nat):qA5 l=l.take (qA5 l).length :=by
 refine qG5 (P:=fun l=>qA5 l=l.take (qA5 l).length) (by simp[qA5]) (fun l g ih=>?_) l
 by_cases h:g=0
 ·subst h;rw[qC2]
  have hle:(qA5 l).length ≤l.length:=by
   have:=congrArg List.length ih;simp at this;omega
  rw[List.take_append_of_le_length hle];exact ih
 ·rw[qEG h,List.take_of_length_le (Nat.le_refl _)]
theorem qJP (l:List Nat):(qA5 l).length ≤l.length:=by
 have:=congrArg List.length (qFg l);simp at this;omega
theorem ArrL.trim {L:Nat→Prop} {f:Nat→Value} {w:World} {A:Option Addr} {c:Nat} {l:List Nat} (h:ArrL L f w (.slice A l.length c) l):ArrL L f w (.slice A (qA5 l).length c) (qA5 l):=by
 have h2:=h.take (qA5 l).length (qJP l);rw[←qFg]at h2;exact h2
theorem qDk (L:Nat→Prop) (l:List Nat) (A:Option Addr) (n c:Nat) (w:World) (hv:ArrL L (gv .u32) w (.slice A n c) l):
  Calls Tryz.prog 111 #[.slice A n c] w fun e w'=>e= .returned (.slice A (qA5 l).length c)∧w=w':=by
 obtain⟨A,c,hv,h1,h2,hN,h3⟩:=hv;injection hv with e1 e2 e3;subst e1 e2 e3;unfold maxLen at h2;have⟨hN',h3'⟩:=hyd2 hN h3;clear h3 hN;go_enter Tryz.func111,Tryz.ntmps111;go_wp2
 go_loop [0] (fun s=>∃m:Nat,m≤l.length∧s= .slice A m c∧Hid (qA5 (l.take m)=qA5 l)) (fun s=>qC3 s)
 case atStart=>exact⟨l.length,Nat.le_refl _,rfl,Lib.hid (by rw[List.take_length])⟩
 case round=>
  obtain⟨m,hm,rfl,ht⟩:=hrel
  by_cases h0:m=0
  ·subst h0;go_wp2;go_ret;rw[←ht.out];exact⟨by simp[qA5],rfl⟩
  ·obtain⟨k,rfl⟩:∃k,m=k+1:=⟨m - 1,by omega⟩;obtain⟨b,off,rfl,hL,hlt,hc⟩:=h3'.out (by omega);have hck:=hc k (by omega);unfold gv at hck;clear hc
   by_cases hz:l[k]=0
   ·rw[hz]at hck;have ht2:Hid (qA5 (l.take k)=qA5 l):=Lib.hid (by rw[←ht.out,qHN (by omega) hz]);have hz':=hyd1 hz;clear hz;clear ht h0;go_wp2
    go_round
    case rel=>exact⟨k,by omega,by go_num,ht2⟩
    case measure=>simp[qC3]
   ·have hz2:((l[k]:Int)==0)=false:=by simp;omega
    have ht2:Hid (l.take (k+1)=qA5 l):=Lib.hid (by rw[←ht.out,qHx (by omega) hz]);generalize l[k]=g at*;clear ht h0;go_wp2;go_ret;rw[←ht2.out];exact⟨by simp;omega,rfl⟩
theorem qDX (L:Nat→Prop) (l:List Nat) (v:Value) (w:World) (hv:ArrL L (gv .u32) w v l):
  Calls Tryz.prog 111 #[v] w fun e w'=>∃v',e= .returned v'∧w=w'∧ArrL L (gv .u32) w v' (qA5 l):=by
 obtain⟨A,c,rfl,r⟩:=hv;have hv:ArrL L (gv .u32) w (.slice A l.length c) l:=⟨A,c,rfl,r⟩;exact(qDk L l A l.length c w hv).mono fun e w' ⟨h1,h2⟩=>⟨_,h1,h2,hv.trim⟩
theorem qHO (L:Nat→Prop) (n:Nat) (v:Value) (w:World) (hv:NumL L .u32 w v n):
  Calls Tryz.prog 102 #[v] w fun e w'=>e= .returned (.bool (decide (n=1)))∧w=w':=by
 obtain⟨A,c,rfl,h1,h2,hN,h3⟩:=hv;unfold maxLen at h2
 by_cases hl:(dg n).length =1
 ·have hn:nv (dg n)=n:=qAl n;obtain⟨g,hg⟩:∃g,dg n=[g]:=List.length_eq_one_iff.1 hl;have hgn:g=n:=by rw[hg]at hn;simpa[nv]using hn
  obtain⟨b,off,rfl,hL,hlt,hc⟩:=h3 (by omega);have hc0:=hc 0 (by omega);simp only[hg,List.getElem_cons_zero,Nat.add_zero]at hc0;unfold gv at hc0;have e:decide (n=1)=((g:Int)==1):=by rw[hgn];rw[Bool.eq_iff_iff];simp;omega
  rw[e,hl];clear hc e hgn hn h1 h3 hl hN;go_enter Tryz.func102,Tryz.ntmps102;go_wp2;go_ret;exact⟨rfl,rfl⟩
 ·have hn1:decide (n=1)=false:=by
   rw[decide_eq_false_iff_not];rintro rfl;rw[qCV]at hl;exact hl rfl
  have hl2:(((dg n).length :Int)==1)=false:=by simp;omega
  rw[hn1];clear h1 hN h3 hn1 hl;generalize (dg n).length =m at*;go_enter Tryz.func102,Tryz.ntmps102;go_wp2;go_ret;exact⟨rfl,rfl⟩
theorem qAf:qDP Tryz.prog 68 92 (.int .u32 0) 4:=⟨Tryz.underlying68,by kernel_rfl,rfl⟩
theorem qCB (k:IntKind) (w:World) (e:TypeId) (g:Nat):Arr (gv k) (w.alloc (.cells #[.int k g] e)) (.slice (some ⟨w.heap.size,0,none⟩) 1 1) [g]:=
 ⟨_,1,rfl,Nat.le_refl _,by unfold maxLen;omega,fun h=>by simp at h,fun _=>⟨w.heap.size,0,rfl,by simp,fun j hj=>by
  obtain rfl:j=0:=by simp at hj;omega
  rw[Nat.zero_add,cell_of_row _ _ 0 _ _ _ (heap_alloc_new _ _)]
  rfl⟩⟩
theorem qAm {P:Program} {w:World} {ops:Array Oper} {rest:List Oper} {o:Oper} {a:Act} {Q:Exit→Act→World→Prop} (hgd:o.guard=none) (s x:Operand) (t:TypeId)
  (ho:o.op= .call {callee:= .builtin .append,args:=#[s,x],argTypes:=#[t,t]})
  (base:Nat) (e:TypeId) (k:IntKind) (bytes:Nat) (hE:qDP P t e (.int k 0) bytes) (hby:bytes≤8)
  (v:Value) (xs:List Nat) (hs:a.eval s=v) (hown:w.ownsRow base e 1 v xs.length (xs.map (gv k)))
  (sv:Value) (ys:List Nat) (hx:a.eval x=sv) (hsrc:Arr (gv k) w sv ys)
  (hlen:xs.length+ys.length≤1000000000) (hbase:base≤w.heap.size)
  (h:∀v' w',w'.ownsRow base e 1 v' (xs++ys).length ((xs++ys).map (gv k))→Below base w w'→w.grownBy w' v.ownBlock→(v'.ownBlock=none↔v.ownBlock=none∧ys=[])→wpList P ops Q rest (a.put o.dst v') w'):wpList P ops Q (o::rest) a w:=by
 have hmul:(xs.length+ys.length)*bytes≤1000000000*8:=Nat.mul_le_mul hlen hby
 exact qLA hgd s x t ho base e _ bytes hE v xs hs hown sv ys hx hsrc (fun _=>rfl) (by omega) (by omega) hbase fun v' w' h2 h3 h4=>h v' w' h2 ((Below.refl _ _).grown h3 hbase fun k hk=>(hown.lt k hk).1) h3 h4
theorem qBw (n:Nat) (w:World) (hn:(n:Int)≤18446744073709551615):
  Calls Tryz.prog 68 #[.int .u64 n] w fun e w'=>∃v',e= .returned v'∧Below w.heap.size w w'∧w'.ownsRow w.heap.size 92 1 v' (dg n).length ((dg n).map (gv .u32)):=by
 have hl:(dg n).length ≤3:=qAb (by
  have h1:B9^3=1000000000000000000000000000:=by rw[qAO]
  omega)
 have hl':=hyd1 hl;clear hl;go_enter Tryz.func68,Tryz.ntmps68;go_wp2;go_loopw [0,3] (fun i s wr=>∃(m:Nat) (pre:List Nat),i= .int .u64 m∧(m:Int)≤18446744073709551615∧pre.length≤1000∧Hid (dg n=pre++dg m)∧Hid (Below w.heap.size w wr)∧Hid (wr.ownsRow w.heap.size 92 1 s pre.length (pre.map (gv .u32)))) (fun i _ _=>(intOf i).toNat)
 case atStart=>exact⟨n,[],rfl,hn,by simp,Lib.hid (by simp),Lib.hid (Below.refl _ _),Lib.hid (World.ownsRow_nil _ _ _ _)⟩
 case round=>
  obtain⟨m,pre,rfl,hm,hp,hd,hb,hown⟩:=hrel
  by_cases h0:m=0
  ·subst h0;go_wp2;go_ret;rw[hd.out,qA4,List.append_nil];exact⟨_,rfl,hb.out,hown.out⟩
  ·have hB:=qAO;obtain⟨g,hg⟩:∃g:Nat,(m:Int)%1000000000=g:=⟨m%1000000000,by omega⟩;obtain⟨q,hq⟩:∃q:Nat,(m:Int) / 1000000000=q:=⟨m / 1000000000,by omega⟩;have hg2:g<1000000000:=by omega
   have hd2:Hid (dg n=(pre++[g])++dg q):=Lib.hid (by
    rw[hd.out,qDR h0,hB,show m%1000000000=g by omega,show m / 1000000000=q by omega];simp)
   have hp2:pre.length+1≤1000:=by
    have h1:=congrArg List.length hd2.out;have h2:=hl'.out;simp at h1;omega
   have hql:q<m:=by omega
   have hz:w.heap.size≤wr.heap.size:=hb.out.size;have⟨hB',hql'⟩:=hyd2 hB hql;clear hql hB;go_wp2_with (at_builtin;go_must (refine qAm rfl (.tmp 8) (.tmp 12) 68 rfl w.heap.size 92 .u32 4 qAf (by decide) _ pre rfl (hown.out.alloc _) _ [g] rfl (qCB _ _ _ _) (by simp;omega) (by simp;omega) ?_);intro v' w' r1 r2 r3 r4);have hb2:Hid (Below w.heap.size w w'):=Lib.hid ((hb.out.alloc (by omega) _).trans r2);have⟨r1',r2',r3',r4'⟩:=hyd4 r1 r2 r3 r4;clear r4 r3 r2 r1;clear hb;go_wp2;go_roundw
   case rel=>exact⟨q,pre++[g],rfl,by have:=hql'.out;omega,by simp;omega,hd2,hb2,r1'⟩
   case measure=>simp[intOf];have:=hql'.out;omega
theorem qCi {P:Program} (w:World) {ops:Array Oper} {rest:List Oper} {o:Oper} {a:Act} {Q:Exit→Act→World→Prop}
  (hg:o.guard=none) (l c:Operand) (t:TypeId) (hop:o.op=Op.makeSlice t l c) (base:Nat) (e:TypeId) (z:Value) (bytes:Nat) (hE:qDP P t e z bytes) (hby:bytes≤8)
  (C:Int) (n:Nat) (hl:a.eval l= .int .i64 0) (hc:a.eval c= .int .i64 C) (hC:C=(n:Int)) (hn:n≤1000000000) (b4:base≤w.heap.size)
  (hK:∀w',w'.ownsRow base e 1 (.slice (some ⟨w.heap.size,0,none⟩) 0 n) 0 []→Below w.heap.size w w'→wpList P ops Q rest (a.put o.dst (.slice (some ⟨w.heap.size,0,none⟩) 0 n)) w'):
  wpList P ops Q (o::rest) a w:=by
 obtain⟨ht,hi,hzs⟩:=hE;obtain⟨i,hi0,hz,hsz,hby'⟩:=info_parts hi;refine wpList_make_own w hg l c t hop base e i z 1 ht hi0 hz hsz .i64 .i64 C n hl hc hC (by rw[hby'];exact Nat.le_trans (Nat.mul_le_mul hby hn) (by decide)) (by unfold maxLen;omega) b4 ?_;intro w' h1 h2;exact hK w' h1 ((Below.refl _ _).grown h2 (Nat.le_refl _) (by simp))
theorem qBZ {l:List Nat} {i:Nat} (h:i<l.length):l.getD i 0=l[i]:=by simp[h]
theorem qDY {l:List Nat} {i:Nat} (h:l.length≤i):l.getD i 0=0:=by simp[h]
theorem qBd {L:Nat→Prop} {k:IntKind} {w:World} {v:Value} {l:List Nat} {n:Nat} (h:ArrL L (gv k) w v (qA5 l)) (hl:Low l) (hn:nv l=n):NumL L k w v n:=by
 unfold NumL;rw[←hn,←qJC hl];exact h
theorem qLO (L:Nat→Prop) (a b:Nat) (va vb:Value) (w:World) (hL:Up w L) (ha:NumL L .u32 w va a) (hb:NumL L .u32 w vb b) (hlen:(dg a).length <(dg b).length) (hm:(dg b).length ≤100000000):
  Calls Tryz.prog 66 #[va,vb] w fun e w'=>∃v',e= .returned v'∧Le w w'∧NumL L .u32 w' v' (a+b):=by
 obtain⟨Aa,ca,rfl,a1,a2,aN,a3⟩:=ha;obtain⟨Ab,cb,rfl,b1,b2,bN,b3⟩:=hb;unfold maxLen at a2 b2;have hB:=qAO;have hlen2:(dg a).length ≤(dg b).length :=by omega
 have hcond:((dg a).length <(dg b).length)∨¬((dg a).length <(dg b).length):=by omega
 clear hcond;have lx:=qAq b;have ly:=qAq a;have hsum:nv (dg b)+nv (dg a)=a+b:=by have h1:=qAl a;have h2:=qAl b;omega
 have⟨hL',a3',b3',aN',bN',hB',lx',ly'⟩:=hyd8 hL a3 b3 aN bN hB lx ly;have hsum':=hyd1 hsum;clear hsum ly lx hB bN aN b3 a3 hL;go_enter Tryz.func66,Tryz.ntmps66;go_wp2_with (at_make;go_must (refine qCi _ rfl _ _ 68 rfl w.heap.size 92 (.int .u32 0) 4 qAf (by decide) _ ((dg b).length +1) rfl rfl (by simp) (by omega) (Nat.le_refl _) ?_);intro w1 r1 r2);have⟨r1',r2'⟩:=hyd2 r1 r2;clear r2 r1;go_loopw [5,6,22] (fun s cy i wr=>∃(k c:Nat) (pre:List Nat),k≤(dg b).length ∧i= .int .i64 k∧cy= .int .u32 c∧c≤1∧Hid (Adding (dg b) (dg a) k c pre)∧Hid (Below w.heap.size w wr)∧Hid (wr.ownsRow w.heap.size 92 1 s pre.length (pre.map (gv .u32)))) (fun _ _ i _=>(dg b).length - (intOf i).toNat)
 case atStart=>exact⟨0,0,[],Nat.zero_le _,rfl,rfl,by omega,Lib.hid (Adding.start _ _),r2',r1'⟩
 case round=>
  obtain⟨k,c,pre,hk,rfl,rfl,hc1,hA,hbl,hown⟩:=hrel;have hz:w.heap.size≤wr.heap.size:=hbl.out.size;have hpl:pre.length=k:=hA.out.len
  by_cases hlt:k<(dg b).length
  ·obtain⟨bx,ox,rfl,-,hbx,hcx⟩:=b3'.out (by omega);have hckx:=(hbl.out.cell (p:=⟨bx,ox+k,none⟩) hbx).trans (hcx k hlt);unfold gv at hckx;clear hcx;obtain⟨g,hg⟩:∃g,(dg b)[k]=g:=⟨_,rfl⟩;have hgD:(dg b).getD k 0=g:=by rw[qBZ hlt,hg]
   have hgB:g<1000000000:=by rw[←hg,←hB'.out];exact qBQ _ _ _
   rw[hg]at hckx;obtain⟨h,hhD⟩:∃h,(dg a).getD k 0=h:=⟨_,rfl⟩;have hhB:h<1000000000:=by rw[←hhD,←hB'.out];exact qCZ (qAq _) _
   obtain⟨hA2,hd2⟩:=hA.out.next lx'.out ly'.out (g+c+h) (by rw[hgD,hhD]);rw[hB'.out]at hA2;obtain⟨q,hq⟩:∃q:Nat,(g+c+h) / 1000000000=q:=⟨_,rfl⟩;obtain⟨r,hr⟩:∃r:Nat,(g+c+h)%1000000000=r:=⟨_,rfl⟩;rw[hq,hr]at hA2;have hq1:q≤1:=hA2.bound;have hr1:r<1000000000:=by omega
   have hpl2:pre.length+1≤200000000:=by omega
   have⟨hg',hgD',hd2',hA2',hpl2'⟩:=hyd5 hg hgD hd2 hA2 hpl2;clear hpl2 hA2 hd2 hgD hg
   by_cases hlt2:k<(dg a).length
   ·obtain⟨b2,o2,rfl,-,hb2,hcy⟩:=a3'.out (by omega);have hcky:=(hbl.out.cell (p:=⟨b2,o2+k,none⟩) hb2).trans (hcy k hlt2);unfold gv at hcky;rw[←qBZ hlt2,hhD]at hcky;have eq:((g:Int)+c+h) / 1000000000=q:=by omega
    have er:((g:Int)+c+h)%1000000000=r:=by omega
    have⟨hhD',hcy',hq',hr'⟩:=hyd4 hhD hcy hq hr;clear hr hq hcy hhD;go_wp2_with (at_builtin;go_must (refine qAm rfl (.tmp 42) (.tmp 45) 68 rfl w.heap.size 92 .u32 4 qAf (by decide) _ pre rfl (hown.out.alloc _) _ [r] rfl (qCB _ _ _ _) (by have:=hpl2'.out;simp;omega) (by simp;omega) ?_);intro v' w' r1 r2 r3 r4);have hbn:Hid (Below w.heap.size w w'):=Lib.hid ((hbl.out.alloc (by omega) _).trans r2);have⟨r1',r2',r3',r4'⟩:=hyd4 r1 r2 r3 r4;clear r4 r3 r2 r1;go_wp2;go_roundw
    case rel=>exact⟨k+1,q,pre++[r],by omega,by go_num,by go_num,hq1,hA2',hbn,r1'⟩
    case measure=>simp[intOf];omega
   ·obtain rfl:0=h:=by rw[←hhD,qDY (by omega)]
    have eq:((g:Int)+c) / 1000000000=q:=by omega
    have er:((g:Int)+c)%1000000000=r:=by omega
    have⟨hhD',hq',hr'⟩:=hyd3 hhD hq hr;clear hr hq hhD;go_wp2_with (at_builtin;go_must (refine qAm rfl (.tmp 42) (.tmp 45) 68 rfl w.heap.size 92 .u32 4 qAf (by decide) _ pre rfl (hown.out.alloc _) _ [r] rfl (qCB _ _ _ _) (by have:=hpl2'.out;simp;omega) (by simp;omega) ?_);intro v' w' r1 r2 r3 r4);have hbn:Hid (Below w.heap.size w w'):=Lib.hid ((hbl.out.alloc (by omega) _).trans r2);have⟨r1',r2',r3',r4'⟩:=hyd4 r1 r2 r3 r4;clear r4 r3 r2 r1;go_wp2;go_roundw
    case rel=>exact⟨k+1,q,pre++[r],by omega,by go_num,by go_num,hq1,hA2',hbn,r1'⟩
    case measure=>simp[intOf];omega
  ·obtain⟨hd1,hd2⟩:=hA.out.done (show(dg b).length ≤k by omega) (by omega);have hpl2:pre.length+1≤200000000:=by omega
   have⟨hd1',hd2'⟩:=hyd2 hd1 hd2;clear hd2 hd1;go_wp2_with (at_builtin;go_must (refine qAm rfl (.tmp 48) (.tmp 50) 68 rfl w.heap.size 92 .u32 4 qAf (by decide) _ pre rfl (hown.out.alloc _) _ [c] rfl (qCB _ _ _ _) (by simp;omega) (by simp;omega) ?_);intro v' w' r1 r2 r3 r4);have hbn:Below w.heap.size w w':=(hbl.out.alloc (by omega) _).trans r2;have hn:ArrL L (gv .u32) w' v' (pre++[c]):=ArrL.of_own r1 hL'.out;have⟨r1',r2',r3',r4'⟩:=hyd4 r1 r2 r3 r4;clear r4 r3 r2 r1;go_wp2_with (first | (go_at_call 111;((with_reducible refine(qDX L _ _ _ hn).mono ?_);rintro e w' ⟨v2,rfl,rfl,hv2⟩)));go_ret;exact⟨_,rfl,hbn,qBd hv2 hd2'.out (hd1'.out.trans hsum'.out)⟩
theorem qLP (L:Nat→Prop) (a b:Nat) (va vb:Value) (w:World) (hL:Up w L) (ha:NumL L .u32 w va a) (hb:NumL L .u32 w vb b) (hlen:(dg a).length ≥(dg b).length) (hm:(dg a).length ≤100000000):
  Calls Tryz.prog 66 #[va,vb] w fun e w'=>∃v',e= .returned v'∧Le w w'∧NumL L .u32 w' v' (a+b):=by
 obtain⟨Aa,ca,rfl,a1,a2,aN,a3⟩:=ha;obtain⟨Ab,cb,rfl,b1,b2,bN,b3⟩:=hb;unfold maxLen at a2 b2;have hB:=qAO;have hlen2:(dg b).length ≤(dg a).length :=by omega
 have hcond:((dg a).length <(dg b).length)∨¬((dg a).length <(dg b).length):=by omega
 clear hcond;have lx:=qAq a;have ly:=qAq b;have hsum:nv (dg a)+nv (dg b)=a+b:=by have h1:=qAl a;have h2:=qAl b;omega
 have⟨hL',a3',b3',aN',bN',hB',lx',ly'⟩:=hyd8 hL a3 b3 aN bN hB lx ly;have hsum':=hyd1 hsum;clear hsum ly lx hB bN aN b3 a3 hL;go_enter Tryz.func66,Tryz.ntmps66;go_wp2_with (at_make;go_must (refine qCi _ rfl _ _ 68 rfl w.heap.size 92 (.int .u32 0) 4 qAf (by decide) _ ((dg a).length +1) rfl rfl (by simp) (by omega) (Nat.le_refl _) ?_);intro w1 r1 r2);have⟨r1',r2'⟩:=hyd2 r1 r2;clear r2 r1;go_loopw [5,6,22] (fun s cy i wr=>∃(k c:Nat) (pre:List Nat),k≤(dg a).length ∧i= .int .i64 k∧cy= .int .u32 c∧c≤1∧Hid (Adding (dg a) (dg b) k c pre)∧Hid (Below w.heap.size w wr)∧Hid (wr.ownsRow w.heap.size 92 1 s pre.length (pre.map (gv .u32)))) (fun _ _ i _=>(dg a).length - (intOf i).toNat)
 case atStart=>exact⟨0,0,[],Nat.zero_le _,rfl,rfl,by omega,Lib.hid (Adding.start _ _),r2',r1'⟩
 case round=>
  obtain⟨k,c,pre,hk,rfl,rfl,hc1,hA,hbl,hown⟩:=hrel;have hz:w.heap.size≤wr.heap.size:=hbl.out.size;have hpl:pre.length=k:=hA.out.len
  by_cases hlt:k<(dg a).length
  ·obtain⟨bx,ox,rfl,-,hbx,hcx⟩:=a3'.out (by omega);have hckx:=(hbl.out.cell (p:=⟨bx,ox+k,none⟩) hbx).trans (hcx k hlt);unfold gv at hckx;clear hcx;obtain⟨g,hg⟩:∃g,(dg a)[k]=g:=⟨_,rfl⟩;have hgD:(dg a).getD k 0=g:=by rw[qBZ hlt,hg]
   have hgB:g<1000000000:=by rw[←hg,←hB'.out];exact qBQ _ _ _
   rw[hg]at hckx;obtain⟨h,hhD⟩:∃h,(dg b).getD k 0=h:=⟨_,rfl⟩;have hhB:h<1000000000:=by rw[←hhD,←hB'.out];exact qCZ (qAq _) _
   obtain⟨hA2,hd2⟩:=hA.out.next lx'.out ly'.out (g+c+h) (by rw[hgD,hhD]);rw[hB'.out]at hA2;obtain⟨q,hq⟩:∃q:Nat,(g+c+h) / 1000000000=q:=⟨_,rfl⟩;obtain⟨r,hr⟩:∃r:Nat,(g+c+h)%1000000000=r:=⟨_,rfl⟩;rw[hq,hr]at hA2;have hq1:q≤1:=hA2.bound;have hr1:r<1000000000:=by omega
   have hpl2:pre.length+1≤200000000:=by omega
   have⟨hg',hgD',hd2',hA2',hpl2'⟩:=hyd5 hg hgD hd2 hA2 hpl2;clear hpl2 hA2 hd2 hgD hg
   by_cases hlt2:k<(dg b).length
   ·obtain⟨b2,o2,rfl,-,hb2,hcy⟩:=b3'.out (by omega);have hcky:=(hbl.out.cell (p:=⟨b2,o2+k,none⟩) hb2).trans (hcy k hlt2);unfold gv at hcky;rw[←qBZ hlt2,hhD]at hcky;have eq:((g:Int)+c+h) / 1000000000=q:=by omega
    have er:((g:Int)+c+h)%1000000000=r:=by omega
    have⟨hhD',hcy',hq',hr'⟩:=hyd4 hhD hcy hq hr;clear hr hq hcy hhD;go_wp2_with (at_builtin;go_must (refine qAm rfl (.tmp 42) (.tmp 45) 68 rfl w.heap.size 92 .u32 4 qAf (by decide) _ pre rfl (hown.out.alloc _) _ [r] rfl (qCB _ _ _ _) (by have:=hpl2'.out;simp;omega) (by simp;omega) ?_);intro v' w' r1 r2 r3 r4);have hbn:Hid (Below w.heap.size w w'):=Lib.hid ((hbl.out.alloc (by omega) _).trans r2);have⟨r1',r2',r3',r4'⟩:=hyd4 r1 r2 r3 r4;clear r4 r3 r2 r1;go_wp2;go_roundw
    case rel=>exact⟨k+1,q,pre++[r],by omega,by go_num,by go_num,hq1,hA2',hbn,r1'⟩
    case measure=>simp[intOf];omega
   ·obtain rfl:0=h:=by rw[←hhD,qDY (by omega)]
    have eq:((g:Int)+c) / 1000000000=q:=by omega
    have er:((g:Int)+c)%1000000000=r:=by omega
    have⟨hhD',hq',hr'⟩:=hyd3 hhD hq hr;clear hr hq hhD;go_wp2_with (at_builtin;go_must (refine qAm rfl (.tmp 42) (.tmp 45) 68 rfl w.heap.size 92 .u32 4 qAf (by decide) _ pre rfl (hown.out.alloc _) _ [r] rfl (qCB _ _ _ _) (by have:=hpl2'.out;simp;omega) (by simp;omega) ?_);intro v' w' r1 r2 r3 r4);have hbn:Hid (Below w.heap.size w w'):=Lib.hid ((hbl.out.alloc (by omega) _).trans r2);have⟨r1',r2',r3',r4'⟩:=hyd4 r1 r2 r3 r4;clear r4 r3 r2 r1;go_wp2;go_roundw
    case rel=>exact⟨k+1,q,pre++[r],by omega,by go_num,by go_num,hq1,hA2',hbn,r1'⟩
    case measure=>simp[intOf];omega
  ·obtain⟨hd1,hd2⟩:=hA.out.done (show(dg a).length ≤k by omega) (by omega);have hpl2:pre.length+1≤200000000:=by omega
   have⟨hd1',hd2'⟩:=hyd2 hd1 hd2;clear hd2 hd1;go_wp2_with (at_builtin;go_must (refine qAm rfl (.tmp 48) (.tmp 50) 68 rfl w.heap.size 92 .u32 4 qAf (by decide) _ pre rfl (hown.out.alloc _) _ [c] rfl (qCB _ _ _ _) (by simp;omega) (by simp;omega) ?_);intro v' w' r1 r2 r3 r4);have hbn:Below w.heap.size w w':=(hbl.out.alloc (by omega) _).trans r2;have hn:ArrL L (gv .u32) w' v' (pre++[c]):=ArrL.of_own r1 hL'.out;have⟨r1',r2',r3',r4'⟩:=hyd4 r1 r2 r3 r4;clear r4 r3 r2 r1;go_wp2_with (first | (go_at_call 111;((with_reducible refine(qDX L _ _ _ hn).mono ?_);rintro e w' ⟨v2,rfl,rfl,hv2⟩)));go_ret;exact⟨_,rfl,hbn,qBd hv2 hd2'.out (hd1'.out.trans hsum'.out)⟩
theorem qFK (L:Nat→Prop) (a b:Nat) (va vb:Value) (w:World) (hL:Up w L) (ha:NumL L .u32 w va a) (hb:NumL L .u32 w vb b) (hle:b≤a) (hm:(dg a).length ≤100000000):
  Calls Tryz.prog 117 #[va,vb] w fun e w'=>∃v',e= .returned v'∧Le w w'∧NumL L .u32 w' v' (a - b):=by
 obtain⟨Aa,ca,rfl,a1,a2,aN,a3⟩:=ha;obtain⟨Ab,cb,rfl,b1,b2,bN,b3⟩:=hb;unfold maxLen at a2 b2;have hB:=qAO;have hlb:(dg b).length ≤(dg a).length :=qAJ hle;have lx:=qAq a;have ly:=qAq b;have⟨hL',a3',b3',aN',bN',hB',lx',ly'⟩:=hyd8 hL a3 b3 aN bN hB lx ly;have hle':=hyd1 hle;clear hle ly lx hB bN aN b3 a3 hL;go_enter Tryz.func117,Tryz.ntmps117;go_wp2_with (at_make;go_must (refine qCi _ rfl _ _ 68 rfl w.heap.size 92 (.int .u32 0) 4 qAf (by decide) _ (dg a).length rfl rfl rfl (by omega) (Nat.le_refl _) ?_);intro w1 r1 r2);have⟨r1',r2'⟩:=hyd2 r1 r2;clear r2 r1;go_loopw [5,6,15] (fun s br i wr=>∃(k c:Nat) (pre:List Nat),k≤(dg a).length ∧i= .int .i64 k∧br= .int .i64 c∧c≤1∧Hid (Lessing (dg a) (dg b) k c pre)∧Hid (Below w.heap.size w wr)∧Hid (wr.ownsRow w.heap.size 92 1 s pre.length (pre.map (gv .u32)))) (fun _ _ i _=>(dg a).length - (intOf i).toNat)
 case atStart=>exact⟨0,0,[],Nat.zero_le _,rfl,rfl,by omega,Lib.hid (Lessing.start _ _),r2',r1'⟩
 case round=>
  obtain⟨k,c,pre,hk,rfl,rfl,hc1,hA,hbl,hown⟩:=hrel;have hz:w.heap.size≤wr.heap.size:=hbl.out.size;have hpl:pre.length=k:=hA.out.len
  by_cases hlt:k<(dg a).length
  ·obtain⟨bx,ox,rfl,-,hbx,hcx⟩:=a3'.out (by omega);have hckx:=(hbl.out.cell (p:=⟨bx,ox+k,none⟩) hbx).trans (hcx k hlt);unfold gv at hckx;clear hcx;obtain⟨g,hg⟩:∃g,(dg a)[k]=g:=⟨_,rfl⟩;have hgD:(dg a).getD k 0=g:=by rw[qBZ hlt,hg]
   have hgB:g<1000000000:=by rw[←hg,←hB'.out];exact qBQ _ _ _
   rw[hg]at hckx;obtain⟨h,hhD⟩:∃h,(dg b).getD k 0=h:=⟨_,rfl⟩;have hhB:h<1000000000:=by rw[←hhD,←hB'.out];exact qCZ (qAq _) _
   obtain⟨hn,hp⟩:=hA.out.next lx'.out ly'.out ((g:Int) - c - h) (by rw[hgD,hhD]);have hpl2:pre.length+1≤200000000:=by omega
   have hf:∃(cond:Bool) (g':Nat),decide ((g:Int) - c - h<0)=cond∧(if cond then(g:Int) - c - h+1000000000 else(g:Int) - c - h)=(g':Int)∧g'<1000000000∧Hid (Lessing (dg a) (dg b) (k+1) (if cond then 1 else 0) (pre++[g'])):=by
    by_cases hneg:(g:Int) - c - h<0
    ·obtain⟨g',e1,e2,e3⟩:=hn hneg;rw[hB'.out]at e2;exact⟨true,g',by simp[hneg],by simpa using e1,e2,Lib.hid e3⟩
    ·obtain⟨g',e1,e2,e3⟩:=hp hneg;rw[hB'.out]at e2;exact⟨false,g',by simp[hneg],by simpa using e1,e2,Lib.hid e3⟩
   obtain⟨cond,g',hcond,hg',hgB',hA2⟩:=hf;have⟨hg',hgD',hpl2'⟩:=hyd3 hg hgD hpl2;clear hpl2 hgD hg;clear hn hp
   by_cases hlt2:k<(dg b).length
   ·obtain⟨b2,o2,rfl,-,hb2,hcy⟩:=b3'.out (by omega);have hcky:=(hbl.out.cell (p:=⟨b2,o2+k,none⟩) hb2).trans (hcy k hlt2);unfold gv at hcky;rw[←qBZ hlt2,hhD]at hcky;have⟨hhD',hcy'⟩:=hyd2 hhD hcy;clear hcy hhD
    cases cond
    ·have hneg:¬((g:Int) - c - h<0):=of_decide_eq_false hcond;replace hg':(g:Int) - c - h=(g':Int):=by simpa using hg'
     clear hcond;go_wp2_with (at_builtin;go_must (refine qAm rfl (.tmp 39) (.tmp 42) 68 rfl w.heap.size 92 .u32 4 qAf (by decide) _ pre rfl (hown.out.alloc _) _ [g'] rfl (qCB _ _ _ _) (by have:=hpl2'.out;simp;omega) (by simp;omega) ?_);intro v' w' r1 r2 r3 r4);have hbn:Hid (Below w.heap.size w w'):=Lib.hid ((hbl.out.alloc (by omega) _).trans r2);have⟨r1',r2',r3',r4',hg''⟩:=hyd5 r1 r2 r3 r4 hg';clear hg' r4 r3 r2 r1;go_wp2;go_roundw
     case rel=>exact⟨k+1,0,pre++[g'],by omega,by go_num,by go_num,by omega,hA2,hbn,r1'⟩
     case measure=>simp[intOf];omega
    ·have hneg:(g:Int) - c - h<0:=of_decide_eq_true hcond;replace hg':(g:Int) - c - h+1000000000=(g':Int):=by simpa using hg'
     clear hcond;go_wp2_with (at_builtin;go_must (refine qAm rfl (.tmp 39) (.tmp 42) 68 rfl w.heap.size 92 .u32 4 qAf (by decide) _ pre rfl (hown.out.alloc _) _ [g'] rfl (qCB _ _ _ _) (by have:=hpl2'.out;simp;omega) (by simp;omega) ?_);intro v' w' r1 r2 r3 r4);have hbn:Hid (Below w.heap.size w w'):=Lib.hid ((hbl.out.alloc (by omega) _).trans r2);have⟨r1',r2',r3',r4',hg''⟩:=hyd5 r1 r2 r3 r4 hg';clear hg' r4 r3 r2 r1;go_wp2;go_roundw
     case rel=>exact⟨k+1,1,pre++[g'],by omega,by go_num,by go_num,by omega,hA2,hbn,r1'⟩
     case measure=>simp[intOf];omega
   ·obtain rfl:0=h:=by rw[←hhD,qDY (by omega)]
    have hhD':=hyd1 hhD;clear hhD
    cases cond
    ·have hneg:¬((g:Int) - c<0):=by have:=of_decide_eq_false hcond;omega
     replace hg':(g:Int) - c=(g':Int):=by(have:(g:Int) - c - (0:Nat)=(g':Int):=(by simpa using hg');omega)
     clear hcond;go_wp2_with (at_builtin;go_must (refine qAm rfl (.tmp 39) (.tmp 42) 68 rfl w.heap.size 92 .u32 4 qAf (by decide) _ pre rfl (hown.out.alloc _) _ [g'] rfl (qCB _ _ _ _) (by have:=hpl2'.out;simp;omega) (by simp;omega) ?_);intro v' w' r1 r2 r3 r4);have hbn:Hid (Below w.heap.size w w'):=Lib.hid ((hbl.out.alloc (by omega) _).trans r2);have⟨r1',r2',r3',r4',hg''⟩:=hyd5 r1 r2 r3 r4 hg';clear hg' r4 r3 r2 r1;go_wp2;go_roundw
     case rel=>exact⟨k+1,0,pre++[g'],by omega,by go_num,by go_num,by omega,hA2,hbn,r1'⟩
     case measure=>simp[intOf];omega
    ·have hneg:(g:Int) - c<0:=by have:=of_decide_eq_true hcond;omega
     replace hg':(g:Int) - c+1000000000=(g':Int):=by(have:(g:Int) - c - (0:Nat)+1000000000=(g':Int):=(by simpa using hg');omega)
     clear hcond;go_wp2_with (at_builtin;go_must (refine qAm rfl (.tmp 39) (.tmp 42) 68 rfl w.heap.size 92 .u32 4 qAf (by decide) _ pre rfl (hown.out.alloc _) _ [g'] rfl (qCB _ _ _ _) (by have:=hpl2'.out;simp;omega) (by simp;omega) ?_);intro v' w' r1 r2 r3 r4);have hbn:Hid (Below w.heap.size w w'):=Lib.hid ((hbl.out.alloc (by omega) _).trans r2);have⟨r1',r2',r3',r4',hg''⟩:=hyd5 r1 r2 r3 r4 hg';clear hg' r4 r3 r2 r1;go_wp2;go_roundw
     case rel=>exact⟨k+1,1,pre++[g'],by omega,by go_num,by go_num,by omega,hA2,hbn,r1'⟩
     case measure=>simp[intOf];omega
  ·obtain rfl:k=(dg a).length :=by omega
   have hd1:=hA.out.done ly'.out (by rw[qAl,qAl];exact hle'.out) hlb;have hn:ArrL L (gv .u32) wr _ pre:=ArrL.of_own hown.out hL'.out;rw[qAl,qAl]at hd1;have hlow:=hA.out.low;have⟨hd1',hlow',hA',hown'⟩:=hyd4 hd1 hlow hA hown;clear hown hA hlow hd1;go_wp2_with (first | (go_at_call 111;((with_reducible refine(qDX L _ _ _ hn).mono ?_);rintro e w' ⟨v2,rfl,rfl,hv2⟩)));go_ret;exact⟨_,rfl,hbl.out,qBd hv2 hlow'.out hd1'.out⟩
theorem qB8 (L:Nat→Prop) (a b:Nat) (va vb:Value) (w:World) (hL:Up w L) (ha:NumL L .u32 w va a) (hb:NumL L .u32 w vb b) (hma:(dg a).length ≤100000000) (hmb:(dg b).length ≤100000000):
  Calls Tryz.prog 116 #[va,vb] w fun e w'=>∃v',e= .returned v'∧Le w w'∧NumL L .u32 w' v' (a*b):=by
 obtain⟨Aa,ca,rfl,a1,a2,aN,a3⟩:=ha;obtain⟨Ab,cb,rfl,b1,b2,bN,b3⟩:=hb;unfold maxLen at a2 b2;have hB:=qAO;have lx:=qAq a;have ly:=qAq b;have⟨hL',a3',b3',aN',bN',hB',lx',ly'⟩:=hyd8 hL a3 b3 aN bN hB lx ly;clear ly lx hB bN aN b3 a3 hL;go_enter Tryz.func116,Tryz.ntmps116;go_wp2_with (at_make;go_must (refine qER (f:=gv .u32) _ rfl _ _ 68 rfl w.heap.size 92 0 4 qAf rfl (by decide) ((dg a).length +(dg b).length) (by go_num) (by go_num) (by omega) (Nat.le_refl _) _ rfl ?_);intro w1 r1 r2 r3);have⟨r1',r2',r3'⟩:=hyd3 r1 r2 r3;clear r3 r2 r1;go_loopw [20] (fun i wr=>∃(k:Nat) (out:List Nat),k≤(dg a).length ∧i= .int .i64 k∧Hid (out.length=(dg a).length +(dg b).length)∧Hid (Mul (dg a) (dg b) k out)∧Hid (Below w.heap.size w wr)∧Hid (wr.ownsRow w.heap.size 92 1 (.slice (some ⟨w.heap.size,0,none⟩) ((dg a).length +(dg b).length) ((dg a).length +(dg b).length)) ((dg a).length +(dg b).length) (out.map (gv .u32)))) (fun i _=>(dg a).length - (intOf i).toNat)
 case atStart=>exact⟨0,_,Nat.zero_le _,rfl,Lib.hid (by simp),Lib.hid (Mul.start _ _ _),r2',r1'⟩
 case round=>
  obtain⟨k,out,hk,rfl,hol,hM,hbl,hown⟩:=hrel
  by_cases hlt:k<(dg a).length
  ·obtain⟨bx,ox,rfl,-,hbx,hcx⟩:=a3'.out (by omega);have hckx:=(hbl.out.cell (p:=⟨bx,ox+k,none⟩) hbx).trans (hcx k hlt);unfold gv at hckx;clear hcx;obtain⟨x,hx⟩:∃x,(dg a)[k]=x:=⟨_,rfl⟩;have hxB:x<1000000000:=by rw[←hx,←hB'.out];exact qBQ _ _ _
   rw[hx]at hckx;have hx':=hyd1 hx;clear hx;rename World=>w0
   go_wp2;go_loopw [8,27] (fun cy i wr=>∃(k2 c:Nat) (out2:List Nat),k2≤(dg b).length ∧i= .int .i64 k2∧cy= .int .u64 c∧c<1000000000∧Hid (out2.length=(dg a).length +(dg b).length)∧Hid (MulRow x (dg b) k k2 c out out2)∧Hid (k2=0→out2=out)∧Hid (Below w.heap.size w wr)∧Hid (wr.ownsRow w.heap.size 92 1 (.slice (some ⟨w.heap.size,0,none⟩) ((dg a).length +(dg b).length) ((dg a).length +(dg b).length)) ((dg a).length +(dg b).length) (out2.map (gv .u32)))) (fun _ i _=>(dg b).length - (intOf i).toNat)
   case atStart=>exact⟨0,0,out,Nat.zero_le _,rfl,rfl,by omega,hol,Lib.hid (MulRow.start _ _ _ _ hM.out.low),Lib.hid (fun _=>rfl),hbl,hown⟩
   case round=>
    clear hckx;obtain⟨k2,c,out2,hk2,rfl,rfl,hc,hol2,hR,hR0,hbl2,hown2⟩:=hrel
    have hsz2:w.heap.size<wr.heap.size:=by
     obtain⟨g9,c9,e9,-,h9,-,-⟩:=qEQ hown2.out (by omega);injection e9 with e9;injection e9 with e9;injection e9 with e9;omega
    by_cases hlt2:k2<(dg b).length
    ·obtain⟨by_,oy,rfl,-,hby,hcy⟩:=b3'.out (by omega);have hcky:=(hbl2.out.cell (p:=⟨by_,oy+k2,none⟩) hby).trans (hcy k2 hlt2);unfold gv at hcky;clear hcy;obtain⟨y,hy⟩:∃y,(dg b)[k2]=y:=⟨_,rfl⟩;have hyB:y<1000000000:=by rw[←hy,←hB'.out];exact qBQ _ _ _
     rw[hy]at hcky;obtain⟨J,hJ⟩:∃J:Nat,k+k2=J:=⟨_,rfl⟩;have hJ2:(k:Int)+(k2:Int)=(J:Int):=by omega
     have hJl:J<out2.length:=by rw[hol2.out];omega
     obtain⟨z,hz⟩:∃z,out2[J]=z:=⟨_,rfl⟩;have hzB:z<1000000000:=by rw[←hz,←hB'.out];exact hR.out.low.get _ _
     have hckz:=qBo hown2.out hol2.out (k:=J) (x:=z) (by rw[List.getElem?_eq_getElem hJl,hz]);unfold gv at hckz;have hfr:=hown2.out.frozenAt J;obtain⟨hN,hd⟩:=hR.out.next (by rw[hB'.out];exact hxB) ly'.out hlt2 (by rw[hJ];exact hJl) (x*y+z+c) (by simp only[hy,hJ,hz]);obtain⟨P,hP⟩:∃P:Nat,x*y=P:=⟨_,rfl⟩;have hPi:(x:Int)*(y:Int)=(P:Int):=by rw[←hP];simp
     have hPB:P≤999999998000000001:=by rw[←hP];exact Nat.mul_le_mul (show x≤999999999 by omega) (show y≤999999999 by omega)
     rw[hP,hB'.out,hJ]at hN;obtain⟨q,hq⟩:∃q:Nat,(P+z+c) / 1000000000=q:=⟨_,rfl⟩;obtain⟨r,hr⟩:∃r:Nat,(P+z+c)%1000000000=r:=⟨_,rfl⟩;rw[hq,hr]at hN;have hq1:q<1000000000:=by rw[←hB'.out];exact hN.bound
     have hr1:r<1000000000:=by omega
     have eq:((P:Int)+z+c) / 1000000000=q:=by omega
     have er:((P:Int)+z+c)%1000000000=r:=by omega
     have hJN:J<(dg a).length +(dg b).length :=by omega
     have⟨hy',hz',hd',hN',hP',hq',hr',hJ'⟩:=hyd8 hy hz hd hN hP hq hr hJ;clear hJ hr hq hP hN hd hz hy;go_wp2;go_roundw
     case rel=>exact⟨k2+1,q,out2.set J r,by omega,by go_num,by go_num,hq1,Lib.hid (by rw[List.length_set];exact hol2.out),hN',Lib.hid (fun h=>by omega),Lib.hid (hbl2.out.setCell (p:=⟨w.heap.size,J,none⟩) (Nat.le_refl _) _),Lib.hid (qC6 (f:=gv .u32) hown2.out J r)⟩
     case measure=>simp[intOf];omega
    ·obtain rfl:k2=(dg b).length :=by omega
     by_cases hb0:(dg b).length =0
     ·have hbe:dg b=[]:=List.eq_nil_of_length_eq_zero hb0;have ho2:=hR0.out hb0;subst ho2;have hM2:=Lib.hid (Mul.nil_eq hbe hM.out);have hb1:¬(0<((dg b).length :Int)):=by omega
      clear hlt2;have⟨hb0',hbe'⟩:=hyd2 hb0 hbe;clear hbe hb0;go_wp2;go_roundw
      case rel=>exact⟨k+1,out2,by omega,by go_num,hol2,hM2,hbl2,hown2⟩
      case measure=>simp[intOf];omega
     ·obtain⟨J,hJ⟩:∃J:Nat,k+(dg b).length =J:=⟨_,rfl⟩;have hJ2:(k:Int)+((dg b).length :Int)=(J:Int):=by omega
      have hJl:J<out2.length:=by rw[hol2.out];omega
      obtain⟨z,hz⟩:∃z,out2[J]=z:=⟨_,rfl⟩;have hckz:=qBo hown2.out hol2.out (k:=J) (x:=z) (by rw[List.getElem?_eq_getElem hJl,hz]);unfold gv at hckz;have hfr:=hown2.out.frozenAt J;have hM2:=hM.out.next hlt (by rw[hx'.out];exact hR.out) (by rw[hJ];exact hJl);rw[hJ]at hM2;have hb1:0<((dg b).length :Int):=by omega
      have hJN:J<(dg a).length +(dg b).length :=by omega
      have⟨hz',hJ',hM2'⟩:=hyd3 hz hJ hM2;clear hM2 hJ hz;go_wp2;go_roundw
      case rel=>exact⟨k+1,out2.set J c,by omega,by go_num,Lib.hid (by rw[List.length_set];exact hol2.out),hM2',Lib.hid (hbl2.out.setCell (p:=⟨w.heap.size,J,none⟩) (Nat.le_refl _) _),Lib.hid (qC6 (f:=gv .u32) hown2.out J c)⟩
      case measure=>simp[intOf];omega
  ·obtain rfl:k=(dg a).length :=by omega
   have hd1:=hM.out.done;rw[qAl,qAl]at hd1;have hn:ArrL L (gv .u32) wr _ out:=ArrL.of_own hown.out hL'.out;have hlow:=hM.out.low;have⟨hd1',hlow',hM',hown'⟩:=hyd4 hd1 hlow hM hown;clear hown hM hlow hd1;go_wp2_with (first | (go_at_call 111;((with_reducible refine(qDX L _ _ _ hn).mono ?_);rintro e w' ⟨v2,rfl,rfl,hv2⟩)));go_ret;exact⟨_,rfl,hbl.out,qBd hv2 hlow'.out hd1'.out⟩
end Go.Proofs.YtenjpccpldajoaaGreatDoor

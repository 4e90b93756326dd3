/- slices.Backward over groups: what the iterator yields, in the order from the top; the call that makes it. exact: numbers of 0 or more: compare (from the top), .. -/
import Derived.Test.YtenjpccpldajoaaGreatDoorPk05
namespace Go.Proofs.YtenjpccpldajoaaGreatDoor
set_option maxRecDepth 100000
set_option maxHeartbeats 2000000
open Go.RowKit Go.Shelf
set_option linter.unusedVariables false
set_option linter.unusedSimpArgs false
attribute [local go_sem] Oper.semAt_some
theorem qCt {N:Nat} {pre:List (Fin N)} {x:Fin N} (h:pre++[x]<+:List.finRange N):pre<+:List.finRange N∧x.1=pre.length:=by
 obtain⟨t,ht⟩:=h;refine⟨⟨[x]++t,by rw[←List.append_assoc];exact ht⟩,?_⟩;have h1:=congrArg (fun l=>l[pre.length]?) ht;simp only[List.append_assoc]at h1;rw[List.getElem?_append_right (Nat.le_refl _),Nat.sub_self]at h1;simp only[List.singleton_append,List.getElem?_cons_zero]at h1;have h2:=(List.getElem?_eq_some_iff.1 h1.symm);obtain⟨h3,h4⟩:=h2;rw[List.getElem_finRange]at h4;have:=congrArg Fin.val h4;simpa using this.symm
def qNZ (q N:Nat) (W W':World):Prop:=(∀k,k<N→∃g:Nat,W.cell? ⟨q,k,none⟩=some (gv .u32 g))→∀k,k<N→∃g:Nat,W'.cell? ⟨q,k,none⟩=some (gv .u32 g)
def KeptR (q N n₀:Nat) (Bs:List Nat) (W W':World):Prop:=Kept n₀ Bs W W'∧qNZ q N W W'
theorem KeptR.trans {q N n₀:Nat} {Bs:List Nat} {A B C:World} (h:KeptR q N n₀ Bs A B) (k:KeptR q N n₀ Bs B C):KeptR q N n₀ Bs A C:=⟨h.1.trans k.1,fun r=>k.2 (h.2 r)⟩
theorem KeptR.refl (q N n₀:Nat) (Bs:List Nat) (W:World):KeptR q N n₀ Bs W W:=⟨Kept.refl _ _ _,fun h=>h⟩
def qDu (xs:List Nat) (i:Fin xs.length):Array Value:=#[.int .i64 ((xs.length - 1 - i.1:Nat):Int),.int .u32 ((xs.getD (xs.length - 1 - i.1) 0:Nat):Int)]
theorem qBV (xs:List Nat) (v:Value) (w0 w:World) (Bn n₀:Nat) (hv:Arr (gv .u32) w0 v xs) (hBn:Bn<w.heap.size) (hn₀:n₀≤w.heap.size) (h0:w0.heap.size≤n₀)
  (hb:Below w0.heap.size w0 w) (hc:w.cell? ⟨Bn,0,none⟩=some v):qPK Tryz.prog 122 #[.pointer (some ⟨Bn,0,none⟩)] xs.length (qDu xs) n₀ [Bn] w:=by
 intro l J Jx W hW _ _ hY hJ0;have hc':=(hW.cell (p:=⟨Bn,0,none⟩) hBn).trans hc;have hbW:Below w0.heap.size w0 W:=hb.trans (hW.mono (Nat.le_trans h0 hn₀));obtain⟨A,c,rfl,hlc,hcm,_,hr⟩:=qPL hv hbW;unfold maxLen at hcm;have hr':=hyd1 hr;clear hr;refine callsIn_of_wp Tryz.func122 rfl trivial ?_ rfl;simp only[Tryz.ntmps122,List.size_toArray,List.length_cons,List.length_nil,Nat.reduceAdd,Nat.reduceSub,Array.replicate_succ,Array.replicate_zero,List.push_toArray,List.append_toArray,List.nil_append,List.cons_append];gi_wp2;gi_loopw [3] (fun i wr=>∃k:Nat,k≤xs.length∧i= .int .i64 ((xs.length:Int) - 1 - k)∧J ((List.finRange xs.length).take k) wr∧Kept n₀ [Bn] W wr)
  (fun i _=>(intOf i+1).toNat)
 case atStart=>exact⟨0,Nat.zero_le _,by go_num,hJ0,Kept.refl _ _ _⟩
 case round=>
  obtain⟨k,hk,rfl,hJs,hnx⟩:=hrel
  by_cases hlt:k<xs.length
  ·obtain⟨m,hm⟩:∃m:Nat,xs.length=k+m+1:=⟨xs.length - k - 1,by omega⟩;have hmi:(xs.length:Int) - 1 - (k:Int)=(m:Int):=by omega
   rw[hmi];obtain⟨bb,off,rfl,hbb,hcc⟩:=hr'.out (by omega);have hck:wr.cell? ⟨bb,off+m,none⟩=some (gv .u32 xs[m]):=(hnx.1.cell (p:=⟨bb,off+m,none⟩) (by show bb<n₀;omega)).trans (hcc m (by omega));have hcv:=(hnx.cell (B:=Bn) (i:=0) (by simp)).trans hc';obtain⟨fn,tmps,assign,body,hy,hR⟩:=hY _ ⟨k,hlt⟩ wr hJs (by simp;omega);dsimp only[qDu]at hy;have e1:xs.length - 1 - k=m:=by omega
   have e2:xs.getD m 0=xs[m]:=qBZ (by omega);rw[e1,e2]at hy;have hcv':wr.cell? ⟨Bn,0,none⟩=some (.slice (some ⟨bb,off,none⟩) xs.length c):=hcv;unfold gv at hck;have hml:m<xs.length:=by omega
   have hml2:=hml;generalize xs[m]=x at hck hy e2;clear hcc hcv;clear e2;have⟨hmi',hm',e1'⟩:=hyd3 hmi hm e1;clear e1 hm hmi;gi_wp2;refine hR.mono ?_;rintro e W3 (⟨rfl,hJ3,hk3⟩| ⟨rfl,hJx3⟩)
   ·gi_wp2;go_roundw
    case rel=>exact⟨k+1,by omega,by have:=hmi'.out;go_num,by rw[qC9 k hlt];exact hJ3,hnx.trans hk3⟩
    case measure=>simp[intOf]
   ·gi_wp2;refine bodyPost_ret (results_none rfl _ _ _) rfl ?_;exact⟨⟨_,rfl⟩,.inr ⟨_,⟨_,by rw[←qC9 k hlt];exact List.take_append_drop _ _⟩,hJx3⟩⟩
  ·obtain rfl:k=xs.length:=by omega
   have hmi:(xs.length:Int) - 1 - (xs.length:Int)= -1:=by omega
   rw[hmi];gi_wp2;go_end0;exact⟨⟨_,rfl⟩,.inl ⟨_,List.take_of_length_le (by simp),hJs⟩⟩
def qJQ (N:Nat) (x:Fin N×Nat):Array Value:=#[.int .i64 ((N - 1 - x.1.1:Nat):Int),.int .u32 (x.2:Int)]
theorem qIr (N q c:Nat) (w:World) (Bn n₀:Nat) (hN:N≤1000000000) (hBn:Bn<w.heap.size) (hn₀:n₀≤w.heap.size) (hq:q<w.heap.size) (hr:∀k,k<N→∃g:Nat,w.cell? ⟨q,k,none⟩=some (gv .u32 g))
  (hc:w.cell? ⟨Bn,0,none⟩=some (.slice (some ⟨q,0,none⟩) N c)):
  SeqStopsK Fence.wide 4 Tryz.prog 122 #[.pointer (some ⟨Bn,0,none⟩)] (qJQ N) (KeptR q N n₀ [Bn]) (fun ys=>ys.map (·.1)=List.finRange N) (fun pre=>pre.map (·.1)<+:List.finRange N) N w:=by
 intro l J Jx W hW _ _ hY hJ0;have hc':=(hW.cell (p:=⟨Bn,0,none⟩) hBn).trans hc
 have hr0:∀k,k<N→∃g:Nat,W.cell? ⟨q,k,none⟩=some (gv .u32 g):=fun k hk=>by
  obtain⟨g,hg⟩:=hr k hk;exact⟨g,(hW.cell (p:=⟨q,k,none⟩) hq).trans hg⟩
 have hr':=hyd1 hr0;clear hr hr0;refine callsIn_of_wp Tryz.func122 rfl trivial ?_ rfl;simp only[Tryz.ntmps122,List.size_toArray,List.length_cons,List.length_nil,Nat.reduceAdd,Nat.reduceSub,Array.replicate_succ,Array.replicate_zero,List.push_toArray,List.append_toArray,List.nil_append,List.cons_append];gi_wp2;gi_loopw [3] (fun i wr=>∃(k:Nat) (ys:List (Fin N×Nat)),k≤N∧i= .int .i64 ((N:Int) - 1 - k)∧ys.map (·.1)=(List.finRange N).take k∧J ys wr∧KeptR q N n₀ [Bn] W wr)
  (fun i _=>(intOf i+1).toNat)
 case atStart=>exact⟨0,[],Nat.zero_le _,by go_num,rfl,hJ0,KeptR.refl _ _ _ _ _⟩
 case round=>
  obtain⟨k,ys,hk,rfl,hys,hJs,hnx⟩:=hrel
  by_cases hlt:k<N
  ·obtain⟨m,hm⟩:∃m:Nat,N=k+m+1:=⟨N - k - 1,by omega⟩;have hmi:(N:Int) - 1 - (k:Int)=(m:Int):=by omega
   rw[hmi];obtain⟨x,hck⟩:=hnx.2 hr'.out m (by omega);have hcv:=(hnx.1.cell (B:=Bn) (i:=0) (by simp)).trans hc';have hyl:ys.length=k:=by have:=congrArg List.length hys;simpa[Nat.min_eq_left hk]using this
   obtain⟨fn,tmps,assign,body,hy,hR⟩:=hY _ (⟨k,hlt⟩,x) wr hJs (by omega);dsimp only[qJQ]at hy;have e1:N - 1 - k=m:=by omega
   rw[e1]at hy;unfold gv at hck;have hml:m<N:=by omega
   have hys2:(ys++[((⟨k,hlt⟩:Fin N),x)]).map (·.1)=(List.finRange N).take (k+1):=by rw[List.map_append,hys,qC9 k hlt];rfl
   have⟨hmi',hm',e1',hys',hys2'⟩:=hyd5 hmi hm e1 hys hys2;clear hys2 hys e1 hm hmi;gi_wp2;refine hR.mono ?_;rintro e W3 (⟨rfl,hJ3,hk3⟩| ⟨rfl,hJx3⟩)
   ·gi_wp2;go_roundw
    case rel=>exact⟨k+1,_,by omega,by have:=hmi'.out;go_num,hys2'.out,hJ3,hnx.trans hk3⟩
    case measure=>simp[intOf]
   ·gi_wp2;refine bodyPost_ret (results_none rfl _ _ _) rfl ?_;exact⟨⟨_,rfl⟩,.inr ⟨_,⟨_,by rw[hys2'.out];exact List.take_append_drop _ _⟩,hJx3⟩⟩
  ·obtain rfl:k=N:=by omega
   have hmi:(k:Int) - 1 - (k:Int)= -1:=by omega
   rw[hmi];gi_wp2;go_end0;exact⟨⟨_,rfl⟩,.inl ⟨_,by rw[hys];exact List.take_of_length_le (by simp),hJs⟩⟩
theorem qBx (A:Option Addr) (n c:Nat) (w:World):
  Calls Tryz.prog 69 #[.slice A n c] w fun e w'=>e= .returned (.func (.func 122) #[] #[.pointer (some ⟨w.heap.size,0,none⟩)])∧w.alloc (.cells #[.slice A n c] 68)=w':=by
 have hmf:∀(fn:Fn) (first cap:Array Value) (w:World),(Instr.makeFunc fn first cap).run Tryz.prog w= .ok (.func fn first cap) w:=fun _ _ _ _=>rfl;go_enter Tryz.func69,Tryz.ntmps69;go_wp2;go_ret;exact⟨rfl,rfl⟩
end Go.Proofs.YtenjpccpldajoaaGreatDoor
namespace Go.Proofs.YtenjpccpldajoaaGreatDoor
set_option maxRecDepth 100000
set_option maxHeartbeats 2000000
open Go.RowKit Go.Shelf
set_option linter.unusedVariables false
set_option linter.unusedSimpArgs false
attribute [local go_sem] Oper.semAt_some
theorem qAC {W:World} {B:Nat} {v:Value} {t:TypeId} (h:W.heap[B]? =some (.cells #[v] t)):W.cell? ⟨B,0,none⟩=some v:=cell_of_row W B 0 _ _ _ h
theorem fz0 {W:World} {B:Nat} {cs:Array Value} {t:TypeId} (h:W.heap[B]? =some (.cells cs t)) (i:Nat):W.frozen? ⟨B,i,none⟩=false:=by simp[World.frozen?,h]
theorem frz2 {W:World} {B:Nat} {cs:Array Value} {t:TypeId} (h:W.heap[B]? =some (.cells cs t)):W.frozen? ⟨B,0,none⟩=false∧W.frozen? ⟨B,1,none⟩=false:=⟨fz0 h 0,fz0 h 1⟩
theorem frz3 {W:World} {B:Nat} {cs:Array Value} {t:TypeId} (h:W.heap[B]? =some (.cells cs t)):W.frozen? ⟨B,0,none⟩=false∧W.frozen? ⟨B,1,none⟩=false∧W.frozen? ⟨B,2,none⟩=false:=⟨fz0 h 0,fz0 h 1,fz0 h 2⟩
theorem frz4 {W:World} {B:Nat} {cs:Array Value} {t:TypeId} (h:W.heap[B]? =some (.cells cs t)):W.frozen? ⟨B,0,none⟩=false∧W.frozen? ⟨B,1,none⟩=false∧W.frozen? ⟨B,2,none⟩=false∧W.frozen? ⟨B,3,none⟩=false:=⟨fz0 h 0,fz0 h 1,fz0 h 2,fz0 h 3⟩
theorem frz6 {W:World} {B:Nat} {cs:Array Value} {t:TypeId} (h:W.heap[B]? =some (.cells cs t)):W.frozen? ⟨B,0,none⟩=false∧W.frozen? ⟨B,1,none⟩=false∧W.frozen? ⟨B,2,none⟩=false∧W.frozen? ⟨B,3,none⟩=false∧W.frozen? ⟨B,4,none⟩=false∧W.frozen? ⟨B,5,none⟩=false:=⟨fz0 h 0,fz0 h 1,fz0 h 2,fz0 h 3,fz0 h 4,fz0 h 5⟩
theorem frz8 {W:World} {B:Nat} {cs:Array Value} {t:TypeId} (h:W.heap[B]? =some (.cells cs t)):W.frozen? ⟨B,0,none⟩=false∧W.frozen? ⟨B,1,none⟩=false∧W.frozen? ⟨B,2,none⟩=false∧W.frozen? ⟨B,3,none⟩=false∧W.frozen? ⟨B,4,none⟩=false∧W.frozen? ⟨B,5,none⟩=false∧W.frozen? ⟨B,6,none⟩=false∧W.frozen? ⟨B,7,none⟩=false:=⟨fz0 h 0,fz0 h 1,fz0 h 2,fz0 h 3,fz0 h 4,fz0 h 5,fz0 h 6,fz0 h 7⟩
theorem qEJ (w:World) (o0 o1 o2:Obj):∃W0,((w.alloc o0).alloc o1).alloc o2=W0∧W0.heap.size=w.heap.size+3∧Below w.heap.size w W0∧
  W0.heap[w.heap.size]? =some o0∧W0.heap[w.heap.size+1]? =some o1∧W0.heap[w.heap.size+2]? =some o2:=by
 refine⟨_,rfl,by simp,alc3 _ _ _ _,?_,?_,?_⟩
 ·exact(Below.heap_alloc _ _ _ (by simp<;>omega)).trans ((Below.heap_alloc _ _ _ (by simp)).trans (heap_alloc_new _ _))
 ·exact(Below.heap_alloc _ _ _ (by simp)).trans (by have h:=heap_alloc_new (w.alloc o0) o1;rw[World.size_alloc]at h;exact h)
 ·have h:=heap_alloc_new ((w.alloc o0).alloc o1) o2;rw[World.size_alloc,World.size_alloc]at h;exact h
theorem qAW {W:World} {B:Nat} {v u:Value} {t:TypeId} (h:W.heap[B]? =some (.cells #[v] t)):(W.setCell ⟨B,0,none⟩ u).heap[B]? =some (.cells #[u] t):=by
 simp only[World.setCell,Array.getElem?_modify,h];simp
theorem qBg (N:Nat):List.finRange N<+:List.finRange N:=List.prefix_rfl
def CmpI (W0:World) (a b:Nat) (pre:List (Fin (dg a).length)) (W:World):Prop:=
 Below W0.heap.size W0 W∧(pre<+:List.finRange (dg a).length →(dg a).drop ((dg a).length - pre.length)=(dg b).drop ((dg a).length - pre.length))
def CmpX (w:World) (R:Nat) (t:TypeId) (a b:Nat) (c:Code) (pre:List (Fin (dg a).length)) (W:World):Prop:=
 c= .ret ∧Below w.heap.size w W∧∃r:Int,W.heap[R]? =some (.cells #[.int .i64 r] t)∧(pre<+:List.finRange (dg a).length →(r<0↔a<b)∧(r=0↔a=b))
theorem CmpI.from (W0:World) (a b N0:Nat) (h:W0.heap.size≤N0):OwnFrom N0 (CmpI W0 a b):=by
 rintro s X Y row ⟨h1,h2⟩ hg hrow;exact⟨h1.grown hg (Nat.le_trans (Nat.le_refl _) h1.size) (fun k e=>by have:=(hrow k e).1;omega),h2⟩
theorem CmpX.from (w:World) (R:Nat) (t:TypeId) (a b N0:Nat) (h:w.heap.size≤N0) (hR:R<N0) (c:Code):OwnFrom N0 (CmpX w R t a b c):=by
 rintro s X Y row ⟨h1,h2,r,h3,h4⟩ hg hrow;refine⟨h1,h2.grown hg h2.size (fun k e=>by have:=(hrow k e).1;omega),r,?_,h4⟩;exact(hg.block R (gsl h3) (fun e=>by have:=(hrow _ e.symm).1;omega)).trans h3
theorem qBL (L:Nat→Prop) (a b:Nat) (va vb:Value) (w:World) (ha:NumL L .u32 w va a) (hb:NumL L .u32 w vb b) (hma:(dg a).length ≤100000000) (hmb:(dg b).length ≤100000000):
  Calls Tryz.prog 67 #[va,vb] w fun e w'=>∃c:Int,e= .returned (.int .i64 c)∧Le w w'∧(c<0↔a<b)∧(c=0↔a=b):=by
 have ha0:=ha.arr;obtain⟨Aa,ca,rfl,a1,a2,aN,a3⟩:=ha;obtain⟨Ab,cb,rfl,b1,b2,bN,b3⟩:=hb;unfold maxLen at a2 b2;have hB:=qAO;have⟨ha0',a3',b3',aN',bN',hB'⟩:=hyd6 ha0 a3 b3 aN bN hB;clear hB bN aN b3 a3 ha0
 by_cases hlen:(dg a).length =(dg b).length
 ·refine(callsIn_wide (n:=5)).1 ?_;refine callsIn_of_wp_marks Tryz.func67 rfl trivial ?_ rfl;simp only[Tryz.ntmps67,List.size_toArray,List.length_cons,List.length_nil,Nat.reduceAdd,Nat.reduceSub,Array.replicate_succ,Array.replicate_zero,List.push_toArray,List.append_toArray,List.nil_append,List.cons_append];have hne:(((dg a).length :Int)==((dg b).length :Int))=true:=by simp[hlen]
  have hne2:¬((dg a).length :Int)≠((dg b).length :Int):=by simp[hlen]
  have hlen':=hyd1 hlen;clear hlen;gi_wp2_with (first | (refine⟨trivial,?_⟩;gi_at_call 69;refine(callsIn_wide.2 (qBx _ _ _ _)).mono ?_;rintro e w' ⟨rfl,rfl⟩));obtain⟨W0,hW0,hsz,hBW,h0,h1,h2⟩:=qEJ w (.cells #[.slice Ab (dg b).length cb] 68) (.cells #[.int .i64 0] 3) (.cells #[.slice Aa (dg a).length ca] 68);rw[hW0];clear hW0;have hyield:=qBV (dg a) _ w W0 (w.heap.size+1+1) w.heap.size ha0'.out (by omega) (by omega) (Nat.le_refl _) hBW (qAC h2);refine wpIn_rangeFunc_ownG rfl (by omega) (gf:=122) (lb:=#[.pointer (some ⟨w.heap.size+1+1,0,none⟩)]) rfl trivial (enters_of Tryz.func122 (by kernel_rfl) rfl)
   hyield Kept.trans (Kept.put (by omega) (by simp;omega)) (Below.refl _ _) (fun _=>rfl)
   (CmpI W0 a b) (CmpX w (w.heap.size+1) 3 a b) (CmpI.from _ _ _ _ (Nat.le_refl _)) (CmpX.from _ _ _ _ _ _ (by omega) (by omega)) ⟨Below.refl _ _,fun _=>by rw[List.length_nil,Nat.sub_zero,List.drop_eq_nil_of_le (Nat.le_refl _),List.drop_eq_nil_of_le (by rw[hlen'.out];exact Nat.le_refl _)]⟩ ?_ ?_ ?_ ?_ ?_
  rotate_left
  ·intro l x W K hK;dsimp only[qDu];gi_wp2;exact hK
  ·rintro l pre x W ⟨hbw,hI⟩ hlen2;have hx:=x.2;have hl:=hlen'.out;obtain⟨m,hm⟩:∃m,(dg a).length - 1 - x.1=m:=⟨_,rfl⟩;have hml:m<(dg a).length :=by omega
   have hml2:m<(dg b).length :=by omega
   have c0:=(hbw.cell (p:=⟨w.heap.size,0,none⟩) (by show w.heap.size<W0.heap.size;omega)).trans (qAC h0);have hR:=(hbw.block (w.heap.size+1) (by omega)).trans h1;have cR:=qAC hR;have fR:=fz0 hR 0;obtain⟨bb,ob,rfl,-,hbb,hcb⟩:=b3'.out (by omega);have hck:=((hBW.trans (hbw.mono (by omega))).cell (p:=⟨bb,ob+m,none⟩) hbb).trans (hcb m hml2);unfold gv at hck;clear hcb;obtain⟨g,hg⟩:∃g,(dg a)[m]?.getD 0=g:=⟨_,rfl⟩;obtain⟨h,hh⟩:∃h,(dg b)[m]=h:=⟨_,rfl⟩;have hga:(dg a)[m]=g:=by rw[←hg];simp[hml]
   have hgB:g<1000000000:=by rw[←hga,←hB'.out];exact qBQ _ _ _
   have hhB:h<1000000000:=by rw[←hh,←hB'.out];exact qBQ _ _ _
   rw[hh]at hck;rw[hm,hg]
   have hpos:pre++[x]<+:List.finRange (dg a).length →(dg a).drop (m+1)=(dg b).drop (m+1)∧(dg a).length - (pre++[x]).length =m:=fun hp=>by
    obtain⟨hp1,hp2⟩:=qCt hp;have:=hI hp1;rw[show(dg a).length - pre.length=m+1 by omega]at this;exact⟨this,by simp;omega⟩
   have hbw2:Below w.heap.size w W:=hBW.trans (hbw.mono (by omega));clear hI hyield;have⟨hga',hg',hh',hpos',hbw',hbw2',hR',hl'⟩:=hyd8 hga hg hh hpos hbw hbw2 hR hl;have hm':=hyd1 hm;clear hm hl hR hbw2 hbw hpos hh hg hga
   by_cases e:g=h
   ·subst e;gi_wp2;refine⟨KeepsFrom.refl _ _,Kept.refl _ _ _,hbw'.out,fun hp=>?_⟩;obtain⟨k1,k2⟩:=hpos'.out hp;rw[k2];exact qMG hl'.out m hml k1 (hga'.out.trans hh'.out.symm)
   ·have hne3:((g:Int) != (h:Int))=true:=by simpa using(fun h=>e (by omega))
    have hne4:¬(g:Int)=(h:Int):=by omega
    gi_wp2;refine⟨(KeepsOthers.setCell _ _ _).from _,rfl,hbw2'.out.setCell (p:=⟨w.heap.size+1,0,none⟩) (by show w.heap.size≤w.heap.size+1;omega) _,(g:Int) - h,qAW hR'.out,fun hp=>?_⟩;obtain⟨k1,k2⟩:=hpos'.out hp;have hl:=hl'.out;have e1:=hga'.out;have e2:=hh'.out
    rcases Nat.lt_or_ge g h with hgh|hgh
    ·have:=qIW hl m hml k1 (by rw[e1,e2];exact hgh);exact⟨by omega,by omega⟩
    ·have:=qIW hl.symm m hml2 k1.symm (by rw[e1,e2];omega);exact⟨by omega,by omega⟩
  ·rintro D ys W hD rfl ⟨hbw,hI⟩ hDK;have hR:=(hbw.block (w.heap.size+1) (by omega)).trans h1;have cR:=qAC hR;have fR:=fz0 hR 0
   have hab:a=b:=by
    have:=hI (qBg _);rw[List.length_finRange,Nat.sub_self]at this;exact qMH this
   have hbw2:Below w.heap.size w W:=hBW.trans (hbw.mono (by omega));clear hI hyield;have⟨hbw',hbw2',hR',hDK',hab'⟩:=hyd5 hbw hbw2 hR hDK hab;clear hab hDK hR hbw2 hbw;gi_wp2;refine qBJ w.heap.size [{target:= .collected D,args:=#[]}] _ ⟨⟨D,rfl,by omega,?_,by simp⟩,trivial⟩ fun w9 hb hkeep=>?_
   ·exact(Below.heap_setCell _ _ _ _ (show D≠w.heap.size+1 by omega)).trans hDK'.out
   ·have c9:=qAC (hkeep _ _ (qAW hR'.out) rfl);have hLe:Le w w9:=(hbw2'.out.setCell (p:=⟨w.heap.size+1,0,none⟩) (by show w.heap.size≤w.heap.size+1;omega) _).trans hb;exact⟨_,by simp[results,Tryz.results67,go_sem,c9],0,rfl,hLe,by have:=hab'.out;omega,by have:=hab'.out;simp[this]⟩
  ·rintro D cc pre W hD hpre ⟨rfl,hbw,r,hr,hc⟩ hDK;have hc2:=hc hpre;clear hyield hc;have⟨hr',hbw',hDK',hc2'⟩:=hyd4 hr hbw hDK hc2;clear hc2 hDK hbw hr;gi_wp2;refine qBJ w.heap.size [{target:= .collected D,args:=#[]}] _ ⟨⟨D,rfl,by omega,hDK'.out,by simp⟩,trivial⟩ fun w9 hb hkeep=>?_;have c9:=qAC (hkeep _ _ hr'.out rfl);exact⟨_,by simp[results,Tryz.results67,go_sem,c9],r,rfl,hbw'.out.trans hb,hc2'.out⟩
 ·have hne:(((dg a).length :Int)==((dg b).length :Int))=false:=by simp;omega
  go_enter Tryz.func67,Tryz.ntmps67;go_wp2;refine bodyPost_ret (v:= .int .i64 (((dg a).length :Int) - ((dg b).length :Int))) (by simp[results,Tryz.results67,go_sem]) rfl ⟨_,rfl,alc2 _ _ _,?_,?_⟩
  ·rcases Nat.lt_or_ge (dg a).length (dg b).length with h|h
   ·have:=qF0 h;omega
   ·have:=qF0 (m:=b) (n:=a) (by omega);omega
  ·constructor
   ·intro h;omega
   ·rintro rfl;exact absurd rfl hlen
end Go.Proofs.YtenjpccpldajoaaGreatDoor

/- Contracts of package rosette (layer 3): Check, CheckRubber and their kin. rosette.picked: for each step what is picked among the offsets of a rubber. Contracts .. -/
import Derived.Test.YtbcbcdgbliheoaaGreatPk04
import Derived.Test.YtbcbcdgbliheoaaGreatPk05
import Derived.Laws.BitsAllLaws
import Derived.Laws.BitsLemmas
namespace Go.Proofs.YtbcbcdgbliheoaaGreat
set_option maxRecDepth 100000
set_option maxHeartbeats 4000000
open Go.RowKit
set_option linter.unusedVariables false
set_option linter.unusedSimpArgs false

def qDS (x:Int):Bool:=qA0 x 0 10000
def qBF (f:List Int):Bool:=decide (3<=f.length)&&(decide (f.length<=96)&&f.all qDS)
def qB5 (b:List Int) (n:Int):Bool:=decide (b.length%2=1)&&(decide ((b.length:Int)<=n)&&(decide (b.length<=31)&&(b.all qDS&&decide (b.getD (b.length / 2) 0<=0))))
theorem qJz (zs:List Int) (p:Int->Bool):zs.any (λx=> !p x)= !zs.all p:=by
 induction zs with
 | nil=>rfl
 | cons x r ih=>simp only[List.any_cons,List.all_cons,ih,Bool.not_and]

theorem qKU (n:Int) (w:World):Calls Tryz.prog 75 #[.int .i64 n] w λe w'=>e= .returned (.bool (!qDS n))/\w=w':=by
 unfold qDS
 by_cases c:n<0
 ·have b:qA0 n 0 10000=false:=within_not.2 (by omega);rw[b];go_enter Tryz.func75,Tryz.ntmps75;go_wp2;go_ret;simp[c]
 ·by_cases d:n<=10000
  ·have b:qA0 n 0 10000=true:=within_iff.2 (by omega);rw[b];go_enter Tryz.func75,Tryz.ntmps75;go_wp2;go_ret;simp[c,d]
  ·have b:qA0 n 0 10000=false:=within_not.2 (by omega);rw[b];have f:10000<n:=by omega
   go_enter Tryz.func75,Tryz.ntmps75;go_wp2;go_ret;simp[f]
theorem qJ2 (n:Int) (w:World):Calls Tryz.prog 75 (#[.int .i64 n]++#[]) w λe w'=>e= .returned (.bool (!qDS n))/\w=w':=by
 rw[Array.append_empty];exact qKU n w
theorem qIJ:qAZ Tryz.prog 75:=λ_ _=>by kernel_rfl
theorem qDh (v:Value) (zs:List Int) (w:World) (hv:Ints w v zs):
  Calls Tryz.prog 33 #[v,.func (.func 75) #[] #[]] w λe w'=>e= .returned (.bool (!zs.all qDS))/\w=w':=by
 have h:=qBb (λx=> !qDS x) 75 #[] v zs w hv qIJ (λx _=>qJ2 x _);rw[qJz]at h;exact h
theorem qAp (v:Value) (f:List Int) (w:World) (hv:Ints w v f) (B:Bool) (hB:qBF f=B):
  Calls Tryz.prog 48 #[v] w λe w'=>e= .returned (.int .i64 (if B then 0 else 30))/\w=w':=by
 have i:=Lib.hid hv;obtain⟨A,c,rfl,j,h,_,k⟩:=hv;unfold maxLen at h;clear k;unfold qBF at hB
 by_cases b:3<=f.length
 ·rw[decide_eq_true b,Bool.true_and]at hB
  by_cases d:f.length<=96
  ·rw[decide_eq_true d,Bool.true_and]at hB;have g:=hyd1 hB;clear hB;have l:((f.length:Int)<3)=False:=by simp;omega
   have m:((96:Int)<(f.length:Int))=False:=by simp;omega
   clear b d
   cases B
   all_goals
    go_enter Tryz.func48,Tryz.ntmps48;go_wp2_with (first | (go_at_call 33;refine(qDh _ f _ i.out).mono ?_;rintro e w' ⟨rfl,rfl⟩;rw[g.out]));go_ret;exact⟨rfl,rfl⟩
  ·rw[decide_eq_false d,Bool.false_and]at hB;subst hB;go_enter Tryz.func48,Tryz.ntmps48;go_wp2;go_ret;exact⟨rfl,rfl⟩
 ·rw[decide_eq_false b,Bool.false_and]at hB;subst hB;go_enter Tryz.func48,Tryz.ntmps48;go_wp2;go_ret;exact⟨rfl,rfl⟩
theorem qNd (n:Nat) (h:n<9223372036854775808):bits .and .i64 (n:Int) 1=((n%2:Nat):Int):=by
 have e:(BitVec.ofInt 64 (n:Int)).toNat =n:=by rw[BitVec.ofInt_natCast,BitVec.toNat_ofNat];exact Nat.mod_eq_of_lt (by omega)
 show IntKind.i64.wrap ((BitVec.ofInt 64 (n:Int)&&& BitVec.ofInt 64 (1:Int)).toNat :Int)=_
 rw[BitVec.toNat_and,e];have b:(BitVec.ofInt 64 (1:Int)).toNat =1:=by decide
 rw[b,Nat.and_one_is_mod,IntKind.wrap_i64];omega
theorem qAl (v:Value) (b:List Int) (n:Int) (w:World) (hv:Ints w v b) (B:Bool) (hB:qB5 b n=B):
  Calls Tryz.prog 49 #[v,.int .i64 n] w λe w'=>e= .returned (.int .i64 (if B then 0 else 31))/\w=w':=by
 have g:=Lib.hid hv;obtain⟨A,c,rfl,G,o,_,i⟩:=hv;unfold maxLen at o;unfold qB5 at hB;have d:=qNd b.length (by omega)
 by_cases h:b.length%2=1
 ·rw[decide_eq_true h,Bool.true_and]at hB;rw[h]at d;have k:=hyd1 h;clear h
  by_cases r:(b.length:Int)<=n
  ·rw[decide_eq_true r,Bool.true_and]at hB
   by_cases s:b.length<=31
   ·rw[decide_eq_true s,Bool.true_and]at hB;obtain⟨H,l⟩:∃H,H=b.all qDS:=⟨_,rfl⟩;rw[<-l]at hB;have f:=hyd1 l;clear l
    cases H with
    | false=>
     rw[Bool.false_and]at hB;subst hB;clear i;go_enter Tryz.func49,Tryz.ntmps49;go_wp2_with (first | (go_at_call 33;refine(qDh _ b _ g.out).mono ?_;rintro e w' ⟨rfl,rfl⟩;rw[<-f.out]));go_ret;exact⟨rfl,rfl⟩
    | true=>
     rw[Bool.true_and]at hB;have j:0<b.length:=by have:=k.out;omega
     obtain⟨D,p,rfl,F,y⟩:=i j;have C:b.length / 2<b.length:=by omega
     have m:w.cell? ⟨D,p+b.length / 2,none⟩=some (.int .i64 b[b.length / 2]):=y _ C;have z:b.getD (b.length / 2) 0=b[b.length / 2]:=by simp[C]
     rw[z]at hB;generalize b[b.length / 2]=x at m hB;clear y i z
     by_cases t:x<=0
     ·rw[decide_eq_true t]at hB;subst hB;go_enter Tryz.func49,Tryz.ntmps49;go_wp2_with (first | (go_at_call 33;refine(qDh _ b _ g.out).mono ?_;rintro e w' ⟨rfl,rfl⟩;rw[<-f.out]));go_ret;exact⟨rfl,rfl⟩
     ·rw[decide_eq_false t]at hB;subst hB;have E:0<x:=by omega
      go_enter Tryz.func49,Tryz.ntmps49;go_wp2_with (first | (go_at_call 33;refine(qDh _ b _ g.out).mono ?_;rintro e w' ⟨rfl,rfl⟩;rw[<-f.out]));go_ret;exact⟨rfl,rfl⟩
   ·rw[decide_eq_false s,Bool.false_and]at hB;subst hB;clear i;go_enter Tryz.func49,Tryz.ntmps49;go_wp2;go_ret;exact⟨rfl,rfl⟩
  ·rw[decide_eq_false r,Bool.false_and]at hB;subst hB;clear i;go_enter Tryz.func49,Tryz.ntmps49;go_wp2;go_ret;exact⟨rfl,rfl⟩
 ·rw[decide_eq_false h,Bool.false_and]at hB;subst hB;have q:b.length%2=0:=by omega
  rw[q]at d;clear i h q;go_enter Tryz.func49,Tryz.ntmps49;go_wp2;go_ret;exact⟨rfl,rfl⟩
open Go.RowKit Go.Shelf
attribute [local go_sem] Oper.semAt_some
def Near (x:Int):Prop:= -20000<=x/\x<=20000
def qBc (f b:List Int) (dir:Int) (M:Int->Int->Int) (p j:Nat):Int:=M (f.getD (((p:Int)+dir*((j:Int) - (b.length:Int) / 2))%(f.length:Int)).toNat 0) (b.getD j 0)
def qCn (N:Nat) (X:Nat->Int) (K:Int->Int->Int) (acc:Int) (j:Nat):Int:=if (j:Int) - (N:Int) / 2= -((N:Int) / 2)then X j else K acc (X j)
def qBm (N:Nat) (X:Nat->Int) (K:Int->Int->Int) (pre:List (Fin N)):Int:=(pre.map (·.1)).foldl (qCn N X K) 0
theorem qJ3 (N:Nat) (X:Nat->Int) (K:Int->Int->Int) (pre:List (Fin N)) (x:Fin N):qBm N X K (pre++[x])=qCn N X K (qBm N X K pre) x.1:=by
 simp[qBm]
def qFp (f b:List Int) (dir:Int) (M K:Int->Int->Int) (p:Nat):Int:=qBm b.length (qBc f b dir M p) K (List.finRange b.length)
def qB7 (f b:List Int) (dir:Int) (M K:Int->Int->Int) (k:Nat):List Int:=(List.range k).map (qFp f b dir M K)
theorem qI9 (f b:List Int) (dir:Int) (M K:Int->Int->Int) (k:Nat):qB7 f b dir M K (k+1)=qB7 f b dir M K k++[qFp f b dir M K k]:=by
 simp[qB7,List.range_succ]
theorem qE9 (f b:List Int) (dir:Int) (M K:Int->Int->Int) (k:Nat):(qB7 f b dir M K k).length =k:=by simp[qB7]

structure PickEnv (w:World) (vf vb:Value) (dir:Int) (mk pk:Nat) (wr:World):Prop where
 b0:wr.heap[w.heap.size]? =some (.cells #[vf] 22)
 b1:wr.heap[w.heap.size+1]? =some (.cells #[vb] 22)
 b2:wr.heap[w.heap.size+1+1]? =some (.cells #[.int .i64 dir] 3)
 b3:wr.heap[w.heap.size+1+1+1]? =some (.cells #[.func (.func mk) #[] #[]] 69)
 b4:wr.heap[w.heap.size+1+1+1+1]? =some (.cells #[.func (.func pk) #[] #[]] 69)
 below:Below w.heap.size w wr
theorem PickEnv.lt {w:World} {vf vb:Value} {dir:Int} {mk pk:Nat} {wr:World} (h:PickEnv w vf vb dir mk pk wr):w.heap.size+5<=wr.heap.size:=by
 have:=(gsl h.b4);omega
theorem PickEnv.keep {w:World} {vf vb:Value} {dir:Int} {mk pk:Nat} {wr W:World} (h:PickEnv w vf vb dir mk pk wr) (hb:Below (w.heap.size+5) wr W):PickEnv w vf vb dir mk pk W:=
 ⟨(hb.block _ (by omega)).trans h.b0,(hb.block _ (by omega)).trans h.b1,(hb.block _ (by omega)).trans h.b2,(hb.block _ (by omega)).trans h.b3,(hb.block _ (by omega)).trans h.b4,h.below.trans (hb.mono (by omega))⟩
theorem qKV {W0 W W':World} {row:Option Nat} {g:Nat} (h:W0.grownBy W (some g)) (hg:W.grownBy W' row) (hr:∀r,row=some r->W0.heap.size<=r):W0.grownBy W' (some g):=
 ⟨hg.os.trans h.os,hg.tape.trans h.tape,hg.output.trans h.output,Nat.le_trans h.size hg.size,λk hk hne=>(hg.block k (Nat.lt_of_lt_of_le hk h.size) (λe=>by have:=hr k e.symm;omega)).trans (h.block k hk hne)⟩
theorem qGJ {W0 W:World} {g B:Nat} (h:W0.grownBy W (some g)) (hB:B<=g) (hB2:B<=W0.heap.size):Below B W0 W:=
 ⟨h.os,h.tape,h.output,h.size,λk hk=>h.block k (by omega) (λe=>by injection e with e;omega)⟩
theorem qHi {W0 W:World} {g n:Nat} (h:W0.grownBy W (some g)) (u:Value):W0.grownBy ((W.drewN n).setCell ⟨g,0,none⟩ u) (some g):=
 ⟨h.os,h.tape,h.output,by simpa[World.setCell]using h.size,λk hk hne=>(Below.heap_setCell _ _ _ _ (λe=>hne (by rw[e]))).trans (h.block k hk hne)⟩
theorem qHj {W:World} {B n:Nat} {v u:Value} {t:TypeId} (h:W.heap[B]? =some (.cells #[v] t)):((W.drewN n).setCell ⟨B,0,none⟩ u).heap[B]? =some (.cells #[u] t):=by
 have b:(W.drewN n).heap[B]? =some (.cells #[v] t):=h;simp only[World.setCell,Array.getElem?_modify,b];simp
theorem qFG (W:World) (n:Nat) (a:Addr) (v:Value):KeepsOthers W ((W.drewN n).setCell a v):=
 (show KeepsOthers W (W.drewN n)from⟨Nat.le_refl _,λ_ _ h _=>h⟩).trans (KeepsOthers.setCell _ _ _)
theorem qFX (n₀:Nat) (Bs:List Nat) (W:World) (n:Nat) (g:Nat) (v:Value) (hg:n₀<=g) (hB:∀B∈Bs,B≠g):Kept n₀ Bs W ((W.drewN n).setCell ⟨g,0,none⟩ v):=
 ⟨(qAF (Below.refl _ W) n).setCell (p:=⟨g,0,none⟩) hg v,λB hb=>Below.heap_setCell _ _ _ _ (hB B hb)⟩
theorem qBY {P:Program} {f:FuncId} {args:Array Value} {W:World} {n:Nat} {v:Value} (h:Calls P f args (W.drewN n) λe w'=>e= .returned v/\W.drewN n=w'):
  Calls P f args (W.drewN n) λe w''=>e= .returned v/\∃m,w''=W.drewN m:=h.mono λ_ _ ⟨he,hw⟩=>⟨he,n,hw.symm⟩
def qNe (f b:List Int) (A A':Option Addr) (c c':Nat) (dir:Int) (mk pk:Nat) (M K:Int->Int->Int) (w:World) (a:Act) (wr:World):Prop:=
 ∃(k:Nat) (ds:List Deferred) (u11 u12 u13 u14 u15 u16 u20 u21 u22 u23 u24 u25 u26 u27 u28 u29 u30 u31 u32 u33 u34 u35 u36 u37 u38 u39 u40 u41 u42 u43 u44 u45 u46 u47 u48 u49 u50 u51 u52 u53 u54 u55 u56:Value),a={tmps:=#[.slice A f.length c,.slice A' b.length c',.int .i64 dir,.func (.func mk) #[] #[],.func (.func pk) #[] #[],.pointer (some ⟨w.heap.size,0,none⟩),.pointer (some ⟨w.heap.size+1,0,none⟩),.pointer (some ⟨w.heap.size+1+1,0,none⟩),.pointer (some ⟨w.heap.size+1+1+1,0,none⟩),.pointer (some ⟨w.heap.size+1+1+1+1,0,none⟩),.slice none 0 0,u11,u12,u13,u14,u15,u16,.slice A f.length c,.int .i64 f.length,.int .i64 k,u20,u21,u22,u23,u24,u25,u26,u27,u28,u29,u30,u31,u32,u33,u34,u35,u36,u37,u38,u39,u40,u41,u42,u43,u44,u45,u46,u47,u48,u49,u50,u51,u52,u53,u54,u55,u56],defers:=ds}/\k<=f.length∧
  PickEnv w (.slice A f.length c) (.slice A' b.length c') dir mk pk wr/\Marks (w.heap.size+5) wr ds∧
  wr.ownsRow (w.heap.size+5) 3 1 u11 (qB7 f b dir M K k).length ((qB7 f b dir M K k).map vint)
theorem qLW (f b:List Int) (A A':Option Addr) (c c':Nat) (dir:Int) (mk pk:Nat) (w:World):
  PickEnv w (.slice A f.length c) (.slice A' b.length c') dir mk pk (((((w.alloc (.cells #[.slice A f.length c] 22)).alloc (.cells #[.slice A' b.length c'] 22)).alloc (.cells #[.int .i64 dir] 3)).alloc (.cells #[.func (.func mk) #[] #[]] 69)).alloc (.cells #[.func (.func pk) #[] #[]] 69)):=by
 refine⟨?_,?_,?_,?_,?_,(alc4 w _ _ _ _).alloc (by simp;omega) _⟩
 ·exact(Below.heap_alloc _ _ _ (by simp<;>omega)).trans ((Below.heap_alloc _ _ _ (by simp<;>omega)).trans ((Below.heap_alloc _ _ _ (by simp<;>omega)).trans ((Below.heap_alloc _ _ _ (by simp)).trans (heap_alloc_new _ _))))
 ·exact(Below.heap_alloc _ _ _ (by simp<;>omega)).trans ((Below.heap_alloc _ _ _ (by simp<;>omega)).trans ((Below.heap_alloc _ _ _ (by simp)).trans (by have h:=heap_alloc_new (w.alloc (.cells #[.slice A f.length c] 22)) (.cells #[.slice A' b.length c'] 22);rw[World.size_alloc]at h;exact h)))
 ·exact(Below.heap_alloc _ _ _ (by simp<;>omega)).trans ((Below.heap_alloc _ _ _ (by simp)).trans (by have h:=heap_alloc_new ((w.alloc (.cells #[.slice A f.length c] 22)).alloc (.cells #[.slice A' b.length c'] 22)) (.cells #[.int .i64 dir] 3);rw[World.size_alloc,World.size_alloc]at h;exact h))
 ·exact(Below.heap_alloc _ _ _ (by simp)).trans (by have h:=heap_alloc_new (((w.alloc (.cells #[.slice A f.length c] 22)).alloc (.cells #[.slice A' b.length c'] 22)).alloc (.cells #[.int .i64 dir] 3)) (.cells #[.func (.func mk) #[] #[]] 69);rw[World.size_alloc,World.size_alloc,World.size_alloc]at h;exact h)
 ·have h:=heap_alloc_new ((((w.alloc (.cells #[.slice A f.length c] 22)).alloc (.cells #[.slice A' b.length c'] 22)).alloc (.cells #[.int .i64 dir] 3)).alloc (.cells #[.func (.func mk) #[] #[]] 69)) (.cells #[.func (.func pk) #[] #[]] 69);rw[World.size_alloc,World.size_alloc,World.size_alloc,World.size_alloc]at h;exact h

theorem qLX (f b:List Int) (vf vb:Value) (w:World) (hf:Ints w vf f) (hb:Ints w vb b) (dir:Int) (mk pk:Nat) (M K:Int->Int->Int)
  (hfo:qBF f=true) (hbo:qB5 b f.length=true) (hdir:dir=1∨dir= -1)
  (hmk:qAZ Tryz.prog mk) (hpk:qAZ Tryz.prog pk)
  (hM:∀h d W,0<=h/\h<=10000->0<=d/\d<=10000->Calls Tryz.prog mk #[.int .i64 h,.int .i64 d] W (λe w'=>e= .returned (.int .i64 (M h d))/\W=w'))
  (hMn:∀h d,0<=h/\h<=10000->0<=d/\d<=10000->Near (M h d))
  (hK:∀x y W,Near x->Near y->Calls Tryz.prog pk #[.int .i64 x,.int .i64 y] W (λe w'=>e= .returned (.int .i64 (K x y))/\W=w'))
  (hKn:∀x y,Near x->Near y->Near (K x y)):
  Calls Tryz.prog 93 #[vf,vb,.int .i64 dir,.func (.func mk) #[] #[],.func (.func pk) #[] #[]] w λe w'=>∃v',e= .returned v'/\Below w.heap.size w w'∧
   w'.ownsRow w.heap.size 3 1 v' (qB7 f b dir M K f.length).length ((qB7 f b dir M K f.length).map vint):=by
 refine(callsIn_wide (n:=5)).1 ?_;refine callsIn_of_wp_marks Tryz.func93 rfl trivial ?_ rfl;have bP:=Lib.hid hf;have bh:=Lib.hid hb;obtain⟨A,c,rfl,bS,bk,_,hr⟩:=hf;obtain⟨R,T,rfl,bA,aI,_,aV⟩:=hb;unfold maxLen at bk aI;have bt:=Lib.hid hr;have bV:=Lib.hid aV;clear hr aV;simp only[Tryz.ntmps93,List.size_toArray,List.length_cons,List.length_nil,Nat.reduceAdd,Nat.reduceSub,Array.replicate_succ,Array.replicate_zero,List.push_toArray,List.append_toArray,List.nil_append,List.cons_append];gi_wp2;refine wpIn_loop (qNe f b A R c T dir mk pk M K w) (λa _=>f.length - (intOf (a.tmps.getD 19 undef)).toNat) ?start ?round
 case start=>exact⟨0,[],_,_,_,_,_,_,_,_,_,_,_,_,_,_,_,_,_,_,_,_,_,_,_,_,_,_,_,_,_,_,_,_,_,_,_,_,_,_,_,_,_,_,_,rfl,Nat.zero_le _,qLW f b A R c T dir mk pk w,trivial,World.ownsRow_nil _ _ _ _⟩
 case round=>
  rintro a wr ⟨k,ds,u11,u12,u13,u14,u15,u16,u20,u21,u22,u23,u24,u25,u26,u27,u28,u29,u30,u31,u32,u33,u34,u35,u36,u37,u38,u39,u40,u41,u42,u43,u44,u45,u46,u47,u48,u49,u50,u51,u52,u53,u54,u55,u56,rfl,hk,ao,hm,aj⟩;have⟨G,a0,E⟩:=hyd3 ao hm aj;have bY:=ao.lt
  have aw:3<=f.length/\f.length<=96/\f.all qDS=true:=by
   unfold qBF at hfo;simp only[Bool.and_eq_true,decide_eq_true_eq]at hfo;exact⟨hfo.1,hfo.2.1,hfo.2.2⟩
  have av:b.length%2=1/\b.length<=31/\b.all qDS=true:=by
   unfold qB5 at hbo;simp only[Bool.and_eq_true,decide_eq_true_eq]at hbo;exact⟨hbo.1,hbo.2.2.1,hbo.2.2.2.1⟩
  obtain⟨bQ,bR,aL⟩:=aw;obtain⟨aE,bN,aF⟩:=av;have⟨aM,aG⟩:=hyd2 aL aF;have bj:=Lib.hid aE;clear ao hm aj aL aF aE hfo hbo
  by_cases bT:k<f.length
  ·have c1:∀o o',((wr.alloc o).alloc o').cell? ⟨w.heap.size+1,0,none⟩=some (.slice R b.length T):=λo o'=>
    (World.cell?_alloc_past _ _ _ (by simp;omega)).trans ((World.cell?_alloc_past _ _ _ (by omega)).trans (qAH G.out.b1))
   gi_wp2_with (refine⟨trivial,?_⟩;gi_at_call 113;refine(callsIn_wide.2 (qKS _ _ _ _)).mono ?_;rintro e w' ⟨rfl,rfl⟩);obtain⟨S,C⟩:∃S,(((wr.alloc (.cells #[.int .i64 k] 3)).alloc (.cells #[.int .i64 0] 3)).alloc (.cells #[.slice R b.length T] 22))=S:=⟨_,rfl⟩;rw[C];have bX:S.heap.size=wr.heap.size+1+1+1:=by rw[<-C];simp
   have V:Below wr.heap.size wr S:=by rw[<-C];exact alc3 _ _ _ _
   have hP:S.heap[wr.heap.size]? =some (.cells #[.int .i64 k] 3):=by
    rw[<-C];exact(Below.heap_alloc _ _ _ (by simp<;>omega)).trans ((Below.heap_alloc _ _ _ (by simp)).trans (heap_alloc_new _ _))
   have Z:S.heap[wr.heap.size+1]? =some (.cells #[.int .i64 0] 3):=by
    rw[<-C];exact(Below.heap_alloc _ _ _ (by simp)).trans (by have h:=heap_alloc_new (wr.alloc (.cells #[.int .i64 k] 3)) (.cells #[.int .i64 0] 3);rw[World.size_alloc]at h;exact h)
   have hO:S.heap[wr.heap.size+1+1]? =some (.cells #[.slice R b.length T] 22):=by
    rw[<-C];have h:=heap_alloc_new ((wr.alloc (.cells #[.int .i64 k] 3)).alloc (.cells #[.int .i64 0] 3)) (.cells #[.slice R b.length T] 22);rw[World.size_alloc,World.size_alloc]at h;exact h
   have af:PickEnv w (.slice A f.length c) (.slice R b.length T) dir mk pk S:=G.out.keep (V.mono (by omega));clear C c1;have t:=qG9 b (.slice R b.length T) w S (wr.heap.size+1+1) (w.heap.size+5) bh.out (by omega) (by omega) (by omega) (by omega) af.below (qAH hO);refine wpIn_rangeFunc_ownF rfl (by omega) (gf:=119) (lb:=#[.pointer (some ⟨wr.heap.size+1+1,0,none⟩)]) rfl trivial (enters_of Tryz.func119 (by kernel_rfl) rfl)
    t Kept.trans (Kept.put (by omega) (by simp;omega)) (Below.refl _ _) (λ_=>rfl)
    (λB W=>S.grownBy W (some (wr.heap.size+1))/\W.heap[wr.heap.size+1]? =some (.cells #[.int .i64 (qBm b.length (qBc f b dir M k) K B)] 3)/\Near (qBm b.length (qBc f b dir M k) K B))
    (λ_ _ _=>False)
    ?own (λ_ _ _ _ _ hs _ _=>hs) ⟨World.grownBy.refl _ _,Z,by unfold Near;simp[qBm]⟩
    (λx=>{tmps:=#[.slice A f.length c,.slice R b.length T,.int .i64 dir,.func (.func mk) #[] #[],.func (.func pk) #[] #[],.pointer (some ⟨w.heap.size,0,none⟩),.pointer (some ⟨w.heap.size+1,0,none⟩),.pointer (some ⟨w.heap.size+1+1,0,none⟩),.pointer (some ⟨w.heap.size+1+1+1,0,none⟩),.pointer (some ⟨w.heap.size+1+1+1+1,0,none⟩),.slice none 0 0,u11,.pointer (some ⟨wr.heap.size,0,none⟩),.pointer (some ⟨wr.heap.size+1,0,none⟩),.int .i64 ((x.1:Int) - (b.length:Int) / 2),.int .i64 b[x.1],u16,.slice A f.length c,.int .i64 f.length,.int .i64 k,.bool true,.int .i64 k,.slice R b.length T,.func (.func 119) #[] #[.pointer (some ⟨wr.heap.size+1+1,0,none⟩)],.int .i64 ((x.1:Int) - (b.length:Int) / 2),.int .i64 b[x.1],u26,u27,u28,u29,u30,u31,u32,u33,u34,u35,u36,u37,u38,u39,u40,u41,u42,u43,u44,u45,u46,u47,u48,u49,u50,u51,u52,u53,u54,u55,u56],defers:=[]}) ?assign ?body ?done ?stop
   case own=>
    rintro s X Y bZ ⟨h1,h2,h3⟩ I ak;refine⟨qKV h1 I λr e=>(ak r e).1,?_,h3⟩;rw[I.block (wr.heap.size+1) ((gsl h2)) (λe=>by have:=(ak _ e.symm).1;omega)];exact h2
   case assign=>
    intro l x W K hK;dsimp only[qKR];gi_wp2;exact hK
   case body=>
    rintro l B x W ⟨I,g,m⟩ bB;have bg:=I.size;have i:=af.keep (qGJ I (by omega) (by omega));have e0:=qAH i.b0;have e1:=qAH i.b1;have e2:=qAH i.b2;have e3:=qAH i.b3;have e4:=qAH i.b4;have ep:=qAH ((I.block wr.heap.size (by omega) (by simp)).trans hP);have es:=qAH g;have ef:=qAK g 0;have hx:=x.2;obtain⟨jj,ab⟩:∃jj:Int,(x.1:Int) - (b.length:Int) / 2=jj:=⟨_,rfl⟩;obtain⟨yy,ad⟩:∃yy:Int,b[x.1]=yy:=⟨_,rfl⟩
    have aX:0<=yy/\yy<=10000:=by
     have:=List.all_eq_true.1 aG.out _ (List.getElem_mem hx);rw[ad]at this;exact within_iff.1 this
    obtain⟨dj,bo⟩:∃dj:Int,dir*jj=dj:=⟨_,rfl⟩;have aN: -16<=jj/\jj<=16:=by omega
    have aJ: -16<=dj/\dj<=16:=by rcases hdir with rfl|rfl<;>omega
    have br:=Int.emod_nonneg ((k:Int)+dj) (show(f.length:Int)≠0 by omega);have bs:=Int.emod_lt_of_pos ((k:Int)+dj) (show(0:Int)<(f.length:Int)by omega);obtain⟨q,hq⟩:∃q:Nat,((k:Int)+dj)%(f.length:Int)=(q:Int):=⟨(((k:Int)+dj)%(f.length:Int)).toNat,by omega⟩;have a1:q<f.length:=by omega
    obtain⟨bf,ag,rfl,bi,aH⟩:=bt.out (by omega);have bl:W.cell? ⟨bf,ag+q,none⟩=some (.int .i64 f[q]):=(i.below.cell (p:=⟨bf,ag+q,none⟩) bi).trans (aH q a1);have ay:0<=f[q]/\f[q]<=10000:=within_iff.1 (List.all_eq_true.1 aM.out _ (List.getElem_mem a1))
    have au:qBc f b dir M k x.1=M f[q] yy:=by
     unfold qBc;rw[ab,bo,hq];simp[a1,hx,ad]
    have F:=qJ3 b.length (qBc f b dir M k) K B x;unfold qCn at F;rw[au,ab]at F;generalize f[q]=hh at bl ay au F;have aa:=hMn hh yy ay aX;have ar:=λW=>hM hh yy W ay aX;obtain⟨xv,a3⟩:∃xv,M hh yy=xv:=⟨_,rfl⟩;rw[a3]at F aa;simp only[a3]at ar;obtain⟨sv,aW⟩:∃sv,qBm b.length (qBc f b dir M k) K B=sv:=⟨_,rfl⟩;rw[aW]at F m es;rw[ab,ad];have i1:(0:Int)<=(q:Int):=by omega
    have i2:(q:Int)<(f.length:Int):=by omega
    have aT:=hmk;have aU:=hpk;unfold qAZ at aT aU;have⟨al,ax⟩:=hyd2 F I;have aq:=λW=>hK sv xv W m aa;have aB:=hKn sv xv m aa;obtain⟨kv,ac⟩:∃kv,K sv xv=kv:=⟨_,rfl⟩;rw[ac]at aB;simp only[ac]at aq;have⟨aO,ai,aC⟩:=hyd3 ac ar aq;have b8:=aN.1;have b9:=aN.2;have b6:=aJ.1;have b7:=aJ.2;have⟨H,bM,bz,bL⟩:=hyd4 g hP Z hO;have aK:∀(W3:World) (z:Int),W3=W.setCell ⟨wr.heap.size+1,0,none⟩ (.int .i64 z)∨(∃n,W3=(W.drewN n).setCell ⟨wr.heap.size+1,0,none⟩ (.int .i64 z))->True:=λ_ _ _=>trivial;clear F g hP Z hO au a3 aW ac ar aq aH br bs ab ad aK t i
    by_cases L:jj= -((b.length:Int) / 2)
    ·have bp:(jj== -((b.length:Int) / 2))=true:=by simpa using L
     have v:qBm b.length (qBc f b dir M k) K (B++[x])=xv:=by rw[al.out,if_pos L]
     have j:=hyd1 v;clear v L;gi_wp2;refine qBw (by kernel_rfl) (by kernel_rfl) (by kernel_rfl) ?_
     repeat (go_big_quiet_step ((first | (go_at_call 114;exact qBY (qFF _ _ _ (by omega) (by omega) (by unfold Mid;omega)))|exact qBY (ai.out _))))
     refine wpQuiet_nil ?_;intro _ a2;obtain⟨nq,P⟩:=a2;subst P;gi_wp2;refine⟨qFG _ _ _ _,qFX _ _ _ _ _ _ (by omega) (by simp),qHi ax.out _,?_,?_⟩
     ·rw[j.out];exact qHj H.out
     ·rw[j.out];exact aa
    ·have bp:(jj== -((b.length:Int) / 2))=false:=by simpa using L
     have v:qBm b.length (qBc f b dir M k) K (B++[x])=kv:=by rw[al.out,if_neg L,aO.out]
     have j:=hyd1 v;clear v L;gi_wp2;refine qBw (by kernel_rfl) (by kernel_rfl) (by kernel_rfl) ?_
     repeat (go_big_quiet_step ((first | (go_at_call 114;exact qBY (qFF _ _ _ (by omega) (by omega) (by unfold Mid;omega)))|exact qBY (ai.out _))))
     refine wpQuiet_nil ?_;intro _ a2;obtain⟨nq,P⟩:=a2;subst P;gi_wp2_with (refine⟨trivial,?_⟩;refine(CallsIn.inRound l (callsIn_wide.2 (aC.out _))).mono ?_;rintro e w' ⟨rfl,rfl⟩);refine⟨qFG _ _ _ _,qFX _ _ _ _ _ _ (by omega) (by simp),qHi ax.out _,?_,?_⟩
     ·rw[j.out];exact qHj H.out
     ·rw[j.out];exact aB
   case done=>
    rintro D ys W hD rfl ⟨I,g,m⟩ a9
    have N:=(qAN E.out (V.mono (Nat.le_refl _))).kept I (by
     by_cases hn:u11.ownBlock=none
     ·exact .inl hn
     ·refine .inr λhe=>?_;have:=(E.out.lt _ he).2
      omega)
    have bg:=I.size;have b5:=qAH g;have be:Below (w.heap.size+5) wr W:=(V.mono (by omega)).trans (qGJ I (by omega) (by omega))
    have aQ:Marks (w.heap.size+5) W ds:=a0.out.keep λU _ h'=>by
     have aP:=(gsl h');rw[I.block U (by omega) (λe=>by injection e with e;omega),V.block U aP];exact h'
    have ah:∀d'∈ds,d'≠({target:= .collected D,args:=#[]}:Deferred):=by
     intro d' bn e;subst e
     have:∀(l:List Deferred),Marks (w.heap.size+5) wr l->({target:= .collected D,args:=#[]}:Deferred)∈l->D<wr.heap.size:=by
      intro l
      induction l with
      | nil=>intro _ h;cases h
      | cons x r ih=>
       rintro⟨⟨D1,rfl,_,h1,_⟩,hr⟩ aS
       rcases List.mem_cons.1 aS with h|h
       ·have:D=D1:=by injection h with h _;injection h
        subst this;exact(gsl h1)
       ·exact ih hr h
     have:=this ds a0.out bn;omega
    have⟨aR,ap,aA⟩:=hyd3 aQ ah a9;have O:=Lib.hid N;have ax:=hyd1 I;clear aQ ah a9 N I m g t hP Z hO;gi_wp2_with (first | (gi_at_builtin;go_must (refine qIH rfl _ _ 22 rfl (w.heap.size+5) 3 qAc u11 (qB7 f b dir M K k) rfl (O.out.alloc _) _ [qBm b.length (qBc f b dir M k) K (List.finRange b.length)] rfl (qEi _ _ _) (by rw[qE9];simp;omega) (by simp;omega) ?_)));intro v2 w2 h1 h2 h3 _;have bc:=hyd1 h1;clear h1;have aD:Below (w.heap.size+5) wr (W.alloc (.cells #[.int .i64 (qBm b.length (qBc f b dir M k) K (List.finRange b.length))] 3)):=be.alloc (by omega) _;have bd:Below (w.heap.size+5) wr w2:=aD.trans h2
    have Q:∀U:Nat,W.heap[U]? =some (Obj.deferred (some []))->w2.heap[U]? =some (Obj.deferred (some [])):=λU hd=>by
     have bq:=(gsl hd);rw[h3.block U (by simp;omega) (qI3 O.out hd),Below.heap_alloc _ _ _ bq];exact hd
    have⟨J,bK,bJ⟩:=hyd3 Q h3 h2;clear Q h3 h2 aD;gi_wp2;refine⟨⟨k+1,{target:= .collected D,args:=#[]}::ds,_,_,_,_,_,_,_,_,_,_,_,_,_,_,_,_,_,_,_,_,_,_,_,_,_,_,_,_,_,_,_,_,_,_,_,_,_,_,_,_,_,_,_,rfl,by omega,G.out.keep bd,⟨⟨D,rfl,by omega,J.out D aA.out,ap.out⟩,aR.out.keep λU _ h=>J.out U h⟩,?_⟩,?_⟩
    ·have h:=bc.out;rw[qI9,List.length_append,List.map_append];exact h
    ·simp[intOf];omega
   case stop=>
    rintro D cc B W _ _ h _;exact h.elim
  ·obtain rfl:k=f.length:=by omega
   gi_wp2;refine qAf (w.heap.size+5) ds wr a0.out λw' hb az=>?_;exact⟨_,results_tmp rfl _ _ _,u11,rfl,G.out.below.trans (hb.mono (by omega)),qBv (qFW E.out az) (by omega)⟩
end Go.Proofs.YtbcbcdgbliheoaaGreat
namespace Go.Proofs.YtbcbcdgbliheoaaGreat
set_option maxRecDepth 100000
set_option maxHeartbeats 4000000
open Go.RowKit
set_option linter.unusedVariables false
set_option linter.unusedSimpArgs false

def qDi (h d:Int):Int:=h - d
def qCx (x y:Int):Int:=if x<y then y else x
def qAP (f b:List Int):List Int:=qB7 f b 1 qDi qCx f.length
theorem qAQ (f b:List Int):(qAP f b).length =f.length:=qE9 _ _ _ _ _ _
def qBx (f b:List Int):Int:=if qBF f then(if qB5 b f.length then 0 else 31)else 30

theorem qKA (vf vb:Value) (f b:List Int) (w:World) (hf:Ints w vf f) (hb:Ints w vb b):
  Calls Tryz.prog 92 #[vf,vb] w λe w'=>e= .returned (.int .i64 (qBx f b))/\w=w':=by
 have g:=Lib.hid hf;have k:=Lib.hid hb;obtain⟨A,c,rfl,m,l,_,n⟩:=hf;unfold maxLen at l;clear n hb;unfold qBx;obtain⟨B,h⟩:∃B,qBF f=B:=⟨_,rfl⟩;obtain⟨C,i⟩:∃C,qB5 b f.length=C:=⟨_,rfl⟩;rw[h,i];have⟨d,j⟩:=hyd2 h i;clear h i
 cases B with
 | false=>
  go_enter Tryz.func92,Tryz.ntmps92;go_wp2_with (first | (go_at_call 48;refine(qAp _ f _ g.out false d.out).mono ?_;rintro e w' ⟨rfl,rfl⟩));go_ret;exact⟨rfl,rfl⟩
 | true=>
  cases C
  all_goals
   go_enter Tryz.func92,Tryz.ntmps92;go_wp2_with (first | (go_at_call 48;refine(qAp _ f _ g.out true d.out).mono ?_;rintro e w' ⟨rfl,rfl⟩)| (go_at_call 49;refine(qAl _ b _ _ k.out _ j.out).mono ?_;rintro e w' ⟨rfl,rfl⟩));go_ret;exact⟨rfl,rfl⟩
theorem qKW (h d:Int) (W:World) (hh:0<=h/\h<=10000) (hd:0<=d/\d<=10000):Calls Tryz.prog 94 #[.int .i64 h,.int .i64 d] W λe w'=>e= .returned (.int .i64 (qDi h d))/\W=w':=by
 obtain⟨b,c⟩:=hh;obtain⟨f,g⟩:=hd;go_enter Tryz.func94,Tryz.ntmps94;go_wp2;go_ret;exact⟨rfl,rfl⟩
theorem qKX (x y:Int) (W:World):Calls Tryz.prog 95 #[.int .i64 x,.int .i64 y] W λe w'=>e= .returned (.int .i64 (qCx x y))/\W=w':=by
 unfold qCx
 by_cases h:x<y
 ·rw[if_pos h];go_enter Tryz.func95,Tryz.ntmps95;go_wp2;go_ret;exact⟨rfl,rfl⟩
 ·rw[if_neg h];have b:y<=x:=by omega
  go_enter Tryz.func95,Tryz.ntmps95;go_wp2;go_ret;exact⟨rfl,rfl⟩
theorem qLY (vf vb:Value) (f b:List Int) (w:World) (hf:Ints w vf f) (hb:Ints w vb b) (hfo:qBF f=true) (hbo:qB5 b f.length=true):
  Calls Tryz.prog 77 #[vf,vb] w λe w'=>∃v',e= .returned v'/\Below w.heap.size w w'/\w'.ownsRow w.heap.size 3 1 v' (qAP f b).length ((qAP f b).map vint):=by
 have k:=Lib.hid hf;have j:=Lib.hid hb;obtain⟨A,c,rfl,p,o,_,q⟩:=hf;obtain⟨r,s,rfl,n,m,_,l⟩:=hb;clear q l;go_enter Tryz.func77,Tryz.ntmps77;go_wp2_with (first | (go_at_call 93;refine(qLX f b _ _ _ k.out j.out 1 94 95 qDi qCx hfo hbo (.inl rfl) (λ_ _=>by kernel_rfl) (λ_ _=>by kernel_rfl) (λh d W g i=>qKW h d W g i) (λh d g i=>by unfold Near qDi;omega) (λx y W _ _=>qKX x y W) (λx y g i=>by unfold Near qCx at*;split<;>omega)).mono ?_;rintro e w' ⟨v',rfl,g,i⟩));go_ret;exact⟨v',rfl,g,i⟩
theorem qMc (g:Nat) (G:List Int->List Int->List Int) (vf vb:Value) (f b:List Int) (w:World) (ba:Nat) (hf:Ints w vf f) (hb:Ints w vb b) (hba:ba<w.heap.size)
  (hc:w.cell? ⟨ba,0,none⟩=some (.func (.func g) #[] #[])) (hg:qAZ Tryz.prog g) (hgl:(G f b).length =f.length)
  (hG:∀(vf' vb':Value) (W:World),Ints W vf' f->Ints W vb' b->qBF f=true->qB5 b f.length=true->Calls Tryz.prog g #[vf',vb'] W λe w'=>∃v',e= .returned v'/\Below W.heap.size W w'/\w'.ownsRow W.heap.size 3 1 v' (G f b).length ((G f b).map vint))
  (E:Int) (hE:qBx f b=E):
  Calls Tryz.prog 76 #[vf,vb,.slice (some ⟨ba,0,none⟩) 1 1] w λe w'=>∃v',e= .returned (.tuple #[v',.int .i64 E])/\Below w.heap.size w w'∧
   (E=0->w'.ownsRow w.heap.size 3 1 v' (G f b).length ((G f b).map vint))/\(E≠0->v'= .slice none 0 0):=by
 have m:=Lib.hid hf;have l:=Lib.hid hb;obtain⟨A,c,rfl,F,D,_,I⟩:=hf;obtain⟨J,L,rfl,C,B,_,y⟩:=hb;have x:=hg;unfold qAZ at x;have j:=hyd1 hE;clear I y hE
 by_cases p:E=0
 ·have n:qBF f=true/\qB5 b f.length=true:=by
   have:=j.out;unfold qBx at this
   cases z:qBF f<;>cases r:qB5 b f.length<;>simp_all
  subst p;go_enter Tryz.func76,Tryz.ntmps76;go_wp2_with (first | (go_at_call 92;refine(qKA _ _ f b _ m.out l.out).mono ?_;rintro e w' ⟨rfl,rfl⟩;rw[j.out]));go_loopw [19,0] (λi s wr=>∃k:Nat,k<=1/\i= .int .i64 k/\Below w.heap.size w wr/\Hid ((k=0->s= .slice A f.length c/\wr=w)/\(k=1->wr.ownsRow w.heap.size 3 1 s (G f b).length ((G f b).map vint)))) (λi _ _=>1 - (intOf i).toNat)
  case atStart=>exact⟨0,by omega,rfl,Below.refl _ _,⟨λ_=>⟨rfl,rfl⟩,λh=>absurd h (by omega)⟩⟩
  case round=>
   obtain⟨k,M,rfl,v,d⟩:=hrel
   obtain rfl|rfl:k=0∨k=1:=by omega
   ·obtain⟨rfl,rfl⟩:=d.out.1 rfl;clear d;go_wp2_with (first | (refine(hG _ _ _ m.out l.out n.1 n.2).mono ?_;rintro e w' ⟨v',rfl,z,r⟩;have t:=Lib.hid r;clear r));go_roundw
    case rel=>exact⟨1,by omega,by go_num,z,⟨λh=>absurd h (by omega),λ_=>t.out⟩⟩
    case measure=>simp[intOf]
   ·have o:=Lib.hid (d.out.2 rfl);clear d;go_wp2;go_ret2;exact⟨_,rfl,v,λ_=>o.out,λh=>absurd rfl h⟩
 ·have H:(E != 0)=true:=by simpa using p
  have q:=hyd1 p;clear p;go_enter Tryz.func76,Tryz.ntmps76;go_wp2_with (first | (go_at_call 92;refine(qKA _ _ f b _ m.out l.out).mono ?_;rintro e w' ⟨rfl,rfl⟩;rw[j.out]));go_ret2;exact⟨_,rfl,Below.refl _ _,λh=>absurd h q.out,λ_=>rfl⟩
theorem qGK (vf vb:Value) (f b:List Int) (w:World) (hf:Ints w vf f) (hb:Ints w vb b) (E:Int) (hE:qBx f b=E):
  Calls Tryz.prog 51 #[vf,vb] w λe w'=>∃v',e= .returned (.tuple #[v',.int .i64 E])/\Below w.heap.size w w'∧
   (E=0->w'.ownsRow w.heap.size 3 1 v' (qAP f b).length ((qAP f b).map vint))/\(E≠0->v'= .slice none 0 0):=by
 have l:=Lib.hid hf;have k:=Lib.hid hb;obtain⟨A,c,rfl,t,s,_,v⟩:=hf;obtain⟨x,y,rfl,q,p,_,m⟩:=hb;clear v m;have j:=hyd1 hE;clear hE;go_enter Tryz.func51,Tryz.ntmps51;go_wp2_with (first | (go_at_call 76;refine(qMc 77 qAP _ _ f b _ w.heap.size (l.out.below (alc1 _ _)) (k.out.below (alc1 _ _)) (by simp) (World.cell?_alloc_at _ _ _ _ rfl) (λ_ _=>by kernel_rfl) (qAQ f b) (λo n W d g i r=>qLY o n f b W d g i r) E j.out).mono ?_;rintro e w' ⟨v',rfl,d,g,i⟩));go_ret2;exact⟨v',rfl,(alc1 _ _).trans (d.mono (by simp)),λh=>qBv (g h) (by simp),i⟩
def qAv (f:List Int) (s:Nat):List Int:=f.drop (f.length - s)++f.take (f.length - s)
theorem qEA (f:List Int) (s:Nat):(qAv f s).length =f.length:=by simp[qAv]
theorem qKB (w:World) (x y:Value) (e:TypeId):Arr id (w.alloc (.cells #[x,y] e)).drew (.slice (some ⟨w.heap.size,0,none⟩) 2 2) [x,y]:=
 ⟨some ⟨w.heap.size,0,none⟩,2,rfl,by simp,by simp[maxLen],λh=>by simp at h,λ_=>⟨w.heap.size,0,rfl,by simp[World.drew],λj hj=>by
  have h:(w.alloc (.cells #[x,y] e)).cell? ⟨w.heap.size,0+j,none⟩=some (id [x,y][j]):=by
   rw[World.cell?_alloc_at _ _ _ _ rfl,Nat.zero_add];simp at hj;rw[Array.getElem?_eq_getElem (by simpa using hj)];simp
  exact h⟩⟩
theorem qLZ (v:Value) (f:List Int) (s:Nat) (w:World) (hv:Ints w v f) (hs:s<=f.length) (hl:f.length<=1000) (hl0:0<f.length):
  Calls Tryz.prog 96 #[v,.int .i64 s] w λe w'=>∃v',e= .returned v'/\Below w.heap.size w w'/\w'.ownsRow w.heap.size 3 1 v' (qAv f s).length ((qAv f s).map vint):=by
 have p:=Lib.hid hv;obtain⟨A,c,rfl,J,t,_,L⟩:=hv;unfold maxLen at t;clear L;obtain⟨k,I⟩:∃k:Nat,(f.length:Int) - (s:Int)=(k:Int):=⟨f.length - s,by omega⟩;have l:k<=f.length:=by omega
 have O:=λW=>qD7 (qAc:qAd Tryz.prog 22 3 (.int .i64 0) 8) A f.length c k l W;have S:=λW=>qBt (qAc:qAd Tryz.prog 22 3 (.int .i64 0) 8) A f.length c k (by omega) W;have m:f.length - s=k:=by omega
 have N:IntKind.i64.wrap ((f.length:Int) - (s:Int))=(k:Int):=by rw[I];exact IntWalk.i64_in _ (by omega)
 have b:=p.out.cut k f.length l (Nat.le_refl _);have d:=p.out.cut 0 k (Nat.zero_le _) l
 have x:cutA A c 0=A:=by
  unfold cutA
  split
  ·rfl
  ·cases A<;>simp[Addr.add]
 rw[x,Nat.sub_zero,Nat.sub_zero,List.drop_zero]at d;have y:(f.drop k).take (f.length - k)=f.drop k:=List.take_of_length_le (by simp);rw[y]at b;generalize hX:cutA A c k=X at O b;have⟨z,B,E⟩:=hyd3 b d m;have g:(qAv f s)=[f.drop k,f.take k].flatten :=by simp[qAv,m]
 have F:=hyd1 g
 have i:[f.drop k,f.take k].flatten.length <=1000000:=by
  rw[<-g,qEA];omega
 rw[g];have D:=hyd1 i
 have n:∀(q:Value) (W:World),Arr id W q [.slice X (f.length - k) (c - k),.slice A k c]->Below w.heap.size w W->Calls Tryz.prog 79 #[q] W λe w'=>∃v',e= .returned v'/\Below W.heap.size W w'/\w'.ownsRow W.heap.size 3 1 v' [f.drop k,f.take k].flatten.length ([f.drop k,f.take k].flatten.map vint):=by
  intro q W r C;refine qHh q _ [f.drop k,f.take k] W r rfl (λj h G=>?_) i (by simp)
  match j,h,G with
  | 0,_,_=>exact b.below C
  | 1,_,_=>exact d.below C
 have o:=hyd1 n;clear m b d x y hX g i n;have M:IntKind.i64.wrap (k:Int)=(k:Int):=IntWalk.i64_in _ (by omega);have P:(0:Int)<=(k:Int):=by omega
 have Q:(k:Int)<=(f.length:Int):=by omega
 have R:(k:Int)<=(c:Int):=by omega
 go_enter Tryz.func96,Tryz.ntmps96;go_wp2
 go_region_held3 (λ_=>True) (go_keep) (first | (go_at_call 79;refine(o.out _ _ (qKB _ _ _ _) (by first |exact(alc1 _ _).drew)).mono ?_;rintro e w' ⟨v',rfl,r,H⟩))
 go_wp2;go_ret;exact⟨v',rfl,(alc1 _ _).drew.trans (r.mono (by simp)),qBv H (by simp)⟩
def qCS (f g:List Int) (k:Nat):List Nat:=(List.range k).filter λs=>qAv f s==g
def qA8 (f g:List Int) (k:Nat):List Int:=(qCS f g k).map λ(s:Nat)=>(s:Int)
theorem qIa (f g:List Int) (k:Nat) (h:(qAv f k==g)=true):qA8 f g (k+1)=qA8 f g k++[(k:Int)]:=by
 simp[qA8,qCS,List.range_succ,List.filter_append,h]
theorem qIK (f g:List Int) (k:Nat) (h:(qAv f k==g)=false):qA8 f g (k+1)=qA8 f g k:=by
 simp[qA8,qCS,List.range_succ,List.filter_append,h]
theorem qGL (f g:List Int) (k:Nat):(qA8 f g k).length <=k:=by
 have:=List.length_filter_le (λs=>qAv f s==g) (List.range k);simpa[qA8,qCS]using this
theorem qKY (v v':Value) (f g:List Int) (w:World) (hv:Ints w v f) (hv':Ints w v' g) (hl:f.length<=1000):
  Calls Tryz.prog 78 #[v,v'] w λe w'=>∃r,e= .returned r/\Below w.heap.size w w'/\w'.ownsRow w.heap.size 3 1 r (qA8 f g f.length).length ((qA8 f g f.length).map vint):=by
 have G:=Lib.hid hv;have H:=Lib.hid hv';obtain⟨A,c,rfl,O,N,_,R⟩:=hv;clear hv' R;go_enter Tryz.func78,Tryz.ntmps78;go_wp2;go_loopw [9,5] (λi s wr=>∃k:Nat,k<=f.length/\i= .int .i64 k/\Below w.heap.size w wr/\Hid (wr.ownsRow w.heap.size 3 1 s (qA8 f g k).length ((qA8 f g k).map vint))) (λi _ _=>f.length - (intOf i).toNat)
 case atStart=>exact⟨0,by omega,rfl,Below.refl _ _,World.ownsRow_nil _ _ _ _⟩
 case round=>
  obtain⟨k,V,rfl,m,d⟩:=hrel
  by_cases Q:k<f.length
  ·have y:=Lib.hid (G.out.below m);obtain⟨B,M⟩:∃B,(qAv f k==g)=B:=⟨_,rfl⟩;have o:=hyd1 M;have P:=qGL f g k;have E:=m.size;clear M;go_wp2_with fail;refine(qLZ _ f k _ y.out (by omega) hl (by omega)).mono ?_;rintro e z ⟨S,rfl,q,x⟩;have t:=Lib.hid (Arr.of_own x);have p:Below w.heap.size w z:=m.trans (q.mono E);have j:=Lib.hid (qAN d.out q);clear x;go_wp2_with fail;refine(qEj S v' (qAv f k) g z t.out (H.out.below p)).mono ?_;rintro e T ⟨rfl,I,rfl⟩;rw[o.out];have l:=qAF p I;have b:Hid ((z.drewN I).ownsRow _ _ _ _ _ _):=j;have n:=l.size;generalize z.drewN I=T at l b n ⊢;clear d j t p q y
   cases B with
   | true=>
    have F:=Lib.hid (qIa f g k o.out);go_wp2_with (first | (at_builtin;go_must (refine qE1 rfl _ _ 22 rfl w.heap.size 3 qAc _ (qA8 f g k) rfl (b.out.alloc _) _ [(k:Int)] rfl (qEi _ _ _) (by simp;omega) (by simp;omega) ?_)));intro X U J L _ _;have C:=hyd1 J;clear J;have D:Below w.heap.size w U:=(l.alloc n _).trans L;clear L;go_wp2;go_roundw
    case rel=>exact⟨k+1,by omega,by go_num,D,by have h:=C.out;rw[F.out,List.length_append,List.map_append];exact h⟩
    case measure=>simp[intOf];omega
   | false=>
    have F:=Lib.hid (qIK f g k o.out);go_wp2;go_roundw
    case rel=>exact⟨k+1,by omega,by go_num,l,by rw[F.out];exact b⟩
    case measure=>simp[intOf];omega
  ·obtain rfl:k=f.length:=by omega
   go_wp2;go_ret;exact⟨_,rfl,m,d.out⟩
theorem qKZ (f:List Int):qAv f 0=f:=by simp[qAv]
theorem qJ4 (f:List Int) (h:0<f.length):0<(qA8 f f f.length).length :=by
 have:0∈qCS f f f.length:=by simp[qCS,qKZ,h]
 have b:=List.length_pos_of_mem this;simpa[qA8]using b
def qB1 (f:List Int):Nat:=f.length / (qA8 f f f.length).length
theorem qFH (v:Value) (f:List Int) (w:World) (hv:Ints w v f) (hok:qBF f=true):
  Calls Tryz.prog 52 #[v] w λe w'=>e= .returned (.tuple #[.int .i64 (qB1 f),.int .i64 0])/\Below w.heap.size w w':=by
 have b:=Lib.hid hv;obtain⟨A,c,rfl,l,h,_,n⟩:=hv;clear n
 have o:3<=f.length/\f.length<=96:=by
  unfold qBF at hok;simp only[Bool.and_eq_true,decide_eq_true_eq]at hok;exact⟨hok.1,hok.2.1⟩
 have p:=qJ4 f (by omega);have m:=qGL f f f.length;have k:((f.length:Int) / ((qA8 f f f.length).length :Int))=((qB1 f:Nat):Int):=by unfold qB1;simp
 have i:qB1 f<=f.length:=Nat.div_le_self f.length (qA8 f f f.length).length;unfold maxLen at h;go_enter Tryz.func52,Tryz.ntmps52;go_wp2_with (first | (go_at_call 48;refine(qAp _ f _ b.out true hok).mono ?_;rintro e w' ⟨rfl,rfl⟩)| (go_at_call 78;refine(qKY _ _ f f _ b.out b.out (by omega)).mono ?_;rintro e t ⟨r,rfl,g,d⟩;obtain⟨q,s,rfl,_,j,_,_⟩:=Arr.of_own d;clear d;unfold maxLen at j));go_ret2;exact⟨rfl,g⟩
def qCj (N:Nat) (X:Nat->Int) (K:Int->Int->Int) (k:Nat):Int:=(List.range k).foldl (qCn N X K) 0
theorem qGa (N:Nat) (X:Nat->Int) (K:Int->Int->Int) (k:Nat):qCj N X K (k+1)=qCn N X K (qCj N X K k) k:=by
 unfold qCj;rw[List.range_succ,List.foldl_append];rfl
theorem qCT (N:Nat):(List.finRange N).map (·.1)=List.range N:=by
 apply List.ext_getElem
 ·simp
 ·intro i b c;simp
theorem qK0 (f b:List Int) (dir:Int) (M K:Int->Int->Int) (p:Nat):qFp f b dir M K p=qCj b.length (qBc f b dir M p) K b.length:=by
 unfold qFp qBm qCj;rw[qCT]
theorem qHk (N:Nat) (X:Nat->Int) (K:Int->Int->Int):qCj N X K 1=X 0:=by
 rw[qGa];simp[qCn]
theorem qGb (N:Nat) (X:Nat->Int) (K:Int->Int->Int) (k:Nat) (h:0<k):qCj N X K (k+1)=K (qCj N X K k) (X k):=by
 rw[qGa];unfold qCn;rw[if_neg (by omega)]
theorem qHl (x y:Int):qCx x y=max x y:=by unfold qCx;split<;>omega
theorem qMd (N:Nat) (X:Nat->Int):∀k j,j<k->X j<=qCj N X qCx k:=by
 intro k
 induction k with
 | zero=>intro j h;omega
 | succ k ih=>
  intro j h
  rcases Nat.eq_zero_or_pos k with h0|h0
  ·subst h0
   obtain rfl:j=0:=by omega
   rw[qHk];omega
  ·rw[qGb _ _ _ _ h0,qHl]
   by_cases b:j=k
   ·subst b;omega
   ·have:=ih j (by omega);omega
theorem qL0 (N:Nat) (X:Nat->Int):∀k,0<k->∃j,j<k/\qCj N X qCx k=X j:=by
 intro k
 induction k with
 | zero=>intro h;omega
 | succ k ih=>
  intro _
  rcases Nat.eq_zero_or_pos k with h0|h0
  ·subst h0;exact⟨0,by omega,qHk _ _ _⟩
  ·rw[qGb _ _ _ _ h0,qHl];obtain⟨j,c,b⟩:=ih h0
   by_cases h:qCj N X qCx k<=X k
   ·exact⟨k,by omega,by omega⟩
   ·exact⟨j,by omega,by omega⟩
theorem qIL (f b:List Int) (p:Nat) (h:p<f.length):(qAP f b)[p]'(by rw[qAQ];exact h)=qCj b.length (qBc f b 1 qDi p) qCx b.length:=by
 simp[qAP,qB7,qK0]
theorem rosOk_iff {f:List Int}:qBF f=true↔3<=f.length/\f.length<=96/\∀i (h:i<f.length),0<=f[i]/\f[i]<=10000:=by
 unfold qBF;simp only[Bool.and_eq_true,decide_eq_true_eq,List.all_eq_true];constructor
 ·rintro⟨b,c,d⟩;exact⟨b,c,λi h=>within_iff.1 (d _ (List.getElem_mem h))⟩
 ·rintro⟨b,c,d⟩;refine⟨b,c,λx j=>?_⟩;obtain⟨i,g,rfl⟩:=List.mem_iff_getElem.1 j;exact within_iff.2 (d i g)
theorem rubOk_iff {b:List Int} {n:Int}:qB5 b n=true↔b.length%2=1/\(b.length:Int)<=n/\b.length<=31/\(∀i (h:i<b.length),0<=b[i]/\b[i]<=10000)/\b.getD (b.length / 2) 0<=0:=by
 unfold qB5;simp only[Bool.and_eq_true,decide_eq_true_eq,List.all_eq_true];constructor
 ·rintro⟨c,d,f,g,j⟩;exact⟨c,d,f,λi h=>within_iff.1 (g _ (List.getElem_mem h)),j⟩
 ·rintro⟨c,d,f,g,j⟩;refine⟨c,d,f,λx l=>?_,j⟩;obtain⟨i,k,rfl⟩:=List.mem_iff_getElem.1 l;exact within_iff.2 (g i k)
theorem qNf {b:List Int} {n:Int} (h:qB5 b n=true):b.getD (b.length / 2) 0=0:=by
 obtain⟨g,i,j,d,f⟩:=rubOk_iff.1 h;have c:b.length / 2<b.length:=by omega
 have:=d _ c;simp[c]at f ⊢;omega
def atR (f:List Int) (i:Int):Int:=f.getD (i%(f.length:Int)).toNat 0
theorem qEm {f:List Int} (h:qBF f=true) (i:Int):0<=atR f i/\atR f i<=10000:=by
 obtain⟨j,k,c⟩:=rosOk_iff.1 h;have d:=Int.emod_nonneg i (show(f.length:Int)≠0 by omega);have g:=Int.emod_lt_of_pos i (show(0:Int)<(f.length:Int)by omega);have b:(i%(f.length:Int)).toNat <f.length:=by omega
 unfold atR;simp[b];exact c _ b
theorem qC2 {f:List Int} (p:Nat) (h:p<f.length):atR f (p:Int)=f[p]:=by
 unfold atR;rw[Int.emod_eq_of_lt (by omega) (by omega)];simp[h]
theorem qGc (f b:List Int) (p j:Nat):qBc f b 1 qDi p j=atR f ((p:Int)+((j:Int) - (b.length:Int) / 2)) - b.getD j 0:=by
 unfold qBc qDi atR;rw[Int.one_mul]
theorem qDT {f b:List Int} (hf:qBF f=true) (hb:qB5 b f.length=true):qBF (qAP f b)=true:=by
 obtain⟨h,i,k⟩:=rosOk_iff.1 hf;obtain⟨r,s,t,n,v⟩:=rubOk_iff.1 hb;have m:=qNf hb;refine rosOk_iff.2 ⟨by rw[qAQ];exact h,by rw[qAQ];exact i,λp c=>?_⟩;have d:p<f.length:=by rw[qAQ]at c;exact c
 rw[qIL f b p d];constructor
 ·have:=qMd b.length (qBc f b 1 qDi p) b.length (b.length / 2) (by omega);rw[qGc,m]at this;have e:(p:Int)+((b.length / 2:Nat):Int) - (b.length:Int) / 2=(p:Int):=by omega
  rw[show(p:Int)+(((b.length / 2:Nat):Int) - (b.length:Int) / 2)=(p:Int)from by omega,qC2 p d]at this;have:=k p d;omega
 ·obtain⟨j,g,l⟩:=qL0 b.length (qBc f b 1 qDi p) b.length (by omega);rw[l,qGc];have o:=qEm hf ((p:Int)+((j:Int) - (b.length:Int) / 2));have q:=n j g;simp[g];omega
def qCy (f:List Int) (s:Int):List Int:=(List.range f.length).map λ(p:Nat)=>atR f ((p:Int) - s)
theorem qB8 (f:List Int) (s:Int):(qCy f s).length =f.length:=by simp[qCy]
theorem qEn (f:List Int) (s:Int) (p:Nat) (h:p<f.length):(qCy f s)[p]'(by rw[qB8];exact h)=atR f ((p:Int) - s):=by simp[qCy]
theorem qDU (f:List Int) (i j:Int) (h:i%(f.length:Int)=j%(f.length:Int)):atR f i=atR f j:=by unfold atR;rw[h]
theorem qE2 (f:List Int) (i q:Int):atR f (i+f.length*q)=atR f i:=qDU _ _ _ (Int.add_mul_emod_self_left ..)
def Shifts (f:List Int) (s:Int):Prop:=∀i:Int,atR f (i - s)=atR f i
theorem qL1 (f:List Int) (s:Int):qCy f s=f↔Shifts f s:=by
 constructor
 ·intro h i
  by_cases k:f.length=0
  ·have:f=[]:=List.length_eq_zero_iff.1 k;subst this;simp[atR]
  have c:=Int.emod_nonneg i (show(f.length:Int)≠0 by omega);have m:=Int.emod_lt_of_pos i (show(0:Int)<(f.length:Int)by omega);obtain⟨r,o⟩:∃r:Nat,i%(f.length:Int)=(r:Int):=⟨_,(Int.toNat_of_nonneg c).symm⟩;have b:r<f.length:=by omega
  have d:=qEn f s r b;have j:(qCy f s)[r]'(by rw[qB8];exact b)=f[r]:=by simp[h]
  rw[j,<-qC2 r b]at d;have l:i=(r:Int)+f.length*(i / f.length):=by have:=Int.emod_add_mul_ediv i f.length;omega
  rw[l,show(r:Int)+f.length*(i / f.length) - s=((r:Int) - s)+f.length*(i / f.length)from by omega,qE2,qE2];exact d.symm
 ·intro h;apply List.ext_getElem (qB8 f s);intro p n g;rw[qEn f s p g,h p,qC2 p g]
theorem Shifts.zero (f:List Int):Shifts f 0:=λi=>by rw[Int.sub_zero]
theorem Shifts.add {f:List Int} {s t:Int} (h:Shifts f s) (k:Shifts f t):Shifts f (s+t):=λi=>by
 rw[show i - (s+t)=(i - s) - t from by omega,k,h]
theorem Shifts.neg {f:List Int} {s:Int} (h:Shifts f s):Shifts f (-s):=λi=>by
 have:=h (i+s);rw[show i - -s=i+s from by omega,<-this,show i+s - s=i from by omega]
theorem Shifts.len (f:List Int):Shifts f f.length:=λi=>by
 have:=qE2 f i (-1);rw[<-this];congr 1;omega
theorem Shifts.mul {f:List Int} {s:Int} (h:Shifts f s) (k:Nat):Shifts f (s*k):=by
 induction k with
 | zero=>simpa using Shifts.zero f
 | succ k ih=>have:=ih.add h;rwa[show s*(k:Int)+s=s*((k+1:Nat):Int)from by rw[Int.natCast_add,Int.mul_add];simp]at this
theorem Shifts.mulI {f:List Int} {s:Int} (h:Shifts f s) (k:Int):Shifts f (s*k):=by
 rcases Int.eq_nat_or_neg k with⟨n,rfl|rfl⟩
 ·exact h.mul n
 ·have:=(h.mul n).neg;rwa[show -(s*(n:Int))=s* -(n:Int)from by rw[Int.mul_neg]]at this
structure IsLeast (f:List Int) (s:Nat):Prop where
 pos:1<=s
 sh:Shifts f s
 least:∀j:Nat,1<=j->j<s->¬Shifts f j
theorem IsLeast.dvd {f:List Int} {s:Nat} (h:IsLeast f s) (t:Int):Shifts f t↔(s:Int)∣t:=by
 constructor
 ·intro g;have l:=Int.emod_add_mul_ediv t s;have c:=Int.emod_nonneg t (show(s:Int)≠0 by have:=h.pos;omega);have j:=Int.emod_lt_of_pos t (show(0:Int)<s by have:=h.pos;omega)
  have b:Shifts f (t%s):=by
   have:=g.add (h.sh.mulI (t / s)).neg
   rwa[show t+ -((s:Int)*(t / s))=t%s from by omega]at this
  by_cases i:t%s=0
  ·exact Int.dvd_of_emod_eq_zero i
  ·exfalso;obtain⟨r,d⟩:∃r:Nat,t%(s:Int)=(r:Int):=⟨_,(Int.toNat_of_nonneg c).symm⟩;rw[d]at b;exact h.least r (by omega) (by omega) b
 ·rintro⟨k,rfl⟩;exact h.sh.mulI k
theorem qK1 (f:List Int) (s:Nat) (h:s<=f.length):qAv f s=qCy f s:=by
 apply List.ext_getElem
 ·rw[qB8,qEA]
 ·intro p b c;rw[qB8]at c;rw[qEn f s p c]
  revert b
  unfold qAv;intro b
  by_cases d:p<s
  ·rw[List.getElem_append_left (by simp;omega)];rw[List.getElem_drop]
   have:atR f ((p:Int) - s)=atR f ((f.length - s+p:Nat):Int):=qDU _ _ _ (by
    rw[show((f.length - s+p:Nat):Int)=((p:Int) - s)+f.length*1 from by omega,Int.add_mul_emod_self_left])
   rw[this,qC2 _ (by omega)]
  ·rw[List.getElem_append_right (by simp;omega)];rw[List.getElem_take];have e:(p:Int) - s=((p - s:Nat):Int):=by omega
   rw[e,qC2 _ (by omega)]
   congr 1
   simp;omega
theorem qL2 (s:Nat) (hs:1<=s):∀m,((List.range (s*m)).filter λj=>decide (s∣j)).length =m:=by
 intro m
 induction m with
 | zero=>simp
 | succ m ih=>
  rw[Nat.mul_succ,List.range_add,List.filter_append,List.length_append,ih]
  congr 1
  rw[List.filter_map,List.length_map]
  have:(List.range s).filter ((λj=>decide (s∣j))∘λx=>s*m+x)=[0]:=by
   obtain⟨k,rfl⟩:∃k,s=k+1:=⟨s - 1,by omega⟩;rw[List.range_succ_eq_map,List.filter_cons];have c:((λj=>decide (k+1∣j))∘λx=>(k+1)*m+x) 0=true:=by simp only[Function.comp,decide_eq_true_eq,Nat.add_zero];exact Nat.dvd_mul_right _ _
   rw[if_pos c]
   congr 1
   rw[List.filter_eq_nil_iff];intro x b;simp only[List.mem_map,List.mem_range]at b;obtain⟨y,f,rfl⟩:=b;simp only[Function.comp,decide_eq_true_eq];intro d;have:=(Nat.dvd_add_right (Nat.dvd_mul_right (k+1) m)).1 d;exact absurd (Nat.le_of_dvd (by omega) this) (by omega)
  rw[this];rfl
theorem IsLeast.period {f:List Int} {s:Nat} (h:IsLeast f s) (hn:0<f.length):qB1 f=s:=by
 obtain⟨m,b⟩:s∣f.length:=by
  have:=(h.dvd f.length).1 (Shifts.len f);exact Int.natCast_dvd_natCast.1 this
 have k:=h.pos
 have c:0<m:=by
  rcases Nat.eq_zero_or_pos m with h0|h0
  ·rw[h0]at b;omega
  ·exact h0
 have d:(qA8 f f f.length).length =m:=by
  have e:qCS f f f.length=(List.range (s*m)).filter λj=>decide (s∣j):=by
   unfold qCS;rw[<-b];apply List.filter_congr;intro j g;have i:j<f.length:=List.mem_range.1 g;rw[qK1 f j (by omega),Bool.eq_iff_iff,beq_iff_eq,qL1,h.dvd,decide_eq_true_eq,Int.natCast_dvd_natCast]
  have:=qL2 s k m;rw[<-e]at this;simpa[qA8]using this
 unfold qB1;rw[d,b,Nat.mul_div_cancel _ c]
end Go.Proofs.YtbcbcdgbliheoaaGreat

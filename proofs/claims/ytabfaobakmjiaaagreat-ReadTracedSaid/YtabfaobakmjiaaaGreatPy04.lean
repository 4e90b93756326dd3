/- Contracts of package rosette (layer 3): Check, CheckRubber and their kin. rosette.picked: for each step what is picked among the offsets of a rubber. Contracts .. -/
import Derived.Test.YtabfaobakmjiaaaGreatPy03
import Derived.Laws.BitsAllLaws
import Derived.Laws.BitsLemmas
namespace Go.Proofs.YtabfaobakmjiaaaGreat
set_option maxRecDepth 100000
set_option maxHeartbeats 4000000
open Go.RowKit
set_option linter.unusedVariables false
set_option linter.unusedSimpArgs false

def qDu (x:Int):Bool:=qAE x 0 10000
def qAY (f:List Int):Bool:=decide (3<=f.length)&&(decide (f.length<=96)&&f.all qDu)
def qAo (b:List Int) (n:Int):Bool:=decide (b.length%2=1)&&(decide ((b.length:Int)<=n)&&(decide (b.length<=31)&&(b.all qDu&&decide (b.getD (b.length / 2) 0<=0))))
theorem qQh (zs:List Int) (p:Int->Bool):zs.any (λx=> !p x)= !zs.all p:=by
 induction zs with
 | nil=>rfl
 | cons x r ih=>simp only[List.any_cons,List.all_cons,ih,Bool.not_and]

theorem qMt (n:Int) (w:World):Calls Tryz.prog 100 #[.int .i64 n] w λe w'=>e= .returned (.bool (!qDu n))/\w=w':=by
 unfold qDu
 by_cases c:n<0
 ·have b:qAE n 0 10000=false:=within_not.2 (by omega);rw[b];go_enter Tryz.func100,Tryz.ntmps100;go_wp2;go_ret;simp[c]
 ·by_cases d:n<=10000
  ·have b:qAE n 0 10000=true:=within_iff.2 (by omega);rw[b];go_enter Tryz.func100,Tryz.ntmps100;go_wp2;go_ret;simp[c,d]
  ·have b:qAE n 0 10000=false:=within_not.2 (by omega);rw[b];have f:10000<n:=by omega
   go_enter Tryz.func100,Tryz.ntmps100;go_wp2;go_ret;simp[f]
theorem qLl (n:Int) (w:World):Calls Tryz.prog 100 (#[.int .i64 n]++#[]) w λe w'=>e= .returned (.bool (!qDu n))/\w=w':=by
 rw[Array.append_empty];exact qMt n w
theorem qJs:qAW Tryz.prog 100:=λ_ _=>by kernel_rfl
theorem qE7 (v:Value) (zs:List Int) (w:World) (hv:Ints w v zs):
  Calls Tryz.prog 99 #[v,.func (.func 100) #[] #[]] w λe w'=>e= .returned (.bool (!zs.all qDu))/\w=w':=by
 have h:=qHi (λx=> !qDu x) 100 #[] v zs w hv qJs (λx _=>qLl x _);rw[qQh]at h;exact h
theorem qB3 (v:Value) (f:List Int) (w:World) (hv:Ints w v f) (B:Bool) (hB:qAY f=B):
  Calls Tryz.prog 50 #[v] w λe w'=>e= .returned (.int .i64 (if B then 0 else 30))/\w=w':=by
 have i:=Lib.hid hv;obtain⟨A,c,rfl,j,h,_,k⟩:=hv;unfold maxLen at h;clear k;unfold qAY at hB
 by_cases b:3<=f.length
 ·rw[decide_eq_true b,Bool.true_and]at hB
  by_cases d:f.length<=96
  ·rw[decide_eq_true d,Bool.true_and]at hB;have g:=hyd1 hB;clear hB;have l:((f.length:Int)<3)=False:=by simp;omega
   have m:((96:Int)<(f.length:Int))=False:=by simp;omega
   clear b d
   cases B
   all_goals
    go_enter Tryz.func50,Tryz.ntmps50;go_wp2_with (first | (go_at_call 99;refine(qE7 _ f _ i.out).mono ?_;rintro e w' ⟨rfl,rfl⟩;rw[g.out]));go_ret;exact⟨rfl,rfl⟩
  ·rw[decide_eq_false d,Bool.false_and]at hB;subst hB;go_enter Tryz.func50,Tryz.ntmps50;go_wp2;go_ret;exact⟨rfl,rfl⟩
 ·rw[decide_eq_false b,Bool.false_and]at hB;subst hB;go_enter Tryz.func50,Tryz.ntmps50;go_wp2;go_ret;exact⟨rfl,rfl⟩
theorem qQi (n:Nat) (h:n<9223372036854775808):bits .and .i64 (n:Int) 1=((n%2:Nat):Int):=by
 have e:(BitVec.ofInt 64 (n:Int)).toNat =n:=by rw[BitVec.ofInt_natCast,BitVec.toNat_ofNat];exact Nat.mod_eq_of_lt (by omega)
 show IntKind.i64.wrap ((BitVec.ofInt 64 (n:Int)&&& BitVec.ofInt 64 (1:Int)).toNat :Int)=_
 rw[BitVec.toNat_and,e];have b:(BitVec.ofInt 64 (1:Int)).toNat =1:=by decide
 rw[b,Nat.and_one_is_mod,IntKind.wrap_i64];omega
theorem qEQ (v:Value) (b:List Int) (n:Int) (w:World) (hv:Ints w v b) (B:Bool) (hB:qAo b n=B):
  Calls Tryz.prog 104 #[v,.int .i64 n] w λe w'=>e= .returned (.int .i64 (if B then 0 else 31))/\w=w':=by
 have g:=Lib.hid hv;obtain⟨A,c,rfl,F,o,_,i⟩:=hv;unfold maxLen at o;unfold qAo at hB;have d:=qQi b.length (by omega)
 by_cases h:b.length%2=1
 ·rw[decide_eq_true h,Bool.true_and]at hB;rw[h]at d;have k:=hyd1 h;clear h
  by_cases q:(b.length:Int)<=n
  ·rw[decide_eq_true q,Bool.true_and]at hB
   by_cases r:b.length<=31
   ·rw[decide_eq_true r,Bool.true_and]at hB;obtain⟨H,l⟩:∃H,H=b.all qDu:=⟨_,rfl⟩;rw[<-l]at hB;have f:=hyd1 l;clear l
    cases H with
    | false=>
     rw[Bool.false_and]at hB;subst hB;clear i;go_enter Tryz.func104,Tryz.ntmps104;go_wp2_with (first | (go_at_call 99;refine(qE7 _ b _ g.out).mono ?_;rintro e w' ⟨rfl,rfl⟩;rw[<-f.out]));go_ret;exact⟨rfl,rfl⟩
    | true=>
     rw[Bool.true_and]at hB;have j:0<b.length:=by have:=k.out;omega
     obtain⟨C,off,rfl,E,t⟩:=i j;have z:b.length / 2<b.length:=by omega
     have m:w.cell? ⟨C,off+b.length / 2,none⟩=some (.int .i64 b[b.length / 2]):=t _ z;have y:b.getD (b.length / 2) 0=b[b.length / 2]:=by simp[z]
     rw[y]at hB;generalize b[b.length / 2]=x at m hB;clear t i y
     by_cases s:x<=0
     ·rw[decide_eq_true s]at hB;subst hB;go_enter Tryz.func104,Tryz.ntmps104;go_wp2_with (first | (go_at_call 99;refine(qE7 _ b _ g.out).mono ?_;rintro e w' ⟨rfl,rfl⟩;rw[<-f.out]));go_ret;exact⟨rfl,rfl⟩
     ·rw[decide_eq_false s]at hB;subst hB;have D:0<x:=by omega
      go_enter Tryz.func104,Tryz.ntmps104;go_wp2_with (first | (go_at_call 99;refine(qE7 _ b _ g.out).mono ?_;rintro e w' ⟨rfl,rfl⟩;rw[<-f.out]));go_ret;exact⟨rfl,rfl⟩
   ·rw[decide_eq_false r,Bool.false_and]at hB;subst hB;clear i;go_enter Tryz.func104,Tryz.ntmps104;go_wp2;go_ret;exact⟨rfl,rfl⟩
  ·rw[decide_eq_false q,Bool.false_and]at hB;subst hB;clear i;go_enter Tryz.func104,Tryz.ntmps104;go_wp2;go_ret;exact⟨rfl,rfl⟩
 ·rw[decide_eq_false h,Bool.false_and]at hB;subst hB;have p:b.length%2=0:=by omega
  rw[p]at d;clear i h p;go_enter Tryz.func104,Tryz.ntmps104;go_wp2;go_ret;exact⟨rfl,rfl⟩
open Go.RowKit Go.Shelf
attribute [local go_sem] Oper.semAt_some
def Near (x:Int):Prop:= -20000<=x/\x<=20000
def qBS (f b:List Int) (dir:Int) (M:Int->Int->Int) (p j:Nat):Int:=M (f.getD (((p:Int)+dir*((j:Int) - (b.length:Int) / 2))%(f.length:Int)).toNat 0) (b.getD j 0)
def qDV (N:Nat) (X:Nat->Int) (K:Int->Int->Int) (acc:Int) (j:Nat):Int:=if (j:Int) - (N:Int) / 2= -((N:Int) / 2)then X j else K acc (X j)
def qCO (N:Nat) (X:Nat->Int) (K:Int->Int->Int) (pre:List (Fin N)):Int:=(pre.map (·.1)).foldl (qDV N X K) 0
theorem qLm (N:Nat) (X:Nat->Int) (K:Int->Int->Int) (pre:List (Fin N)) (x:Fin N):qCO N X K (pre++[x])=qDV N X K (qCO N X K pre) x.1:=by
 simp[qCO]
def qGh (f b:List Int) (dir:Int) (M K:Int->Int->Int) (p:Nat):Int:=qCO b.length (qBS f b dir M p) K (List.finRange b.length)
def qBa (f b:List Int) (dir:Int) (M K:Int->Int->Int) (k:Nat):List Int:=(List.range k).map (qGh f b dir M K)
theorem qK2 (f b:List Int) (dir:Int) (M K:Int->Int->Int) (k:Nat):qBa f b dir M K (k+1)=qBa f b dir M K k++[qGh f b dir M K k]:=by
 simp[qBa,List.range_succ]
theorem qDv (f b:List Int) (dir:Int) (M K:Int->Int->Int) (k:Nat):(qBa f b dir M K k).length =k:=by simp[qBa]

structure PickEnv (w:World) (vf vb:Value) (dir:Int) (mk pk:Nat) (wr:World):Prop where
 b0:wr.heap[w.heap.size]? =some (.cells #[vf] 56)
 b1:wr.heap[w.heap.size+1]? =some (.cells #[vb] 56)
 b2:wr.heap[w.heap.size+1+1]? =some (.cells #[.int .i64 dir] 3)
 b3:wr.heap[w.heap.size+1+1+1]? =some (.cells #[.func (.func mk) #[] #[]] 146)
 b4:wr.heap[w.heap.size+1+1+1+1]? =some (.cells #[.func (.func pk) #[] #[]] 146)
 below:Below w.heap.size w wr
theorem PickEnv.lt {w:World} {vf vb:Value} {dir:Int} {mk pk:Nat} {wr:World} (h:PickEnv w vf vb dir mk pk wr):w.heap.size+5<=wr.heap.size:=by
 have:=(gsl h.b4);omega
theorem PickEnv.keep {w:World} {vf vb:Value} {dir:Int} {mk pk:Nat} {wr W:World} (h:PickEnv w vf vb dir mk pk wr) (hb:Below (w.heap.size+5) wr W):PickEnv w vf vb dir mk pk W:=
 ⟨(hb.block _ (by omega)).trans h.b0,(hb.block _ (by omega)).trans h.b1,(hb.block _ (by omega)).trans h.b2,(hb.block _ (by omega)).trans h.b3,(hb.block _ (by omega)).trans h.b4,h.below.trans (hb.mono (by omega))⟩
theorem qMu {W0 W W':World} {row:Option Nat} {g:Nat} (h:W0.grownBy W (some g)) (hg:W.grownBy W' row) (hr:∀r,row=some r->W0.heap.size<=r):W0.grownBy W' (some g):=
 ⟨hg.os.trans h.os,hg.tape.trans h.tape,hg.output.trans h.output,Nat.le_trans h.size hg.size,λk hk hne=>(hg.block k (Nat.lt_of_lt_of_le hk h.size) (λe=>by have:=hr k e.symm;omega)).trans (h.block k hk hne)⟩
theorem qHG {W0 W:World} {g B:Nat} (h:W0.grownBy W (some g)) (hB:B<=g) (hB2:B<=W0.heap.size):Below B W0 W:=
 ⟨h.os,h.tape,h.output,h.size,λk hk=>h.block k (by omega) (λe=>by injection e with e;omega)⟩
theorem qJT {W0 W:World} {g n:Nat} (h:W0.grownBy W (some g)) (u:Value):W0.grownBy ((W.drewN n).setCell ⟨g,0,none⟩ u) (some g):=
 ⟨h.os,h.tape,h.output,by simpa[World.setCell]using h.size,λk hk hne=>(Below.heap_setCell _ _ _ _ (λe=>hne (by rw[e]))).trans (h.block k hk hne)⟩
theorem qJU {W:World} {B n:Nat} {v u:Value} {t:TypeId} (h:W.heap[B]? =some (.cells #[v] t)):((W.drewN n).setCell ⟨B,0,none⟩ u).heap[B]? =some (.cells #[u] t):=by
 have b:(W.drewN n).heap[B]? =some (.cells #[v] t):=h;simp only[World.setCell,Array.getElem?_modify,b];simp
theorem qGC (W:World) (n:Nat) (a:Addr) (v:Value):KeepsOthers W ((W.drewN n).setCell a v):=
 (show KeepsOthers W (W.drewN n)from⟨Nat.le_refl _,λ_ _ h _=>h⟩).trans (KeepsOthers.setCell _ _ _)
theorem qGO (n₀:Nat) (Bs:List Nat) (W:World) (n:Nat) (g:Nat) (v:Value) (hg:n₀<=g) (hB:∀B∈Bs,B≠g):Kept n₀ Bs W ((W.drewN n).setCell ⟨g,0,none⟩ v):=
 ⟨(qAQ (Below.refl _ W) n).setCell (p:=⟨g,0,none⟩) hg v,λB hb=>Below.heap_setCell _ _ _ _ (hB B hb)⟩
theorem qDI {P:Program} {f:FuncId} {args:Array Value} {W:World} {n:Nat} {v:Value} (h:Calls P f args (W.drewN n) λe w'=>e= .returned v/\W.drewN n=w'):
  Calls P f args (W.drewN n) λe w''=>e= .returned v/\∃m,w''=W.drewN m:=h.mono λ_ _ ⟨he,hw⟩=>⟨he,n,hw.symm⟩
def qQj (f b:List Int) (A A':Option Addr) (c c':Nat) (dir:Int) (mk pk:Nat) (M K:Int->Int->Int) (w:World) (a:Act) (wr:World):Prop:=
 ∃(k:Nat) (ds:List Deferred) (u11 u12 u13 u14 u15 u16 u20 u21 u22 u23 u24 u25 u26 u27 u28 u29 u30 u31 u32 u33 u34 u35 u36 u37 u38 u39 u40 u41 u42 u43 u44 u45 u46 u47 u48 u49 u50 u51 u52 u53 u54 u55 u56:Value),a={tmps:=#[.slice A f.length c,.slice A' b.length c',.int .i64 dir,.func (.func mk) #[] #[],.func (.func pk) #[] #[],.pointer (some ⟨w.heap.size,0,none⟩),.pointer (some ⟨w.heap.size+1,0,none⟩),.pointer (some ⟨w.heap.size+1+1,0,none⟩),.pointer (some ⟨w.heap.size+1+1+1,0,none⟩),.pointer (some ⟨w.heap.size+1+1+1+1,0,none⟩),.slice none 0 0,u11,u12,u13,u14,u15,u16,.slice A f.length c,.int .i64 f.length,.int .i64 k,u20,u21,u22,u23,u24,u25,u26,u27,u28,u29,u30,u31,u32,u33,u34,u35,u36,u37,u38,u39,u40,u41,u42,u43,u44,u45,u46,u47,u48,u49,u50,u51,u52,u53,u54,u55,u56],defers:=ds}/\k<=f.length∧
  PickEnv w (.slice A f.length c) (.slice A' b.length c') dir mk pk wr/\Marks (w.heap.size+5) wr ds∧
  wr.ownsRow (w.heap.size+5) 3 1 u11 (qBa f b dir M K k).length ((qBa f b dir M K k).map vint)
theorem qOI (f b:List Int) (A A':Option Addr) (c c':Nat) (dir:Int) (mk pk:Nat) (w:World):
  PickEnv w (.slice A f.length c) (.slice A' b.length c') dir mk pk (((((w.alloc (.cells #[.slice A f.length c] 56)).alloc (.cells #[.slice A' b.length c'] 56)).alloc (.cells #[.int .i64 dir] 3)).alloc (.cells #[.func (.func mk) #[] #[]] 146)).alloc (.cells #[.func (.func pk) #[] #[]] 146)):=by
 refine⟨?_,?_,?_,?_,?_,(alc4 w _ _ _ _).alloc (by simp;omega) _⟩
 ·exact(Below.heap_alloc _ _ _ (by simp<;>omega)).trans ((Below.heap_alloc _ _ _ (by simp<;>omega)).trans ((Below.heap_alloc _ _ _ (by simp<;>omega)).trans ((Below.heap_alloc _ _ _ (by simp)).trans (heap_alloc_new _ _))))
 ·exact(Below.heap_alloc _ _ _ (by simp<;>omega)).trans ((Below.heap_alloc _ _ _ (by simp<;>omega)).trans ((Below.heap_alloc _ _ _ (by simp)).trans (by have h:=heap_alloc_new (w.alloc (.cells #[.slice A f.length c] 56)) (.cells #[.slice A' b.length c'] 56);rw[World.size_alloc]at h;exact h)))
 ·exact(Below.heap_alloc _ _ _ (by simp<;>omega)).trans ((Below.heap_alloc _ _ _ (by simp)).trans (by have h:=heap_alloc_new ((w.alloc (.cells #[.slice A f.length c] 56)).alloc (.cells #[.slice A' b.length c'] 56)) (.cells #[.int .i64 dir] 3);rw[World.size_alloc,World.size_alloc]at h;exact h))
 ·exact(Below.heap_alloc _ _ _ (by simp)).trans (by have h:=heap_alloc_new (((w.alloc (.cells #[.slice A f.length c] 56)).alloc (.cells #[.slice A' b.length c'] 56)).alloc (.cells #[.int .i64 dir] 3)) (.cells #[.func (.func mk) #[] #[]] 146);rw[World.size_alloc,World.size_alloc,World.size_alloc]at h;exact h)
 ·have h:=heap_alloc_new ((((w.alloc (.cells #[.slice A f.length c] 56)).alloc (.cells #[.slice A' b.length c'] 56)).alloc (.cells #[.int .i64 dir] 3)).alloc (.cells #[.func (.func mk) #[] #[]] 146)) (.cells #[.func (.func pk) #[] #[]] 146);rw[World.size_alloc,World.size_alloc,World.size_alloc,World.size_alloc]at h;exact h

theorem qJV (f b:List Int) (vf vb:Value) (w:World) (hf:Ints w vf f) (hb:Ints w vb b) (dir:Int) (mk pk:Nat) (M K:Int->Int->Int)
  (hfo:qAY f=true) (hbo:qAo b f.length=true) (hdir:dir=1∨dir= -1)
  (hmk:qAW Tryz.prog mk) (hpk:qAW Tryz.prog pk)
  (hM:∀h d W,0<=h/\h<=10000->0<=d/\d<=10000->Calls Tryz.prog mk #[.int .i64 h,.int .i64 d] W (λe w'=>e= .returned (.int .i64 (M h d))/\W=w'))
  (hMn:∀h d,0<=h/\h<=10000->0<=d/\d<=10000->Near (M h d))
  (hK:∀x y W,Near x->Near y->Calls Tryz.prog pk #[.int .i64 x,.int .i64 y] W (λe w'=>e= .returned (.int .i64 (K x y))/\W=w'))
  (hKn:∀x y,Near x->Near y->Near (K x y)):
  Calls Tryz.prog 157 #[vf,vb,.int .i64 dir,.func (.func mk) #[] #[],.func (.func pk) #[] #[]] w λe w'=>∃v',e= .returned v'/\Below w.heap.size w w'∧
   w'.ownsRow w.heap.size 3 1 v' (qBa f b dir M K f.length).length ((qBa f b dir M K f.length).map vint):=by
 refine(callsIn_wide (n:=5)).1 ?_;refine callsIn_of_wp_marks Tryz.func157 rfl trivial ?_ rfl;have bP:=Lib.hid hf;have bh:=Lib.hid hb;obtain⟨A,c,rfl,bS,bk,_,hr⟩:=hf;obtain⟨R,T,rfl,bA,aI,_,aV⟩:=hb;unfold maxLen at bk aI;have bt:=Lib.hid hr;have bV:=Lib.hid aV;clear hr aV;simp only[Tryz.ntmps157,List.size_toArray,List.length_cons,List.length_nil,Nat.reduceAdd,Nat.reduceSub,Array.replicate_succ,Array.replicate_zero,List.push_toArray,List.append_toArray,List.nil_append,List.cons_append];gi_wp2;refine wpIn_loop (qQj f b A R c T dir mk pk M K w) (λa _=>f.length - (intOf (a.tmps.getD 19 undef)).toNat) ?start ?round
 case start=>exact⟨0,[],_,_,_,_,_,_,_,_,_,_,_,_,_,_,_,_,_,_,_,_,_,_,_,_,_,_,_,_,_,_,_,_,_,_,_,_,_,_,_,_,_,_,_,rfl,Nat.zero_le _,qOI f b A R c T dir mk pk w,trivial,World.ownsRow_nil _ _ _ _⟩
 case round=>
  rintro a wr ⟨k,ds,u11,u12,u13,u14,u15,u16,u20,u21,u22,u23,u24,u25,u26,u27,u28,u29,u30,u31,u32,u33,u34,u35,u36,u37,u38,u39,u40,u41,u42,u43,u44,u45,u46,u47,u48,u49,u50,u51,u52,u53,u54,u55,u56,rfl,hk,ao,hm,aj⟩;have⟨G,a0,E⟩:=hyd3 ao hm aj;have bY:=ao.lt
  have aw:3<=f.length/\f.length<=96/\f.all qDu=true:=by
   unfold qAY at hfo;simp only[Bool.and_eq_true,decide_eq_true_eq]at hfo;exact⟨hfo.1,hfo.2.1,hfo.2.2⟩
  have av:b.length%2=1/\b.length<=31/\b.all qDu=true:=by
   unfold qAo at hbo;simp only[Bool.and_eq_true,decide_eq_true_eq]at hbo;exact⟨hbo.1,hbo.2.2.1,hbo.2.2.2.1⟩
  obtain⟨bQ,bR,aL⟩:=aw;obtain⟨aE,bN,aF⟩:=av;have⟨aM,aG⟩:=hyd2 aL aF;have bj:=Lib.hid aE;clear ao hm aj aL aF aE hfo hbo
  by_cases bT:k<f.length
  ·have c1:∀o o',((wr.alloc o).alloc o').cell? ⟨w.heap.size+1,0,none⟩=some (.slice R b.length T):=λo o'=>
    (World.cell?_alloc_past _ _ _ (by simp;omega)).trans ((World.cell?_alloc_past _ _ _ (by omega)).trans (qEH G.out.b1))
   gi_wp2_with (refine⟨trivial,?_⟩;gi_at_call 195;refine(callsIn_wide.2 (qMs _ _ _ _)).mono ?_;rintro e w' ⟨rfl,rfl⟩);obtain⟨S,C⟩:∃S,(((wr.alloc (.cells #[.int .i64 k] 3)).alloc (.cells #[.int .i64 0] 3)).alloc (.cells #[.slice R b.length T] 56))=S:=⟨_,rfl⟩;rw[C];have bX:S.heap.size=wr.heap.size+1+1+1:=by rw[<-C];simp
   have V:Below wr.heap.size wr S:=by rw[<-C];exact alc3 _ _ _ _
   have hP:S.heap[wr.heap.size]? =some (.cells #[.int .i64 k] 3):=by
    rw[<-C];exact(Below.heap_alloc _ _ _ (by simp<;>omega)).trans ((Below.heap_alloc _ _ _ (by simp)).trans (heap_alloc_new _ _))
   have Z:S.heap[wr.heap.size+1]? =some (.cells #[.int .i64 0] 3):=by
    rw[<-C];exact(Below.heap_alloc _ _ _ (by simp)).trans (by have h:=heap_alloc_new (wr.alloc (.cells #[.int .i64 k] 3)) (.cells #[.int .i64 0] 3);rw[World.size_alloc]at h;exact h)
   have hO:S.heap[wr.heap.size+1+1]? =some (.cells #[.slice R b.length T] 56):=by
    rw[<-C];have h:=heap_alloc_new ((wr.alloc (.cells #[.int .i64 k] 3)).alloc (.cells #[.int .i64 0] 3)) (.cells #[.slice R b.length T] 56);rw[World.size_alloc,World.size_alloc]at h;exact h
   have af:PickEnv w (.slice A f.length c) (.slice R b.length T) dir mk pk S:=G.out.keep (V.mono (by omega));clear C c1;have t:=qHj b (.slice R b.length T) w S (wr.heap.size+1+1) (w.heap.size+5) bh.out (by omega) (by omega) (by omega) (by omega) af.below (qEH hO);refine wpIn_rangeFunc_ownF rfl (by omega) (gf:=216) (lb:=#[.pointer (some ⟨wr.heap.size+1+1,0,none⟩)]) rfl trivial (enters_of Tryz.func216 (by kernel_rfl) rfl)
    t Kept.trans (Kept.put (by omega) (by simp;omega)) (Below.refl _ _) (λ_=>rfl)
    (λB W=>S.grownBy W (some (wr.heap.size+1))/\W.heap[wr.heap.size+1]? =some (.cells #[.int .i64 (qCO b.length (qBS f b dir M k) K B)] 3)/\Near (qCO b.length (qBS f b dir M k) K B))
    (λ_ _ _=>False)
    ?own (λ_ _ _ _ _ hs _ _=>hs) ⟨World.grownBy.refl _ _,Z,by unfold Near;simp[qCO]⟩
    (λx=>{tmps:=#[.slice A f.length c,.slice R b.length T,.int .i64 dir,.func (.func mk) #[] #[],.func (.func pk) #[] #[],.pointer (some ⟨w.heap.size,0,none⟩),.pointer (some ⟨w.heap.size+1,0,none⟩),.pointer (some ⟨w.heap.size+1+1,0,none⟩),.pointer (some ⟨w.heap.size+1+1+1,0,none⟩),.pointer (some ⟨w.heap.size+1+1+1+1,0,none⟩),.slice none 0 0,u11,.pointer (some ⟨wr.heap.size,0,none⟩),.pointer (some ⟨wr.heap.size+1,0,none⟩),.int .i64 ((x.1:Int) - (b.length:Int) / 2),.int .i64 b[x.1],u16,.slice A f.length c,.int .i64 f.length,.int .i64 k,.bool true,.int .i64 k,.slice R b.length T,.func (.func 216) #[] #[.pointer (some ⟨wr.heap.size+1+1,0,none⟩)],.int .i64 ((x.1:Int) - (b.length:Int) / 2),.int .i64 b[x.1],u26,u27,u28,u29,u30,u31,u32,u33,u34,u35,u36,u37,u38,u39,u40,u41,u42,u43,u44,u45,u46,u47,u48,u49,u50,u51,u52,u53,u54,u55,u56],defers:=[]}) ?assign ?body ?done ?stop
   case own=>
    rintro s X Y bZ ⟨h1,h2,h3⟩ I ak;refine⟨qMu h1 I λr e=>(ak r e).1,?_,h3⟩;rw[I.block (wr.heap.size+1) ((gsl h2)) (λe=>by have:=(ak _ e.symm).1;omega)];exact h2
   case assign=>
    intro l x W K hK;dsimp only[qMr];gi_wp2;exact hK
   case body=>
    rintro l B x W ⟨I,g,m⟩ bB;have bg:=I.size;have i:=af.keep (qHG I (by omega) (by omega));have e0:=qEH i.b0;have e1:=qEH i.b1;have e2:=qEH i.b2;have e3:=qEH i.b3;have e4:=qEH i.b4;have ep:=qEH ((I.block wr.heap.size (by omega) (by simp)).trans hP);have es:=qEH g;have ef:=qQg g 0;have hx:=x.2;obtain⟨jj,ab⟩:∃jj:Int,(x.1:Int) - (b.length:Int) / 2=jj:=⟨_,rfl⟩;obtain⟨yy,ad⟩:∃yy:Int,b[x.1]=yy:=⟨_,rfl⟩
    have aX:0<=yy/\yy<=10000:=by
     have:=List.all_eq_true.1 aG.out _ (List.getElem_mem hx);rw[ad]at this;exact within_iff.1 this
    obtain⟨dj,bo⟩:∃dj:Int,dir*jj=dj:=⟨_,rfl⟩;have aN: -16<=jj/\jj<=16:=by omega
    have aJ: -16<=dj/\dj<=16:=by rcases hdir with rfl|rfl<;>omega
    have br:=Int.emod_nonneg ((k:Int)+dj) (show(f.length:Int)≠0 by omega);have bs:=Int.emod_lt_of_pos ((k:Int)+dj) (show(0:Int)<(f.length:Int)by omega);obtain⟨q,hq⟩:∃q:Nat,((k:Int)+dj)%(f.length:Int)=(q:Int):=⟨(((k:Int)+dj)%(f.length:Int)).toNat,by omega⟩;have a1:q<f.length:=by omega
    obtain⟨bf,ag,rfl,bi,aH⟩:=bt.out (by omega);have bl:W.cell? ⟨bf,ag+q,none⟩=some (.int .i64 f[q]):=(i.below.cell (p:=⟨bf,ag+q,none⟩) bi).trans (aH q a1);have ay:0<=f[q]/\f[q]<=10000:=within_iff.1 (List.all_eq_true.1 aM.out _ (List.getElem_mem a1))
    have au:qBS f b dir M k x.1=M f[q] yy:=by
     unfold qBS;rw[ab,bo,hq];simp[a1,hx,ad]
    have F:=qLm b.length (qBS f b dir M k) K B x;unfold qDV at F;rw[au,ab]at F;generalize f[q]=hh at bl ay au F;have aa:=hMn hh yy ay aX;have ar:=λW=>hM hh yy W ay aX;obtain⟨xv,a3⟩:∃xv,M hh yy=xv:=⟨_,rfl⟩;rw[a3]at F aa;simp only[a3]at ar;obtain⟨sv,aW⟩:∃sv,qCO b.length (qBS f b dir M k) K B=sv:=⟨_,rfl⟩;rw[aW]at F m es;rw[ab,ad];have i1:(0:Int)<=(q:Int):=by omega
    have i2:(q:Int)<(f.length:Int):=by omega
    have aT:=hmk;have aU:=hpk;unfold qAW at aT aU;have⟨al,ax⟩:=hyd2 F I;have aq:=λW=>hK sv xv W m aa;have aB:=hKn sv xv m aa;obtain⟨kv,ac⟩:∃kv,K sv xv=kv:=⟨_,rfl⟩;rw[ac]at aB;simp only[ac]at aq;have⟨aO,ai,aC⟩:=hyd3 ac ar aq;have b8:=aN.1;have b9:=aN.2;have b6:=aJ.1;have b7:=aJ.2;have⟨H,bM,bz,bL⟩:=hyd4 g hP Z hO;have aK:∀(W3:World) (z:Int),W3=W.setCell ⟨wr.heap.size+1,0,none⟩ (.int .i64 z)∨(∃n,W3=(W.drewN n).setCell ⟨wr.heap.size+1,0,none⟩ (.int .i64 z))->True:=λ_ _ _=>trivial;clear F g hP Z hO au a3 aW ac ar aq aH br bs ab ad aK t i
    by_cases L:jj= -((b.length:Int) / 2)
    ·have bp:(jj== -((b.length:Int) / 2))=true:=by simpa using L
     have v:qCO b.length (qBS f b dir M k) K (B++[x])=xv:=by rw[al.out,if_pos L]
     have j:=hyd1 v;clear v L;gi_wp2;refine qD1 (by kernel_rfl) (by kernel_rfl) (by kernel_rfl) ?_
     repeat (go_big_quiet_step ((first | (go_at_call 128;exact qDI (qEZ _ _ _ (by omega) (by omega) (by unfold Mid;omega)))|exact qDI (ai.out _))))
     refine wpQuiet_nil ?_;intro _ a2;obtain⟨nq,P⟩:=a2;subst P;gi_wp2;refine⟨qGC _ _ _ _,qGO _ _ _ _ _ _ (by omega) (by simp),qJT ax.out _,?_,?_⟩
     ·rw[j.out];exact qJU H.out
     ·rw[j.out];exact aa
    ·have bp:(jj== -((b.length:Int) / 2))=false:=by simpa using L
     have v:qCO b.length (qBS f b dir M k) K (B++[x])=kv:=by rw[al.out,if_neg L,aO.out]
     have j:=hyd1 v;clear v L;gi_wp2;refine qD1 (by kernel_rfl) (by kernel_rfl) (by kernel_rfl) ?_
     repeat (go_big_quiet_step ((first | (go_at_call 128;exact qDI (qEZ _ _ _ (by omega) (by omega) (by unfold Mid;omega)))|exact qDI (ai.out _))))
     refine wpQuiet_nil ?_;intro _ a2;obtain⟨nq,P⟩:=a2;subst P;gi_wp2_with (refine⟨trivial,?_⟩;refine(CallsIn.inRound l (callsIn_wide.2 (aC.out _))).mono ?_;rintro e w' ⟨rfl,rfl⟩);refine⟨qGC _ _ _ _,qGO _ _ _ _ _ _ (by omega) (by simp),qJT ax.out _,?_,?_⟩
     ·rw[j.out];exact qJU H.out
     ·rw[j.out];exact aB
   case done=>
    rintro D ys W hD rfl ⟨I,g,m⟩ a9
    have N:=(qAK E.out (V.mono (Nat.le_refl _))).kept I (by
     by_cases hn:u11.ownBlock=none
     ·exact .inl hn
     ·refine .inr λhe=>?_;have:=(E.out.lt _ he).2
      omega)
    have bg:=I.size;have b5:=qEH g;have be:Below (w.heap.size+5) wr W:=(V.mono (by omega)).trans (qHG I (by omega) (by omega))
    have aQ:Marks (w.heap.size+5) W ds:=a0.out.keep λU _ h'=>by
     have aP:=(gsl h');rw[I.block U (by omega) (λe=>by injection e with e;omega),V.block U aP];exact h'
    have ah:∀d'∈ds,d'≠({target:= .collected D,args:=#[]}:Deferred):=by
     intro d' bn e;subst e
     have:∀(l:List Deferred),Marks (w.heap.size+5) wr l->({target:= .collected D,args:=#[]}:Deferred)∈l->D<wr.heap.size:=by
      intro l
      induction l with
      | nil=>intro _ h;cases h
      | cons x r ih=>
       rintro⟨⟨D1,rfl,_,h1,_⟩,hr⟩ aS
       rcases List.mem_cons.1 aS with h|h
       ·have:D=D1:=by injection h with h _;injection h
        subst this;exact(gsl h1)
       ·exact ih hr h
     have:=this ds a0.out bn;omega
    have⟨aR,ap,aA⟩:=hyd3 aQ ah a9;have O:=Lib.hid N;have ax:=hyd1 I;clear aQ ah a9 N I m g t hP Z hO;gi_wp2_with (first | (gi_at_builtin;go_must (refine qJr rfl _ _ 56 rfl (w.heap.size+5) 3 qB9 u11 (qBa f b dir M K k) rfl (O.out.alloc _) _ [qCO b.length (qBS f b dir M k) K (List.finRange b.length)] rfl (qDU _ _ _) (by rw[qDv];simp;omega) (by simp;omega) ?_)));intro v2 w2 h1 h2 h3 _;have bc:=hyd1 h1;clear h1;have aD:Below (w.heap.size+5) wr (W.alloc (.cells #[.int .i64 (qCO b.length (qBS f b dir M k) K (List.finRange b.length))] 3)):=be.alloc (by omega) _;have bd:Below (w.heap.size+5) wr w2:=aD.trans h2
    have Q:∀U:Nat,W.heap[U]? =some (Obj.deferred (some []))->w2.heap[U]? =some (Obj.deferred (some [])):=λU hd=>by
     have bq:=(gsl hd);rw[h3.block U (by simp;omega) (qR6 O.out hd),Below.heap_alloc _ _ _ bq];exact hd
    have⟨J,bK,bJ⟩:=hyd3 Q h3 h2;clear Q h3 h2 aD;gi_wp2;refine⟨⟨k+1,{target:= .collected D,args:=#[]}::ds,_,_,_,_,_,_,_,_,_,_,_,_,_,_,_,_,_,_,_,_,_,_,_,_,_,_,_,_,_,_,_,_,_,_,_,_,_,_,_,_,_,_,_,rfl,by omega,G.out.keep bd,⟨⟨D,rfl,by omega,J.out D aA.out,ap.out⟩,aR.out.keep λU _ h=>J.out U h⟩,?_⟩,?_⟩
    ·have h:=bc.out;rw[qK2,List.length_append,List.map_append];exact h
    ·simp[intOf];omega
   case stop=>
    rintro D cc B W _ _ h _;exact h.elim
  ·obtain rfl:k=f.length:=by omega
   gi_wp2;refine qAI (w.heap.size+5) ds wr a0.out λw' hb az=>?_;exact⟨_,results_tmp rfl _ _ _,u11,rfl,G.out.below.trans (hb.mono (by omega)),qBq (qFI E.out az) (by omega)⟩
end Go.Proofs.YtabfaobakmjiaaaGreat
namespace Go.Proofs.YtabfaobakmjiaaaGreat
set_option maxRecDepth 100000
set_option maxHeartbeats 4000000
open Go.RowKit
set_option linter.unusedVariables false
set_option linter.unusedSimpArgs false

def qE8 (h d:Int):Int:=h - d
def qD2 (x y:Int):Int:=if x<y then y else x
def qD3 (h d:Int):Int:=h+d
def qCm (x y:Int):Int:=if y<x then y else x
def qCX (f b:List Int):List Int:=qBa f b 1 qE8 qD2 f.length
def qBg (f b:List Int):List Int:=qBa f b (-1) qD3 qCm f.length
theorem qBD (f b:List Int):(qCX f b).length =f.length:=qDv _ _ _ _ _ _
theorem qBd (f b:List Int):(qBg f b).length =f.length:=qDv _ _ _ _ _ _
def qBT (f b:List Int):Int:=if qAY f then(if qAo b f.length then 0 else 31)else 30

theorem qGi (vf vb:Value) (f b:List Int) (w:World) (hf:Ints w vf f) (hb:Ints w vb b):
  Calls Tryz.prog 156 #[vf,vb] w λe w'=>e= .returned (.int .i64 (qBT f b))/\w=w':=by
 have g:=Lib.hid hf;have k:=Lib.hid hb;obtain⟨A,c,rfl,m,l,_,n⟩:=hf;unfold maxLen at l;clear n hb;unfold qBT;obtain⟨B,h⟩:∃B,qAY f=B:=⟨_,rfl⟩;obtain⟨C,i⟩:∃C,qAo b f.length=C:=⟨_,rfl⟩;rw[h,i];have⟨d,j⟩:=hyd2 h i;clear h i
 cases B with
 | false=>
  go_enter Tryz.func156,Tryz.ntmps156;go_wp2_with (first | (go_at_call 50;refine(qB3 _ f _ g.out false d.out).mono ?_;rintro e w' ⟨rfl,rfl⟩));go_ret;exact⟨rfl,rfl⟩
 | true=>
  cases C
  all_goals
   go_enter Tryz.func156,Tryz.ntmps156;go_wp2_with (first | (go_at_call 50;refine(qB3 _ f _ g.out true d.out).mono ?_;rintro e w' ⟨rfl,rfl⟩)| (go_at_call 104;refine(qEQ _ b _ _ k.out _ j.out).mono ?_;rintro e w' ⟨rfl,rfl⟩));go_ret;exact⟨rfl,rfl⟩
theorem qMv (h d:Int) (W:World) (hh:0<=h/\h<=10000) (hd:0<=d/\d<=10000):Calls Tryz.prog 160 #[.int .i64 h,.int .i64 d] W λe w'=>e= .returned (.int .i64 (qE8 h d))/\W=w':=by
 obtain⟨b,c⟩:=hh;obtain⟨f,g⟩:=hd;go_enter Tryz.func160,Tryz.ntmps160;go_wp2;go_ret;exact⟨rfl,rfl⟩
theorem qMw (x y:Int) (W:World):Calls Tryz.prog 161 #[.int .i64 x,.int .i64 y] W λe w'=>e= .returned (.int .i64 (qD2 x y))/\W=w':=by
 unfold qD2
 by_cases h:x<y
 ·rw[if_pos h];go_enter Tryz.func161,Tryz.ntmps161;go_wp2;go_ret;exact⟨rfl,rfl⟩
 ·rw[if_neg h];have b:y<=x:=by omega
  go_enter Tryz.func161,Tryz.ntmps161;go_wp2;go_ret;exact⟨rfl,rfl⟩
theorem qJW (vf vb:Value) (f b:List Int) (w:World) (hf:Ints w vf f) (hb:Ints w vb b) (hfo:qAY f=true) (hbo:qAo b f.length=true):
  Calls Tryz.prog 103 #[vf,vb] w λe w'=>∃v',e= .returned v'/\Below w.heap.size w w'/\w'.ownsRow w.heap.size 3 1 v' (qCX f b).length ((qCX f b).map vint):=by
 have k:=Lib.hid hf;have j:=Lib.hid hb;obtain⟨A,c,rfl,p,o,_,q⟩:=hf;obtain⟨r,s,rfl,n,m,_,l⟩:=hb;clear q l;go_enter Tryz.func103,Tryz.ntmps103;go_wp2_with (first | (go_at_call 157;refine(qJV f b _ _ _ k.out j.out 1 160 161 qE8 qD2 hfo hbo (.inl rfl) (λ_ _=>by kernel_rfl) (λ_ _=>by kernel_rfl) (λh d W g i=>qMv h d W g i) (λh d g i=>by unfold Near qE8;omega) (λx y W _ _=>qMw x y W) (λx y g i=>by unfold Near qD2 at*;split<;>omega)).mono ?_;rintro e w' ⟨v',rfl,g,i⟩));go_ret;exact⟨v',rfl,g,i⟩
theorem qK3 (g:Nat) (G:List Int->List Int->List Int) (vf vb:Value) (f b:List Int) (w:World) (ba:Nat) (hf:Ints w vf f) (hb:Ints w vb b) (hba:ba<w.heap.size)
  (hc:w.cell? ⟨ba,0,none⟩=some (.func (.func g) #[] #[])) (hg:qAW Tryz.prog g) (hgl:(G f b).length =f.length)
  (hG:∀(vf' vb':Value) (W:World),Ints W vf' f->Ints W vb' b->qAY f=true->qAo b f.length=true->Calls Tryz.prog g #[vf',vb'] W λe w'=>∃v',e= .returned v'/\Below W.heap.size W w'/\w'.ownsRow W.heap.size 3 1 v' (G f b).length ((G f b).map vint))
  (E:Int) (hE:qBT f b=E):
  Calls Tryz.prog 101 #[vf,vb,.slice (some ⟨ba,0,none⟩) 1 1] w λe w'=>∃v',e= .returned (.tuple #[v',.int .i64 E])/\Below w.heap.size w w'∧
   (E=0->w'.ownsRow w.heap.size 3 1 v' (G f b).length ((G f b).map vint))/\(E≠0->v'= .slice none 0 0):=by
 have m:=Lib.hid hf;have l:=Lib.hid hb;obtain⟨A,c,rfl,F,D,_,I⟩:=hf;obtain⟨J,L,rfl,C,B,_,y⟩:=hb;have x:=hg;unfold qAW at x;have j:=hyd1 hE;clear I y hE
 by_cases p:E=0
 ·have n:qAY f=true/\qAo b f.length=true:=by
   have:=j.out;unfold qBT at this
   cases z:qAY f<;>cases r:qAo b f.length<;>simp_all
  subst p;go_enter Tryz.func101,Tryz.ntmps101;go_wp2_with (first | (go_at_call 156;refine(qGi _ _ f b _ m.out l.out).mono ?_;rintro e w' ⟨rfl,rfl⟩;rw[j.out]));go_loopw [19,0] (λi s wr=>∃k:Nat,k<=1/\i= .int .i64 k/\Below w.heap.size w wr/\Hid ((k=0->s= .slice A f.length c/\wr=w)/\(k=1->wr.ownsRow w.heap.size 3 1 s (G f b).length ((G f b).map vint)))) (λi _ _=>1 - (intOf i).toNat)
  case atStart=>exact⟨0,by omega,rfl,Below.refl _ _,⟨λ_=>⟨rfl,rfl⟩,λh=>absurd h (by omega)⟩⟩
  case round=>
   obtain⟨k,M,rfl,v,d⟩:=hrel
   obtain rfl|rfl:k=0∨k=1:=by omega
   ·obtain⟨rfl,rfl⟩:=d.out.1 rfl;clear d;go_wp2_with (first | (refine(hG _ _ _ m.out l.out n.1 n.2).mono ?_;rintro e w' ⟨v',rfl,z,r⟩;have t:=Lib.hid r;clear r));go_roundw
    case rel=>exact⟨1,by omega,by go_num,z,⟨λh=>absurd h (by omega),λ_=>t.out⟩⟩
    case measure=>simp[intOf]
   ·have o:=Lib.hid (d.out.2 rfl);clear d;go_wp2;go_ret2;exact⟨_,rfl,v,λ_=>o.out,λh=>absurd rfl h⟩
 ·have H:(E != 0)=true:=by simpa using p
  have q:=hyd1 p;clear p;go_enter Tryz.func101,Tryz.ntmps101;go_wp2_with (first | (go_at_call 156;refine(qGi _ _ f b _ m.out l.out).mono ?_;rintro e w' ⟨rfl,rfl⟩;rw[j.out]));go_ret2;exact⟨_,rfl,Below.refl _ _,λh=>absurd h q.out,λ_=>rfl⟩
theorem qLn (vf vb:Value) (f b:List Int) (w:World) (hf:Ints w vf f) (hb:Ints w vb b) (E:Int) (hE:qBT f b=E):
  Calls Tryz.prog 92 #[vf,vb] w λe w'=>∃v',e= .returned (.tuple #[v',.int .i64 E])/\Below w.heap.size w w'∧
   (E=0->w'.ownsRow w.heap.size 3 1 v' (qCX f b).length ((qCX f b).map vint))/\(E≠0->v'= .slice none 0 0):=by
 have l:=Lib.hid hf;have k:=Lib.hid hb;obtain⟨A,c,rfl,t,s,_,v⟩:=hf;obtain⟨x,y,rfl,q,p,_,m⟩:=hb;clear v m;have j:=hyd1 hE;clear hE;go_enter Tryz.func92,Tryz.ntmps92;go_wp2_with (first | (go_at_call 101;refine(qK3 103 qCX _ _ f b _ w.heap.size (l.out.below (alc1 _ _)) (k.out.below (alc1 _ _)) (by simp) (World.cell?_alloc_at _ _ _ _ rfl) (λ_ _=>by kernel_rfl) (qBD f b) (λo n W d g i r=>qJW o n f b W d g i r) E j.out).mono ?_;rintro e w' ⟨v',rfl,d,g,i⟩));go_ret2;exact⟨v',rfl,(alc1 _ _).trans (d.mono (by simp)),λh=>qBq (g h) (by simp),i⟩
def qFJ (f:List Int) (s:Nat):List Int:=f.drop (f.length - s)++f.take (f.length - s)
theorem qEp (f:List Int) (s:Nat):(qFJ f s).length =f.length:=by simp[qFJ]
theorem qMZ (w:World) (x y:Value) (e:TypeId):Arr id (w.alloc (.cells #[x,y] e)).drew (.slice (some ⟨w.heap.size,0,none⟩) 2 2) [x,y]:=
 ⟨some ⟨w.heap.size,0,none⟩,2,rfl,by simp,by simp[maxLen],λh=>by simp at h,λ_=>⟨w.heap.size,0,rfl,by simp[World.drew],λj hj=>by
  have h:(w.alloc (.cells #[x,y] e)).cell? ⟨w.heap.size,0+j,none⟩=some (id [x,y][j]):=by
   rw[World.cell?_alloc_at _ _ _ _ rfl,Nat.zero_add];simp at hj;rw[Array.getElem?_eq_getElem (by simpa using hj)];simp
  exact h⟩⟩
theorem qOJ (v:Value) (f:List Int) (s:Nat) (w:World) (hv:Ints w v f) (hs:s<=f.length) (hl:f.length<=1000) (hl0:0<f.length):
  Calls Tryz.prog 127 #[v,.int .i64 s] w λe w'=>∃v',e= .returned v'/\Below w.heap.size w w'/\w'.ownsRow w.heap.size 3 1 v' (qFJ f s).length ((qFJ f s).map vint):=by
 have p:=Lib.hid hv;obtain⟨A,c,rfl,J,t,_,L⟩:=hv;unfold maxLen at t;clear L;obtain⟨k,I⟩:∃k:Nat,(f.length:Int) - (s:Int)=(k:Int):=⟨f.length - s,by omega⟩;have l:k<=f.length:=by omega
 have O:=λW=>qJP (qB9:qBR Tryz.prog 56 3 (.int .i64 0) 8) A f.length c k l W;have S:=λW=>qGN (qB9:qBR Tryz.prog 56 3 (.int .i64 0) 8) A f.length c k (by omega) W;have m:f.length - s=k:=by omega
 have N:IntKind.i64.wrap ((f.length:Int) - (s:Int))=(k:Int):=by rw[I];exact IntWalk.i64_in _ (by omega)
 have b:=p.out.cut k f.length l (Nat.le_refl _);have d:=p.out.cut 0 k (Nat.zero_le _) l
 have x:cutA A c 0=A:=by
  unfold cutA
  split
  ·rfl
  ·cases A<;>simp[Addr.add]
 rw[x,Nat.sub_zero,Nat.sub_zero,List.drop_zero]at d;have y:(f.drop k).take (f.length - k)=f.drop k:=List.take_of_length_le (by simp);rw[y]at b;generalize hX:cutA A c k=X at O b;have⟨z,B,E⟩:=hyd3 b d m;have g:(qFJ f s)=[f.drop k,f.take k].flatten :=by simp[qFJ,m]
 have F:=hyd1 g
 have i:[f.drop k,f.take k].flatten.length <=1000000:=by
  rw[<-g,qEp];omega
 rw[g];have D:=hyd1 i
 have n:∀(q:Value) (W:World),Arr id W q [.slice X (f.length - k) (c - k),.slice A k c]->Below w.heap.size w W->Calls Tryz.prog 95 #[q] W λe w'=>∃v',e= .returned v'/\Below W.heap.size W w'/\w'.ownsRow W.heap.size 3 1 v' [f.drop k,f.take k].flatten.length ([f.drop k,f.take k].flatten.map vint):=by
  intro q W r C;refine qJS q _ [f.drop k,f.take k] W r rfl (λj h G=>?_) i (by simp)
  match j,h,G with
  | 0,_,_=>exact b.below C
  | 1,_,_=>exact d.below C
 have o:=hyd1 n;clear m b d x y hX g i n;have M:IntKind.i64.wrap (k:Int)=(k:Int):=IntWalk.i64_in _ (by omega);have P:(0:Int)<=(k:Int):=by omega
 have Q:(k:Int)<=(f.length:Int):=by omega
 have R:(k:Int)<=(c:Int):=by omega
 go_enter Tryz.func127,Tryz.ntmps127;go_wp2
 go_region_held3 (λ_=>True) (go_keep) (first | (go_at_call 95;refine(o.out _ _ (qMZ _ _ _ _) (by first |exact(alc1 _ _).drew)).mono ?_;rintro e w' ⟨v',rfl,r,H⟩))
 go_wp2;go_ret;exact⟨v',rfl,(alc1 _ _).drew.trans (r.mono (by simp)),qBq H (by simp)⟩
def qCL (N:Nat) (X:Nat->Int) (K:Int->Int->Int) (k:Nat):Int:=(List.range k).foldl (qDV N X K) 0
theorem qHk (N:Nat) (X:Nat->Int) (K:Int->Int->Int) (k:Nat):qCL N X K (k+1)=qDV N X K (qCL N X K k) k:=by
 unfold qCL;rw[List.range_succ,List.foldl_append];rfl
theorem qK4 (N:Nat):(List.finRange N).map (·.1)=List.range N:=by
 apply List.ext_getElem
 ·simp
 ·intro i b c;simp
theorem qHl (f b:List Int) (dir:Int) (M K:Int->Int->Int) (p:Nat):qGh f b dir M K p=qCL b.length (qBS f b dir M p) K b.length:=by
 unfold qGh qCO qCL;rw[qK4]
theorem qFK (N:Nat) (X:Nat->Int) (K:Int->Int->Int):qCL N X K 1=X 0:=by
 rw[qHk];simp[qDV]
theorem qE9 (N:Nat) (X:Nat->Int) (K:Int->Int->Int) (k:Nat) (h:0<k):qCL N X K (k+1)=K (qCL N X K k) (X k):=by
 rw[qHk];unfold qDV;rw[if_neg (by omega)]
theorem qJX (x y:Int):qD2 x y=max x y:=by unfold qD2;split<;>omega
theorem qHm (x y:Int):qCm x y=min x y:=by unfold qCm;split<;>omega
theorem qP4 (N:Nat) (X:Nat->Int):∀k j,j<k->X j<=qCL N X qD2 k:=by
 intro k
 induction k with
 | zero=>intro j h;omega
 | succ k ih=>
  intro j h
  rcases Nat.eq_zero_or_pos k with h0|h0
  ·subst h0
   obtain rfl:j=0:=by omega
   rw[qFK];omega
  ·rw[qE9 _ _ _ _ h0,qJX]
   by_cases b:j=k
   ·subst b;omega
   ·have:=ih j (by omega);omega
theorem qOK (N:Nat) (X:Nat->Int):∀k,0<k->∃j,j<k/\qCL N X qD2 k=X j:=by
 intro k
 induction k with
 | zero=>intro h;omega
 | succ k ih=>
  intro _
  rcases Nat.eq_zero_or_pos k with h0|h0
  ·subst h0;exact⟨0,by omega,qFK _ _ _⟩
  ·rw[qE9 _ _ _ _ h0,qJX];obtain⟨j,c,b⟩:=ih h0
   by_cases h:qCL N X qD2 k<=X k
   ·exact⟨k,by omega,by omega⟩
   ·exact⟨j,by omega,by omega⟩
theorem qJt (f b:List Int) (p:Nat) (h:p<f.length):(qCX f b)[p]'(by rw[qBD];exact h)=qCL b.length (qBS f b 1 qE8 p) qD2 b.length:=by
 simp[qCX,qBa,qHl]
theorem rosOk_iff {f:List Int}:qAY f=true↔3<=f.length/\f.length<=96/\∀i (h:i<f.length),0<=f[i]/\f[i]<=10000:=by
 unfold qAY;simp only[Bool.and_eq_true,decide_eq_true_eq,List.all_eq_true];constructor
 ·rintro⟨b,c,d⟩;exact⟨b,c,λi h=>within_iff.1 (d _ (List.getElem_mem h))⟩
 ·rintro⟨b,c,d⟩;refine⟨b,c,λx j=>?_⟩;obtain⟨i,g,rfl⟩:=List.mem_iff_getElem.1 j;exact within_iff.2 (d i g)
theorem rubOk_iff {b:List Int} {n:Int}:qAo b n=true↔b.length%2=1/\(b.length:Int)<=n/\b.length<=31/\(∀i (h:i<b.length),0<=b[i]/\b[i]<=10000)/\b.getD (b.length / 2) 0<=0:=by
 unfold qAo;simp only[Bool.and_eq_true,decide_eq_true_eq,List.all_eq_true];constructor
 ·rintro⟨c,d,f,g,j⟩;exact⟨c,d,f,λi h=>within_iff.1 (g _ (List.getElem_mem h)),j⟩
 ·rintro⟨c,d,f,g,j⟩;refine⟨c,d,f,λx l=>?_,j⟩;obtain⟨i,k,rfl⟩:=List.mem_iff_getElem.1 l;exact within_iff.2 (g i k)
theorem qM0 {b:List Int} {n:Int} (h:qAo b n=true):b.getD (b.length / 2) 0=0:=by
 obtain⟨g,i,j,d,f⟩:=rubOk_iff.1 h;have c:b.length / 2<b.length:=by omega
 have:=d _ c;simp[c]at f ⊢;omega
def atR (f:List Int) (i:Int):Int:=f.getD (i%(f.length:Int)).toNat 0
theorem qHn {f:List Int} (h:qAY f=true) (i:Int):0<=atR f i/\atR f i<=10000:=by
 obtain⟨j,k,c⟩:=rosOk_iff.1 h;have d:=Int.emod_nonneg i (show(f.length:Int)≠0 by omega);have g:=Int.emod_lt_of_pos i (show(0:Int)<(f.length:Int)by omega);have b:(i%(f.length:Int)).toNat <f.length:=by omega
 unfold atR;simp[b];exact c _ b
theorem qGj {f:List Int} (p:Nat) (h:p<f.length):atR f (p:Int)=f[p]:=by
 unfold atR;rw[Int.emod_eq_of_lt (by omega) (by omega)];simp[h]
theorem qHo (f b:List Int) (p j:Nat):qBS f b 1 qE8 p j=atR f ((p:Int)+((j:Int) - (b.length:Int) / 2)) - b.getD j 0:=by
 unfold qBS qE8 atR;rw[Int.one_mul]
theorem qIg {f b:List Int} (hf:qAY f=true) (hb:qAo b f.length=true):qAY (qCX f b)=true:=by
 obtain⟨h,i,k⟩:=rosOk_iff.1 hf;obtain⟨r,s,t,n,v⟩:=rubOk_iff.1 hb;have m:=qM0 hb;refine rosOk_iff.2 ⟨by rw[qBD];exact h,by rw[qBD];exact i,λp c=>?_⟩;have d:p<f.length:=by rw[qBD]at c;exact c
 rw[qJt f b p d];constructor
 ·have:=qP4 b.length (qBS f b 1 qE8 p) b.length (b.length / 2) (by omega);rw[qHo,m]at this;have e:(p:Int)+((b.length / 2:Nat):Int) - (b.length:Int) / 2=(p:Int):=by omega
  rw[show(p:Int)+(((b.length / 2:Nat):Int) - (b.length:Int) / 2)=(p:Int)from by omega,qGj p d]at this;have:=k p d;omega
 ·obtain⟨j,g,l⟩:=qOK b.length (qBS f b 1 qE8 p) b.length (by omega);rw[l,qHo];have o:=qHn hf ((p:Int)+((j:Int) - (b.length:Int) / 2));have q:=n j g;simp[g];omega
def qB4 (f:List Int) (s:Int):List Int:=(List.range f.length).map λ(p:Nat)=>atR f ((p:Int) - s)
theorem qE0 (f:List Int) (s:Int):(qB4 f s).length =f.length:=by simp[qB4]
theorem qMx (f:List Int) (s:Int) (p:Nat) (h:p<f.length):(qB4 f s)[p]'(by rw[qE0];exact h)=atR f ((p:Int) - s):=by simp[qB4]
theorem qQk (f:List Int) (i j:Int) (h:i%(f.length:Int)=j%(f.length:Int)):atR f i=atR f j:=by unfold atR;rw[h]
theorem qMy (f:List Int) (s:Nat) (h:s<=f.length):qFJ f s=qB4 f s:=by
 apply List.ext_getElem
 ·rw[qE0,qEp]
 ·intro p b c;rw[qE0]at c;rw[qMx f s p c]
  revert b
  unfold qFJ;intro b
  by_cases d:p<s
  ·rw[List.getElem_append_left (by simp;omega)];rw[List.getElem_drop]
   have:atR f ((p:Int) - s)=atR f ((f.length - s+p:Nat):Int):=qQk _ _ _ (by
    rw[show((f.length - s+p:Nat):Int)=((p:Int) - s)+f.length*1 from by omega,Int.add_mul_emod_self_left])
   rw[this,qGj _ (by omega)]
  ·rw[List.getElem_append_right (by simp;omega)];rw[List.getElem_take];have e:(p:Int) - s=((p - s:Nat):Int):=by omega
   rw[e,qGj _ (by omega)]
   congr 1
   simp;omega
end Go.Proofs.YtabfaobakmjiaaaGreat

/- Generic predicates: a slice that reads as a list; small laws about worlds. Nothing here depends on the program. 'within', in each package that has one. qAF .. -/
import Derived.Test.YtenjpccpldajoaaGreatDoorRows
import Derived.WalkKit
import Derived.WalkSpells
import Derived.WalkLawsBesides
import Derived.Lib.Hide
import Derived.BigQuiet
import Derived.Deep.QuietTactic
import Derived.Deep.RegionHeld3
import Derived.Deep.DeepCutAuto
import Derived.Laws.OwnMore
import Derived.Laws.EntriesVeiled
import Derived.OwnWalk
import Derived.Laws.CopyOwn
namespace Go.Proofs.YtenjpccpldajoaaGreatDoor
set_option maxRecDepth 100000
open Go.RowKit
set_option linter.unusedVariables false

theorem hyd1 {P0:Prop} (h0:P0):RowKit.Hid P0:=Lib.hid h0
theorem hyd2 {P0 P1:Prop} (h0:P0) (h1:P1):RowKit.Hid P0∧RowKit.Hid P1:=⟨Lib.hid h0,Lib.hid h1⟩
theorem hyd3 {P0 P1 P2:Prop} (h0:P0) (h1:P1) (h2:P2):RowKit.Hid P0∧RowKit.Hid P1∧RowKit.Hid P2:=⟨Lib.hid h0,Lib.hid h1,Lib.hid h2⟩
theorem hyd4 {P0 P1 P2 P3:Prop} (h0:P0) (h1:P1) (h2:P2) (h3:P3):RowKit.Hid P0∧RowKit.Hid P1∧RowKit.Hid P2∧RowKit.Hid P3:=⟨Lib.hid h0,Lib.hid h1,Lib.hid h2,Lib.hid h3⟩
theorem hyd5 {P0 P1 P2 P3 P4:Prop} (h0:P0) (h1:P1) (h2:P2) (h3:P3) (h4:P4):RowKit.Hid P0∧RowKit.Hid P1∧RowKit.Hid P2∧RowKit.Hid P3∧RowKit.Hid P4:=⟨Lib.hid h0,Lib.hid h1,Lib.hid h2,Lib.hid h3,Lib.hid h4⟩
theorem hyd6 {P0 P1 P2 P3 P4 P5:Prop} (h0:P0) (h1:P1) (h2:P2) (h3:P3) (h4:P4) (h5:P5):RowKit.Hid P0∧RowKit.Hid P1∧RowKit.Hid P2∧RowKit.Hid P3∧RowKit.Hid P4∧RowKit.Hid P5:=⟨Lib.hid h0,Lib.hid h1,Lib.hid h2,Lib.hid h3,Lib.hid h4,Lib.hid h5⟩
theorem hyd7 {P0 P1 P2 P3 P4 P5 P6:Prop} (h0:P0) (h1:P1) (h2:P2) (h3:P3) (h4:P4) (h5:P5) (h6:P6):RowKit.Hid P0∧RowKit.Hid P1∧RowKit.Hid P2∧RowKit.Hid P3∧RowKit.Hid P4∧RowKit.Hid P5∧RowKit.Hid P6:=⟨Lib.hid h0,Lib.hid h1,Lib.hid h2,Lib.hid h3,Lib.hid h4,Lib.hid h5,Lib.hid h6⟩
theorem hyd8 {P0 P1 P2 P3 P4 P5 P6 P7:Prop} (h0:P0) (h1:P1) (h2:P2) (h3:P3) (h4:P4) (h5:P5) (h6:P6) (h7:P7):RowKit.Hid P0∧RowKit.Hid P1∧RowKit.Hid P2∧RowKit.Hid P3∧RowKit.Hid P4∧RowKit.Hid P5∧RowKit.Hid P6∧RowKit.Hid P7:=⟨Lib.hid h0,Lib.hid h1,Lib.hid h2,Lib.hid h3,Lib.hid h4,Lib.hid h5,Lib.hid h6,Lib.hid h7⟩
theorem gsl {α:Type _} {a:Array α} {i:Nat} {x:α} (h:a[i]? =some x):i<a.size:=by have q:=Array.getElem?_eq_some_iff.1 h;exact q.1
theorem bcl {n:Nat} {W W':World} {b i:Nat} {v:Value} (h:Below n W W') (hb:b<n) (hc:W.cell? ⟨b,i,none⟩=some v):W'.cell? ⟨b,i,none⟩=some v:=(Below.cell h (p:=⟨b,i,none⟩) hb).trans hc
def Arr {α:Type} (f:α→Value) (w:World) (v:Value) (xs:List α):Prop:=
 ∃A c,v= .slice A xs.length c∧xs.length≤c∧c≤maxLen∧(A=none→c=0)∧
  (0<xs.length→∃b off,A=some ⟨b,off,none⟩∧b<w.heap.size∧∀j (h:j<xs.length),w.cell? ⟨b,off+j,none⟩=some (f xs[j]))

theorem Arr.below {α:Type} {f:α→Value} {w w':World} {v:Value} {xs:List α} (h:Arr f w v xs) (hb:Below w.heap.size w w'):Arr f w' v xs:=by
 obtain⟨A,c,hv,h1,h2,hN,h3⟩:=h;refine⟨A,c,hv,h1,h2,hN,fun h0=>?_⟩;obtain⟨b,off,ha,hlt,hc⟩:=h3 h0;exact⟨b,off,ha,Nat.lt_of_lt_of_le hlt hb.size,fun j hj=>(hb.cell (p:=⟨b,off+j,none⟩) hlt).trans (hc j hj)⟩

theorem Arr.nil {α:Type} (f:α→Value) (w:World):Arr f w (.slice none 0 0) []:=
 ⟨none,0,rfl,Nat.le_refl _,Nat.zero_le _,fun _=>rfl,fun h=>absurd h (by simp)⟩

theorem Below.tr {a b c:World} (h:Below a.heap.size a b) (k:Below b.heap.size b c):Below a.heap.size a c:=h.trans (k.mono h.size)
theorem qK4 {k:IntKind} {a b:Int} (h:a=b):Ending.returned (Value.int k a)=Ending.returned (.int k b):=by rw[h]
theorem qCM {a b:Bool} (h:a=b):Ending.returned (Value.bool a)=Ending.returned (.bool b):=by rw[h]

def qAF (P:Program) (g:FuncId):Prop:=∀args w,(callFunc g args).run P w= .ok (.enter g args) w

def qDP (P:Program) (t e:TypeId) (z:Value) (bytes:Nat):Prop:=
 P.underlying t=some (.slice e)∧(P.info? e).map (fun i=>(i.zero,i.size,i.bytes))=some (some z,1,bytes)∧z.cells.size=1

section
variable {α:Type} {f:α→Value}
theorem Arr.nil_of {w:World} {v:Value} {xs:List α} (h:Arr f w v xs) (hv:∀a n c,v≠ .slice (some a) n c):v= .slice none 0 0∧xs=[]:=by
 obtain⟨A,c,rfl,h1,h2,hN,h3⟩:=h
 cases A with
 | some a=>exact absurd rfl (hv a _ _)
 | none=>
  have hc:=hN rfl;subst hc;have hx:xs=[]:=List.eq_nil_of_length_eq_zero (by omega);subst hx;exact⟨rfl,rfl⟩
theorem Arr.news {w:World} {a:Addr} {n c:Nat} {xs:List α} (h:Arr f w (.slice (some a) n c) xs):∀j u,(xs.map f)[j]? =some u→w.cell? (a.add j)=some u:=by
 intro j u hu;obtain⟨A,c',hv,h1,h2,hN,h3⟩:=h
 have hj:j<xs.length:=by
  have:=(List.getElem?_eq_some_iff.1 hu).1;simpa using this
 obtain⟨b,off,hA,_,hc⟩:=h3 (by omega)
 obtain rfl:a=⟨b,off,none⟩:=by
  injection hv with hv1 _ _;rw[hA]at hv1;exact Option.some.inj hv1
 have:(⟨b,off,none⟩:Addr).add j=⟨b,off+j,none⟩:=by unfold Addr.add;split<;>simp_all
 rw[this,hc j hj];simpa[hj]using hu
theorem Arr.len {w:World} {a:Option Addr} {n c:Nat} {xs:List α} (h:Arr f w (.slice a n c) xs):n=xs.length:=by
 obtain⟨A,c',hv,_⟩:=h;injection hv

theorem qO0 {P:Program} {w:World} (t ty:TypeId) (base:Nat) (e:TypeId) (z:Value) (bytes:Nat) (hE:qDP P t e z bytes)
  (v:Value) (xs:List α) (hown:w.ownsRow base e 1 v xs.length (xs.map f)) (sv:Value) (ys:List α) (hsrc:Arr f w sv ys) (h1:∀y,(f y).oneCell' =true)
  (hbytes:(xs.length+ys.length)*bytes≤140737488355328) (h63:xs.length+ys.length≤9000000000000000000) (hbase:base≤w.heap.size):
  ∃v' w',(Builtin.append_ #[t,t] ty #[v,sv]).run P w= .ok v' w'∧w'.ownsRow base e 1 v' (xs++ys).length ((xs++ys).map f)∧w.grownBy w' v.ownBlock∧(v'.ownBlock=none↔v.ownBlock=none∧ys=[]):=by
 obtain⟨ht,hi,hzs⟩:=hE;obtain⟨i,hi0,hz,hsz,hby⟩:=info_parts hi
 by_cases hsome:∃ad n c,sv= .slice (some ad) n c
 ·obtain⟨ad,n,c,rfl⟩:=hsome;have hn:=hsrc.len;subst hn;obtain⟨v',w',hr,h2,h3,h4⟩:=run_append_own (P:=P) w base t ty e i z 1 bytes ht hi0 hz hsz hby hzs (by decide) v xs.length (xs.map f) hown ad ys.length c (ys.map f) (by simp) hsrc.news (by simp[h1]) (by unfold maxLen;omega) hbytes hbase;refine⟨v',w',hr,by simpa using h2,h3,?_⟩
  have e1:(v'.ownBlock=none)=(v'= .slice none 0 0):=by
   rcases h2.2 with⟨rfl,_⟩| ⟨g,cap,cur,rfl,_⟩<;>simp[Value.ownBlock]
  have e2:(v.ownBlock=none)=(v= .slice none 0 0):=by
   rcases hown.2 with⟨rfl,_⟩| ⟨g,cap,cur,rfl,_⟩<;>simp[Value.ownBlock]
  rw[e1,e2,h4];simp
 ·obtain⟨rfl,rfl⟩:=hsrc.nil_of fun a n c hh=>hsome ⟨a,n,c,hh⟩;exact⟨v,w,run_append_owned_none (P:=P) (w:=w) base t ty e i 1 ht hi0 v xs.length (xs.map f) hown,by simpa using hown,⟨rfl,rfl,rfl,Nat.le_refl _,fun _ _ _=>rfl⟩,by simp⟩
theorem qLy {P:Program} {w:World} {o:Oper} {a:Act} {K:Act→World→Prop} {Q:Exit→Act→World→Prop} (s x:Operand) (t:TypeId)
  (ho:o.op= .call {callee:= .builtin .append,args:=#[s,x],argTypes:=#[t,t]})
  (base:Nat) (e:TypeId) (z:Value) (bytes:Nat) (hE:qDP P t e z bytes)
  (v:Value) (xs:List α) (hs:a.eval s=v) (hown:w.ownsRow base e 1 v xs.length (xs.map f))
  (sv:Value) (ys:List α) (hx:a.eval x=sv) (hsrc:Arr f w sv ys) (h1:∀y,(f y).oneCell' =true)
  (hbytes:(xs.length+ys.length)*bytes≤140737488355328) (h63:xs.length+ys.length≤9000000000000000000) (hbase:base≤w.heap.size)
  (h:∀v' w',w'.ownsRow base e 1 v' (xs++ys).length ((xs++ys).map f)→w.grownBy w' v.ownBlock→(v'.ownBlock=none↔v.ownBlock=none∧ys=[])→K (a.put o.dst v') w'):o.wp P a w K Q:=by
 obtain⟨v',w',hr,h2,h3,h4⟩:=qO0 (P:=P) (w:=w) t o.type base e z bytes hE v xs hown sv ys hsrc h1 hbytes h63 hbase;unfold Oper.wp execOp;simp only[ho,resolve,invoke,builtin,Sem.run_bind,Sem.run_pure,Result.andThen_ok,List.map_toArray,List.map_cons,List.map_nil,hs,hx,hr];exact h v' w' h2 h3 h4
theorem qLA {P:Program} {w:World} {ops:Array Oper} {rest:List Oper} {o:Oper} {a:Act} {Q:Exit→Act→World→Prop} (hgd:o.guard=none) (s x:Operand) (t:TypeId)
  (ho:o.op= .call {callee:= .builtin .append,args:=#[s,x],argTypes:=#[t,t]})
  (base:Nat) (e:TypeId) (z:Value) (bytes:Nat) (hE:qDP P t e z bytes)
  (v:Value) (xs:List α) (hs:a.eval s=v) (hown:w.ownsRow base e 1 v xs.length (xs.map f))
  (sv:Value) (ys:List α) (hx:a.eval x=sv) (hsrc:Arr f w sv ys) (h1:∀y,(f y).oneCell' =true)
  (hbytes:(xs.length+ys.length)*bytes≤140737488355328) (h63:xs.length+ys.length≤9000000000000000000) (hbase:base≤w.heap.size)
  (h:∀v' w',w'.ownsRow base e 1 v' (xs++ys).length ((xs++ys).map f)→w.grownBy w' v.ownBlock→(v'.ownBlock=none↔v.ownBlock=none∧ys=[])→wpList P ops Q rest (a.put o.dst v') w'):wpList P ops Q (o::rest) a w:=
 wpList_plain hgd fun _ hK=>qLy s x t ho base e z bytes hE v xs hs hown sv ys hx hsrc h1 hbytes h63 hbase fun v' w' h2 h3 h4=>hK _ _ (h v' w' h2 h3 h4)

end
theorem qDQ {B:Nat} {a w:World} (h:Below B a w) (n:Nat):Below B a (w.drewN n):=⟨h.os,h.tape,h.output,h.size,h.block⟩
theorem alc1 (w:World) (a:Obj):Below w.heap.size w (w.alloc a):=(Below.refl _ _).alloc (Nat.le_refl _) a
theorem alc2 (w:World) (a b:Obj):Below w.heap.size w ((w.alloc a).alloc b):=(alc1 w a).alloc (by simp) b
theorem alc3 (w:World) (a b c:Obj):Below w.heap.size w (((w.alloc a).alloc b).alloc c):=(alc2 w a b).alloc (by simp;omega) c
theorem qLz (w:World) (e:TypeId) (base:Nat) (hb:base≤w.heap.size):(w.alloc (.cells #[] e)).ownsRow base e 1 (.slice (some ⟨w.heap.size,0,none⟩) 0 0) 0 []:=
 World.ownsRow_made w #[] 0 hb (Nat.zero_le _) rfl
theorem qNR {w:World} {base base' e size n:Nat} {v:Value} {xs:List Value} (h:w.ownsRow base e size v n xs) (hb:base'≤base):w.ownsRow base' e size v n xs:=by
 obtain⟨h1,h2⟩:=h;refine⟨h1,?_⟩
 rcases h2 with h2| ⟨g,cap,cur,hv,hg,r⟩
 ·exact Or.inl h2
 ·exact Or.inr ⟨g,cap,cur,hv,by omega,r⟩
theorem qC5 {w w':World} {base e:Nat} {size n:Nat} {v:Value} {xs:List Value} (h:w.ownsRow base e size v n xs) (hb:Below w.heap.size w w'):w'.ownsRow base e size v n xs:=by
 obtain⟨h1,h2⟩:=h;refine⟨h1,?_⟩
 rcases h2 with h2| ⟨g,cap,cur,hv,hg,hh,r⟩
 ·exact Or.inl h2
 ·exact Or.inr ⟨g,cap,cur,hv,hg,by rw[hb.block g (gsl hh)];exact hh,r⟩
def cutA (A:Option Addr) (c l:Nat):Option Addr:=if c=l then A else A.map (·.add l)
section
variable {P:Program} {t e:TypeId} {z:Value} {bytes:Nat}
theorem qK5 (hE:qDP P t e z bytes):P.underlying t=some (.slice (P.elem t))∧∀W,(sizeOf (P.elem t)).run P W= .ok 1 W:=by
 obtain⟨ht,hi,_⟩:=hE;obtain⟨i,hi0,_,hsz,_⟩:=info_parts hi;have he:P.elem t=e:=by simp[Program.elem,ht]
 rw[he];exact⟨ht,fun W=>by simp[sizeOf,typeInfo,hi0,hsz]⟩
theorem qMA (hE:qDP P t e z bytes) (A:Option Addr) (n c k:Nat) (hk:k≤c) (W:World):
  (Instr.slice t (.slice A n c) none (some (.int .i64 (k:Int))) none).run P W= .ok (.slice A k c) W:=by
 obtain⟨h1,h2⟩:=qK5 hE;rw[run_slice_h (w:=W) t A n c h1 .i64 k (by omega) (by omega),h2];have hz:(fun x:Addr=>x.add 0)=id:=by funext x;simp[Addr.add]
 simp[Result.andThen,sliced,hz]
theorem qLB (hE:qDP P t e z bytes) (A:Option Addr) (n c l k:Nat) (hl:l≤k) (hk:k≤c) (W:World):
  (Instr.slice t (.slice A n c) (some (.int .i64 (l:Int))) (some (.int .i64 (k:Int))) none).run P W= .ok (.slice (cutA A c l) (k - l) (c - l)) W:=by
 obtain⟨h1,h2⟩:=qK5 hE;rw[run_slice_lh (w:=W) t A n c h1 .i64 .i64 l k (by omega) (by omega) (by omega),h2];simp[Result.andThen,sliced,cutA]
end
end Go.Proofs.YtenjpccpldajoaaGreatDoor
namespace Go.Proofs.YtenjpccpldajoaaGreatDoor
set_option maxRecDepth 100000
open Go.RowKit
set_option linter.unusedVariables false
set_option linter.unusedSimpArgs false
theorem qEQ {w:World} {base:Nat} {e:TypeId} {v:Value} {n:Nat} {xs:List Value} (h:w.ownsRow base e 1 v n xs) (hn:0<n):
  ∃g c,v= .slice (some ⟨g,0,none⟩) n c∧base≤g∧g<w.heap.size∧n≤c∧c≤maxLen:=by
 rcases h.2 with⟨rfl,h0⟩| ⟨g,cap,cur,rfl,hbg,hg,hnc,hcm,hsz,htake⟩
 ·omega
 ·exact⟨g,cap,rfl,hbg,(gsl hg),hnc,hcm⟩
theorem qER {α:Type} {f:α→Value} {P:Program} (w:World) {ops:Array Oper} {rest:List Oper} {o:Oper} {a:Act} {Q:Exit→Act→World→Prop}
  (hg:o.guard=none) (l c:Operand) (t:TypeId) (hop:o.op=Op.makeSlice t l c) (base:Nat) (e:TypeId) (z0:α) (bytes:Nat) (hE:qDP P t e (f z0) bytes) (hz1:(f z0).cells =#[f z0]) (hby:bytes≤100000)
  (n:Nat) (hl:a.eval l= .int .i64 (n:Int)) (hc:a.eval c= .int .i64 (n:Int)) (hn:n≤1000000000) (b4:base≤w.heap.size)
  (L:List α) (hL:L=List.replicate n z0)
  (hK:∀w',w'.ownsRow base e 1 (.slice (some ⟨w.heap.size,0,none⟩) n n) n (L.map f)→Below w.heap.size w w'→w.heap.size<w'.heap.size→wpList P ops Q rest (a.put o.dst (.slice (some ⟨w.heap.size,0,none⟩) n n)) w'):
  wpList P ops Q (o::rest) a w:=by
 obtain⟨ht,hi,hzs⟩:=hE;obtain⟨i,hi0,hz,hsz,hby'⟩:=info_parts hi;subst hL;refine wpList_make_full w hg l c t hop base e i (f z0) 1 ht hi0 hz hsz .i64 .i64 _ _ n hl hc rfl rfl (by rw[hby'];exact Nat.le_trans (Nat.mul_le_mul hby hn) (by decide)) (by unfold maxLen;omega) b4 ?_;intro w' h1 h2;refine hK w' ?_ ((Below.refl _ _).grown h2 (Nat.le_refl _) (by simp)) ((h1.lt w.heap.size rfl).2)
 rcases h1.2 with⟨h,_⟩| ⟨g,cap,cur,hv,hb,hh,hnc,hcm,hs,htake⟩
 ·simp at h
 ·refine⟨by simp,.inr ⟨g,cap,cur,hv,hb,hh,hnc,hcm,hs,?_⟩⟩;rw[htake,hz1];apply List.ext_getElem?;intro k;simp[madeCells,List.getElem?_replicate]
  by_cases hk:k<n
  ·simp[hk,Nat.mod_one]
  ·simp[hk]
theorem qBo {α:Type} {f:α→Value} {w:World} {base:Nat} {e:TypeId} {g c n:Nat} {L:List α} (h:w.ownsRow base e 1 (.slice (some ⟨g,0,none⟩) n c) n (L.map f)) (hn:L.length=n) {k:Nat} {x:α} (hk:L[k]? =some x):w.cell? ⟨g,k,none⟩=some (f x):=by
 have hlt:k<L.length:=(List.getElem?_eq_some_iff.1 hk).1;rw[h.cellAt k (by omega)];simp[hk]
theorem qC6 {α:Type} {f:α→Value} {w:World} {base:Nat} {e:TypeId} {g c n:Nat} {L:List α} (h:w.ownsRow base e 1 (.slice (some ⟨g,0,none⟩) n c) n (L.map f)) (k:Nat) (y:α):
  (w.setCell ⟨g,k,none⟩ (f y)).ownsRow base e 1 (.slice (some ⟨g,0,none⟩) n c) n ((L.set k y).map f):=by
 have h1:=(h.stored k (f y)).1;rw[List.map_set];exact h1
end Go.Proofs.YtenjpccpldajoaaGreatDoor

/- exact.run at lists and at pairs of lists. (Printed by gen_runsl.py.) Polynomials: what comes in, what goes out, zeros at the end cut off. -/
import Derived.Test.YtenjpccpldajoaaGreatDoorPk19
namespace Go.Proofs.YtenjpccpldajoaaGreatDoor
set_option maxRecDepth 100000
set_option maxHeartbeats 1000000
open Go.RowKit Go.Shelf
set_option linter.unusedVariables false
set_option linter.unusedSimpArgs false
def KpN (n:Nat) (W W':World):Prop:=Kp .u32 W W'∧∀b,n≤b→b<W.heap.size→W'.heap[b]? =W.heap[b]?
theorem KpN.refl (n:Nat) (W:World):KpN n W W:=⟨Kp.refl W,fun _ _ _=>rfl⟩
theorem KpN.set {n:Nat} {w W:World} (h:KpN n w W) {g i:Nat} {u:Value} (hg:NIB .u32 W g) (hu:NI .u32 u) (hn:g<n):KpN n w (W.setCell ⟨g,i,none⟩ u):=
 ⟨h.1.set hg hu,fun b h1 h2=>(Below.heap_setCell _ ⟨g,i,none⟩ _ b (by show b≠g;omega)).trans (h.2 b h1 h2)⟩
theorem nib1 {W:World} {B:Nat} {x:Value} {t:TypeId} (h:W.heap[B]? =some (.cells #[x] t)) (hx:NI .u32 x):NIB .u32 W B:=⟨_,_,h,fun u hu=>by simp at hu;subst hu;exact hx⟩
theorem nib2 {W:World} {B:Nat} {x y:Value} {t:TypeId} (h:W.heap[B]? =some (.cells #[x,y] t)) (hx:NI .u32 x) (hy:NI .u32 y):NIB .u32 W B:=⟨_,_,h,fun u hu=>by simp at hu;rcases hu with rfl|rfl<;>assumption⟩
theorem qEd {W:World} {B:Nat} {cs:Array Value} {t:TypeId} (h:W.heap[B]? =some (.cells cs t)) (i:Nat) (v:Value):(W.setCell ⟨B,i,none⟩ v).heap[B]? =some (.cells (cs.setIfInBounds i v) t):=by
 simp only[World.setCell,Array.getElem?_modify,h];simp
theorem qM9 (z:Int):NI .u32 (.int .i64 z):=fun _ h=>by cases h
theorem qKQ (p q:Addr) (w:World):
  CallsD Tryz.prog 126 #[.pointer (some p),.pointer (some q)] .returning w fun e u' w'=>e= .returned (.tuple #[])∧u'= .returning ∧w'=w:=by
 refine callsD_of_wpS Tryz.func126 rfl fun c₀ cs hu=>?_;apply wpS_seq;apply wpS_region;simp[wpOpsS,go_sem,recoverD,hu,Tryz.ntmps126,Exit.thenS];apply wpS_seq;apply wpS_region;simp[wpOpsS,go_sem,recoverD,hu,Tryz.ntmps126,Exit.thenS];refine wpS_cond (t:=false) (by simp[Act.eval,Array.replicate]) ?_;simp only[Bool.false_eq_true,if_false];refine wpS_of_wp (wp_skip ?_)
 cases c₀
 simp_all [bodyPostS,results,Tryz.results126]
theorem qIu (B:Nat) (e:Int) (X0:Option Addr) (x0 y0:Nat) (b:Value) (tp tq:TypeId) (w:World) (hb:w.heap[B]? =some (.cells #[.slice X0 x0 y0] tp)) (hq:w.heap[B+1]? =some (.cells #[b] tq)):
  CallsD Tryz.prog 126 #[.pointer (some ⟨B,0,none⟩),.pointer (some ⟨B+1,0,none⟩)] (.panicking (flt e)) w fun E u' w'=>E= .returned (.tuple #[])∧u'= .panicking [{v:= .iface 137 (.agg #[.int .i64 e]),recovered:=true}]∧
   w'.heap[B]? =some (.cells #[.slice none 0 0] tp)∧w'.cell? ⟨B+1,0,none⟩=some (.int .i64 e)∧∀w0,Le w0 w→w0.heap.size≤B→Le w0 w':=by
 refine callsD_of_wpS Tryz.func126 rfl fun c₀ cs hu=>?_;apply wpS_seq;apply wpS_region;simp[wpOpsS,go_sem,recoverD,hu,Tryz.ntmps126,Exit.thenS];apply wpS_seq;apply wpS_region;simp[wpOpsS,go_sem,recoverD,hu,Tryz.ntmps126,Exit.thenS];refine wpS_cond (t:=true) (by simp[Act.eval,Array.replicate]) ?_;simp only[if_true];refine wpS_of_wp ?_;have hta:∀W:World,(Instr.typeAssert (Value.iface 137 (Value.agg #[Value.int IntKind.i64 e])) 20 137 true).run Tryz.prog W= .ok (.tuple #[.agg #[.int .i64 e],.bool true]) W:=fun _=>by kernel_rfl
 have harr:∀a b c d e f g h:Value,#[a,b]++((((((Array.replicate 18 undef).setIfInBounds 4 c).setIfInBounds 0 d).setIfInBounds 5 e).setIfInBounds 6 f))=#[a,b,d,undef,undef,undef,c,e,f,undef,undef,undef,undef,undef,undef,undef,undef,undef,undef,undef]:=fun _ _ _ _ _ _ _ _=>by first |kernel_rfl|simp[Array.replicate_succ]
 rw[harr _ _ _ _ _ _ undef undef];go_wp2;have hle:=qAB w (.cells #[.int .i64 e] 137);have hk:=heap_alloc_new w (.cells #[.int .i64 e] 137);generalize hW:w.alloc (.cells #[.int .i64 e] 137)=W at*;have hb2:=(Below.block hle B (gsl hb)).trans hb;have hq2:=(Below.block hle (B+1) (gsl hq)).trans hq;have hBl:=(gsl hb);have hql:=(gsl hq);have c10:W.cell? ⟨B,0,none⟩=some (.slice X0 x0 y0):=cell_of_row W B 0 _ _ _ hb2;have f0:=fz0 hb2 0;have c2:=qAC hq2;have fq:=fz0 hq2 0;have c3:=qAC hk

 have n1:¬w.heap.size=B:=by omega
 have n2:¬w.heap.size=B+1:=by omega
 have n3:¬B=w.heap.size:=by omega
 have n4:¬B+1=w.heap.size:=by omega
 have n5:¬B+1=B:=by omega
 have n6:¬w.heap.size+1=B:=by omega
 have n7:¬w.heap.size+1=B+1:=by omega
 have n8:¬B=w.heap.size+1:=by omega
 have⟨hW',hle',hk',hb',hq',hb2',hq2',hu'⟩:=hyd8 hW hle hk hb hq hb2 hq2 hu;clear hu hq2 hb2 hq hb hk hle hW;go_region;have h1:=qEd (hb2'.out) 0 (.slice none 0 0);have h2:(W.setCell ⟨B,0,none⟩ (.slice none 0 0)).heap[B+1]? =some (.cells #[b] tq):=(Below.heap_setCell _ ⟨B,0,none⟩ _ _ (by show B+1≠B;omega)).trans (hq2'.out);have hle8:∀w0,Le w0 w→w0.heap.size≤B→Le w0 (W.setCell ⟨B,0,none⟩ (.slice none 0 0)):=fun w0 h0 h5=>((Le.trans h0 hle'.out).setCell (p:=⟨B,0,none⟩) (by show _≤B;omega) (.slice none 0 0));generalize (W.setCell ⟨B,0,none⟩ (.slice none 0 0))=V1 at*;have h3:=qAW h2 (u:= .int .i64 e);have h4:(V1.setCell ⟨B+1,0,none⟩ (.int .i64 e)).heap[B]? =_:=(Below.heap_setCell _ _ _ _ (by show B≠B+1;omega)).trans h1
 have hle9:∀w0,Le w0 w→w0.heap.size≤B→Le w0 (V1.setCell ⟨B+1,0,none⟩ (.int .i64 e)).drew :=fun w0 h0 h5=>
  Le.trans ((hle8 w0 h0 h5).setCell (p:=⟨B+1,0,none⟩) (by show w0.heap.size≤B+1;omega) _) Le.drew
 have d1:(V1.setCell ⟨B+1,0,none⟩ (.int .i64 e)).drew.heap[B]? =_:=h4;have d2:(V1.setCell ⟨B+1,0,none⟩ (.int .i64 e)).drew.cell? ⟨B+1,0,none⟩=_:=qAC h3;generalize (V1.setCell ⟨B+1,0,none⟩ (.int .i64 e)).drew =V at*;show bodyPostS _ _ _ _ _ _ _ _ _;simp[bodyPostS,results,Tryz.results126,go_sem,d1,d2];exact hle9
theorem qJ6 (Φ:Value→World→Prop) (g:FuncId) (cap:Array Value) (w:World) (hg:qAF Tryz.prog g) (hst:∀v W W',Φ v W→KpN (w.heap.size+2) W W'→Φ v W') (hf:∀W,Le w W→w.heap.size+2≤W.heap.size→Calls Tryz.prog g cap W fun e W'=>∃A0 n0 c0,e= .returned (.slice A0 n0 c0)∧Le W W'∧Φ (.slice A0 n0 c0) W'):
  Calls Tryz.prog 76 #[.func (.func g) #[] cap] w fun e w'=>∃v,e= .returned (.tuple #[v,.int .i64 0])∧Le w w'∧Φ v w':=by
 have hmf:∀(fn:Fn) (first cap:Array Value) (w:World),(Instr.makeFunc fn first cap).run Tryz.prog w= .ok (.func fn first cap) w:=fun _ _ _ _=>rfl;unfold qAF at hg
 go_enter_defers Tryz.func76,Tryz.ntmps76
 go_wp2_with (fail);refine(hf _ ((qAB _ _).trans (qAB _ _)) (by simp)).mono ?_;rintro e W ⟨A0,n0,c0,rfl,hle,hfr⟩;obtain⟨hle1,hb,hq⟩:=qAi hle;have c10:W.cell? ⟨w.heap.size,0,none⟩=some (.slice none 0 0):=cell_of_row W _ 0 _ _ _ hb;have f10:=fz0 hb 0;have e2:=qAC hq;have f2:=fz0 hq 0;have hBl:=(gsl hb);have hql:=(gsl hq);have⟨hle',hle1',hb',hq',hfr'⟩:=hyd5 hle hle1 hb hq hfr;clear hfr hq hb hle1 hle;go_wp2;have hn1:NIB .u32 W w.heap.size:=nib1 hb'.out (qAK _ _ _);have hkp1:KpN (w.heap.size+2) W (W.setCell ⟨w.heap.size,0,none⟩ (.slice A0 n0 c0)):=((KpN.refl _ W).set hn1 (qAK _ _ _) (by omega));have h1:=qEd (hb'.out) 0 (.slice A0 n0 c0);have h2:(W.setCell ⟨w.heap.size,0,none⟩ (.slice A0 n0 c0)).heap[w.heap.size+1]? =_:=(Below.heap_setCell _ ⟨w.heap.size,0,none⟩ _ _ (by show w.heap.size+1≠w.heap.size;omega)).trans (hq'.out);have hle8:Le w (W.setCell ⟨w.heap.size,0,none⟩ (.slice A0 n0 c0)):=(hle1'.out.setCell (p:=⟨w.heap.size,0,none⟩) (by show _≤w.heap.size;omega) (.slice A0 n0 c0));generalize (W.setCell ⟨w.heap.size,0,none⟩ (.slice A0 n0 c0))=V1 at*;have h3:=qAW h2 (u:= .int .i64 0);have h4:(V1.setCell ⟨w.heap.size+1,0,none⟩ (.int .i64 0)).heap[w.heap.size]? =_:=(Below.heap_setCell _ _ _ _ (by show w.heap.size≠w.heap.size+1;omega)).trans h1;have hle9:Le w (V1.setCell ⟨w.heap.size+1,0,none⟩ (.int .i64 0)):=hle8.setCell (p:=⟨w.heap.size+1,0,none⟩) (by show w.heap.size≤w.heap.size+1;omega) _
 have hkp2:=hkp1.set (g:=w.heap.size+1) (i:=0) (u:= .int .i64 0) (nib1 h2 (qM9 0)) (qM9 _) (by omega);have hfin:=hst _ _ _ hfr'.out hkp2;have d10:=cell_of_row _ w.heap.size 0 _ _ _ h4;have d2:=qAC h3;refine leaves_cons (f:=126) (args:=#[.pointer (some ⟨w.heap.size,0,none⟩),.pointer (some ⟨w.heap.size+1,0,none⟩)]) (by simp) (by simp[go_sem]) ?_;refine(qKQ _ _ _).mono ?_;rintro e u' w'' ⟨rfl,rfl,rfl⟩;simp[Leaves,settle,results,Tryz.results76,go_sem,d10,d2];exact⟨hle9,hfin⟩
theorem qIv (x:Int) (g:FuncId) (cap:Array Value) (w:World) (hg:qAF Tryz.prog g) (hf:∀W,Le w W→w.heap.size+2≤W.heap.size→Calls Tryz.prog g cap W fun e W'=>e= .panicked (flt x)∧Le W W'):
  Calls Tryz.prog 76 #[.func (.func g) #[] cap] w fun e w'=>e= .returned (.tuple #[.slice none 0 0,.int .i64 x])∧Le w w':=by
 have hmf:∀(fn:Fn) (first cap:Array Value) (w:World),(Instr.makeFunc fn first cap).run Tryz.prog w= .ok (.func fn first cap) w:=fun _ _ _ _=>rfl;unfold qAF at hg
 go_enter_defers Tryz.func76,Tryz.ntmps76
 go_wp2_with (fail);refine(hf _ ((qAB _ _).trans (qAB _ _)) (by simp)).mono ?_;rintro e W ⟨rfl,hle⟩;obtain⟨hle1,hb,hq⟩:=qAi hle;have hle':=hyd1 hle;clear hle;go_wp2;refine leaves_cons (f:=126) (args:=#[.pointer (some ⟨w.heap.size,0,none⟩),.pointer (some ⟨w.heap.size+1,0,none⟩)]) (by simp) (by simp[go_sem]) ?_;refine(qIu w.heap.size x _ _ _ _ _ _ _ hb hq).mono ?_;rintro e u' w'' ⟨rfl,rfl,d1,d2,hl⟩;have hle9:=hl w hle1 (Nat.le_refl _);have d10:_=some (Value.slice none 0 0):=cell_of_row w'' w.heap.size 0 _ _ _ d1;simp[Leaves,settle,results,Tryz.results76,go_sem,d10,d2];exact hle9
noncomputable def inE (x:FracA):Except Int Rat:=
 match x.rat? with
 | some r=> .ok r
 | none=> .error 10
def qAZ (rs:List Rat):Bool:=decide (rs.length=0)|| !decide (rs.getD (rs.length - 1) 0=0)
noncomputable def qAc (l:List FracA):Except Int (List Rat):=
 if 65<l.length then .error 4 else match mapE inE l with
  | .error z=> .error z
  | .ok rs=>if qAZ rs then .ok rs else .error 10
noncomputable def qDd (rs:List Rat):Except Int (List Rat):=if 65<rs.length then .error 12 else mapE outR rs
def topN (l:List Rat):Nat→Nat
 | 0=>0
 | n+1=>if l.getD n 0=0 then topN l n else n+1
theorem qKj (l:List Rat):∀n,topN l n≤n
 | 0=>Nat.le_refl _
 | n+1=>by
  unfold topN
  split
  ·exact Nat.le_succ_of_le (qKj l n)
  ·exact Nat.le_refl _
def cutz (l:List Rat):List Rat:=l.take (topN l l.length)
theorem qDm {α β:Type} {f:α→Except Int β}:∀{l:List α} {ys:List β},mapE f l= .ok ys→ys.length=l.length
 | [],ys,h=>by
  have:ys=[]:=by simpa[mapE]using h.symm
  subst this;rfl
 | a::l,ys,h=>by
  cases ha:f a with
  | error z=>simp[mapE,ha]at h
  | ok b=>
   cases hl:mapE f l with
   | error z=>simp[mapE,ha,hl]at h
   | ok bs=>
    have:b::bs=ys:=by simpa[mapE,ha,hl]using h
    subst this;simp[qDm hl]
theorem RowE.take {α:Type} {K:EK α} {e:TypeId} {base:Nat} {w:World} {A:Option Addr} {c:Nat} {xs:List α} (h:RowE K e base w (.slice A xs.length c) xs) {m:Nat} (hm:m≤xs.length):RowE K e base w (.slice A m c) (xs.take m):=by
 obtain⟨css,h1,h2,h3,h4⟩:=h;have hcl:=qIC h1 h4;have hlen:(xs.take m).length =m:=by rw[List.length_take];omega
 have hcs:∀cs∈css.take m,cs.length=K.sz:=fun cs hx=>hcl cs (List.mem_of_mem_take hx);refine⟨css.take m,by rw[List.length_take,List.length_take,h1],⟨?_,?_⟩,fun g cur t hg=>h3 g cur t (by cases A with |none=>cases hg|some a=>exact hg),fun j hj=>?_⟩
 ·rw[qDl _ hcs,List.length_take,hlen];congr 1;omega
 ·rw[hlen]
  rcases h2.2 with⟨hv,hx⟩| ⟨g,cap,cur,hv,hbg,hg,hnc,hcm,hcsz,htake⟩
  ·injection hv with e1 e2 e3;subst e1 e3;exact .inl ⟨by rw[show m=0 by omega],by omega⟩
  ·injection hv with e1 e2 e3;subst e1 e3;refine .inr ⟨g,c,cur,rfl,hbg,hg,by omega,hcm,hcsz,?_⟩
   have h5:css.flatten.take (m*K.sz)=(css.take m).flatten :=by
    have h6:css.flatten=(css.take m).flatten ++(css.drop m).flatten :=by rw[←List.flatten_append,List.take_append_drop]
    rw[h6,List.take_append_of_le_length (by rw[qDl _ hcs,List.length_take,show min m css.length=m by omega];exact Nat.le_refl _),List.take_of_length_le (by rw[qDl _ hcs,List.length_take,show min m css.length=m by omega];exact Nat.le_refl _)]
   rw[←h5,←htake,List.take_take,Nat.min_eq_left (Nat.mul_le_mul_right _ hm)]
 ·have hjm:j<m:=by rw[hlen]at hj;exact hj
  have hq:=h4 j (by omega);rw[List.getElem_take];rw[List.getD_eq_getElem?_getD]at hq ⊢;rw[List.getElem?_take,if_pos hjm];exact hq
theorem qPP (base:Nat) (v:Value) (xs:List Rat) (w:World) (hv:RowE (ratK .u32) 70 base w v xs) (hl:xs.length≤1000000):
  Calls Tryz.prog 79 #[v] w fun e w'=>∃A c,v= .slice A xs.length c∧e= .returned (.slice A (topN xs xs.length) c)∧Le w w'∧RowE (ratK .u32) 70 base w' (.slice A (topN xs xs.length) c) (cutz xs):=by
 obtain⟨A,c,rfl⟩:=hv.slice;obtain⟨n,hn⟩:∃n,xs.length=n:=⟨_,rfl⟩;rw[hn]at hl;have⟨hv',hn'⟩:=hyd2 hv hn;clear hn hv;rw[hn'.out];rw[hn'.out]at hv';go_enter Tryz.func79,Tryz.ntmps79;go_wp2_with (fail);go_loopw [0] (fun s wr=>∃m:Nat,s= .slice A m c∧m≤n∧Hid (topN xs n=topN xs m)∧Hid (Below w.heap.size w wr)) (fun s _=>qC3 s)
 case atStart=>exact⟨n,rfl,Nat.le_refl _,Lib.hid rfl,Lib.hid (Below.refl _ _)⟩
 case round=>
  obtain⟨m,rfl,hm,ht,hb⟩:=hrel
  by_cases h0:m=0
  ·subst h0;have hb9:=hb.out;have hr9:=hv'.out.le hb9;have⟨hb9',hr9'⟩:=hyd2 hb9 hr9;clear hr9 hb9;go_wp2;go_ret;rw[ht.out];refine⟨A,c,rfl,rfl,hb9'.out,?_⟩;have hr0:=RowE.take (xs:=xs) (m:=0) (A:=A) (c:=c) (by rw[hn'.out];exact hr9'.out) (Nat.zero_le _);unfold cutz;rw[hn'.out,ht.out];exact hr0
  ·obtain⟨k,rfl⟩:∃k,m=k+1:=⟨m - 1,by omega⟩;have hkx:k<xs.length:=by rw[hn'.out];omega
   obtain⟨g,c',e1,hbg,hgl,hnc,hcm,cs,hrd,hc⟩:=(hv'.out.le hb.out).at hkx;rw[hn'.out]at e1 hnc;unfold maxLen at hcm;injection e1 with e1 e2 e3;subst e1 e3;clear e2;have hgd:xs.getD k 0=xs[k]:=by rw[List.getD_eq_getElem?_getD,List.getElem?_eq_getElem hkx];rfl
   have hts:topN xs (k+1)=if xs.getD k 0=0 then topN xs k else k+1:=rfl;rw[hgd]at hts;generalize xs[k]=x at hrd hgd hts;obtain⟨s1,A1,n1,c1,B1,m1,d1,rfl,hxa⟩:=hrd;have q0:wr.cell? ⟨g,k*3,none⟩=some (.bool s1):=hc 0 _ rfl;have q1:wr.cell? ⟨g,k*3+1,none⟩=some (.slice A1 n1 c1):=hc 1 _ rfl;have q2:wr.cell? ⟨g,k*3+2,none⟩=some (.slice B1 m1 d1):=hc 2 _ rfl;have hcall:=qEX _ x _ wr hxa
   by_cases hx:x=0
   ·have hz:rsgn x=0:=by rw[hx];rfl
    rw[hz]at hcall;rw[if_pos hx,←ht.out]at hts;have hb8:=hb.out;have⟨hcall',hxa',hts',hb8'⟩:=hyd4 hcall hxa hts hb8;clear hb8 hts hxa hcall;clear hb ht;go_wp2_with (fail);go_at_call 60;refine hcall'.out.mono ?_;rintro e W2 ⟨rfl,hle⟩;have hb9:=(show Below w.heap.size w wr from hb8'.out).trans (hle.mono (hb8'.out).size);have⟨hle',hb9'⟩:=hyd2 hle hb9;clear hb9 hle;go_wp2;go_roundw
    case rel=>exact⟨k,by go_num,by omega,hts',hb9'⟩
    case measure=>simp[qC3]
   ·have hz:¬rsgn x=0:=by unfold rsgn;simpa using hx
    have hz2:(rsgn x==0)=false:=by simpa using hz
    rw[if_neg hx,←ht.out]at hts;have hb8:=hb.out;obtain⟨sg,hsg⟩:∃sg,rsgn x=sg:=⟨_,rfl⟩;rw[hsg]at hcall hz hz2;have⟨hcall',hxa',hts',hb8',hsg'⟩:=hyd5 hcall hxa hts hb8 hsg;clear hsg hb8 hts hxa hcall;clear hb ht;go_wp2_with (fail);go_at_call 60;refine hcall'.out.mono ?_;rintro e W2 ⟨rfl,hle⟩;have hb9:=(show Below w.heap.size w wr from hb8'.out).trans (hle.mono (hb8'.out).size);have hr9:=hv'.out.le hb9;have⟨hle',hb9',hr9'⟩:=hyd3 hle hb9 hr9;clear hr9 hb9 hle;go_wp2;go_ret;rw[hts'.out];refine⟨_,c,rfl,rfl,hb9'.out,?_⟩;have hr0:=RowE.take (xs:=xs) (m:=k+1) (A:=some ⟨g,0,none⟩) (c:=c) (by rw[hn'.out];exact hr9'.out) (by rw[hn'.out];exact hm);unfold cutz;rw[hn'.out,hts'.out];exact hr0
theorem qNh:qAF Tryz.prog 41:=fun _ _=>by kernel_rfl
theorem qPb (W:World) (x:FracA):ElOk Tryz.prog inK (ratK .u32) inE 41 #[] #[] W x:=by
 rintro cs ⟨A,c,B,d,rfl,hx⟩
 cases hr:x.rat? with
 | some r=>
  refine(qAh (fun _=>True) x r _ W (Up.any _) hx hr).mono ?_;rintro e W' ⟨v',rfl,hle,hv⟩;have hv2:=hv;obtain⟨A1,c1,A2,c2,rfl,-,-⟩:=hv.form;exact⟨hle,.inl ⟨r,_,by unfold inE;rw[hr],rfl,_,_,_,_,_,_,_,rfl,hv2⟩⟩
 | none=>
  refine(qBC (fun _=>True) x _ W (Up.any _) hx hr).mono ?_;rintro e W' ⟨rfl,hle⟩;exact⟨hle,.inr ⟨10,by unfold inE;rw[hr],rfl⟩⟩
theorem qMa:qAF Tryz.prog 50:=fun _ _=>by kernel_rfl
theorem qPQ (L:Nat→Prop) (W:World) (hL:Up W L) (r:Rat):ElOk Tryz.prog (ratK .u32) (frK L) outR 50 #[] #[] W r:=by
 rintro cs ⟨s,A,n,c,B,m,d,rfl,hx⟩
 by_cases hs:Rsz r 40
 ·refine(qCK L (fun _=>True) r _ W hL hx hs).mono ?_;rintro e W' ⟨v',rfl,hle,hv⟩;have hv2:=hv;obtain⟨A1,c1,B1,d1,rfl,-,-⟩:=hv;exact⟨hle,.inl ⟨r,_,qAj hs,rfl,_,_,_,_,_,_,_,_,rfl,hv2⟩⟩
 ·refine(qDH (fun _=>True) r _ W hx hs).mono ?_;rintro e W' ⟨rfl,hle⟩;exact⟨hle,.inr ⟨12,qGJ hs,rfl⟩⟩
theorem qLZ (L:Nat→Prop) (v:Value) (rs:List Rat) (w:World) (hL:Up w L) (hv:SeqE (ratK .u32) w v rs):
  Calls Tryz.prog 75 #[v] w (MapPost (frK L) 26 w (qDd rs)):=by
 obtain⟨A,c,rfl,hlc,hcm,-⟩:=hv.slice;unfold maxLen at hcm
 have hmap:rs.length≤65→Calls Tryz.prog 125 #[.slice A rs.length c,.func (.func 50) #[] #[]] w (MapPost (frK L) 26 w (mapE outR rs)):=fun h=>
  qLY L outR 50 #[] #[] _ rs w hv (by omega) qMa fun W hW x _=>qPQ L W (hL.le hW) x
 by_cases h:65<rs.length
 ·have e1:qDd rs= .error 12:=by unfold qDd;rw[if_pos h]
  rw[e1];obtain⟨n,hn⟩:∃n,rs.length=n:=⟨_,rfl⟩;rw[hn]at h hlc;have h2:¬(n:Int)≤65:=by omega
  have⟨hv',hmap',e1',hn'⟩:=hyd4 hv hmap e1 hn;clear hn e1 hmap hv;rw[hn'.out];go_enter Tryz.func75,Tryz.ntmps75;go_wp2_with (fail);go_at_call 48;refine(qAY _ _).mono ?_;rintro e W3 ⟨rfl,rfl⟩;go_wp2_with (fail);exact⟨rfl,Le.refl _,.inr ⟨12,rfl,rfl⟩⟩
 ·have e1:qDd rs=mapE outR rs:=by unfold qDd;rw[if_neg h]
  rw[e1];have hm:=hmap (by omega);obtain⟨n,hn⟩:∃n,rs.length=n:=⟨_,rfl⟩;rw[hn]at h hlc hm;have h2:(n:Int)≤65:=by omega
  clear hmap;have⟨hv',e1',hn',hm'⟩:=hyd4 hv e1 hn hm;clear hm hn e1 hv;rw[hn'.out];go_enter Tryz.func75,Tryz.ntmps75;go_wp2_with (fail);go_at_call 48;refine(qAX _ _).mono ?_;rintro e W3 ⟨rfl,rfl⟩;go_wp2_with (fail);go_at_call 125;refine hm'.out.mono ?_;rintro e W4 ⟨hle,⟨ys,v4,hy,rfl,hrow⟩| ⟨z,hz,rfl⟩⟩
  ·have⟨hle',hy',hrow'⟩:=hyd3 hle hy hrow;clear hrow hy hle;go_wp2;go_ret;exact⟨hle'.out,.inl ⟨ys,_,hy'.out,rfl,hrow'.out⟩⟩
  ·have⟨hle',hz'⟩:=hyd2 hle hz;clear hz hle;go_wp2_with (fail);exact⟨rfl,hle'.out,.inr ⟨z,hz'.out,rfl⟩⟩
theorem qEe (v:Value) (l:List FracA) (w:World) (hv:SeqE inK w v l):
  Calls Tryz.prog 73 #[v] w (MapPost (ratK .u32) 70 w (qAc l)):=by
 obtain⟨A,c,rfl,hlc,hcm,-⟩:=hv.slice;unfold maxLen at hcm
 by_cases h:65<l.length
 ·have e1:qAc l= .error 4:=by unfold qAc;rw[if_pos h]
  rw[e1];obtain⟨n,hn⟩:∃n,l.length=n:=⟨_,rfl⟩;rw[hn]at h hlc;have h2:¬(n:Int)≤65:=by omega
  have⟨hv',e1',hn'⟩:=hyd3 hv e1 hn;clear hn e1 hv;rw[hn'.out];go_enter Tryz.func73,Tryz.ntmps73;go_wp2_with (fail);go_at_call 48;refine(qAY _ _).mono ?_;rintro e W3 ⟨rfl,rfl⟩;go_wp2_with (fail);exact⟨rfl,Le.refl _,.inr ⟨4,rfl,rfl⟩⟩
 ·have e1:qAc l=match mapE inE l with
   | .error z=> .error z
   | .ok rs=>if qAZ rs then .ok rs else .error 10:=by unfold qAc;rw[if_neg h]
  have hm:=qM6 inE 41 #[] #[] _ l w hv (by omega) qNh fun W hW x _=>qPb W x;obtain⟨n,hn⟩:∃n,l.length=n:=⟨_,rfl⟩;rw[hn]at h hlc hm;have h2:(n:Int)≤65:=by omega
  have⟨hv',e1',hn',hm'⟩:=hyd4 hv e1 hn hm;clear hm hn e1 hv;rw[hn'.out];go_enter Tryz.func73,Tryz.ntmps73;go_wp2_with (fail);go_at_call 48;refine(qAX _ _).mono ?_;rintro e W3 ⟨rfl,rfl⟩;go_wp2_with (fail);go_at_call 124;refine hm'.out.mono ?_;rintro e W4 ⟨hle,⟨ys,v4,hy,rfl,hrow⟩| ⟨z,hz,rfl⟩⟩
  ·have hyl:ys.length=n:=(qDm hy).trans hn'.out;have e2:=e1'.out;rw[hy]at e2;change qAc l=if qAZ ys then .ok ys else .error 10 at e2;obtain⟨A4,c4,rfl⟩:=hrow.slice
   by_cases h0:n=0
   ·have ht:qAZ ys=true:=by unfold qAZ;rw[hyl,h0];rfl
    rw[ht,if_pos rfl]at e2;subst h0;have hrow2:=hrow;rw[hyl]at hrow2 ⊢;have⟨hle',hy',hrow',hrow2',e2',hyl'⟩:=hyd6 hle hy hrow hrow2 e2 hyl;clear hyl e2 hrow2 hrow hy hle;go_wp2_with (fail);go_at_call 48;refine(qAX _ _).mono ?_;rintro e W3 ⟨rfl,rfl⟩;go_wp2;go_ret;exact⟨hle'.out,.inl ⟨ys,_,e2'.out,rfl,hrow2'.out⟩⟩
   ·obtain⟨k,rfl⟩:∃k,n=k+1:=⟨n - 1,by omega⟩;have hkx:k<ys.length:=by omega
    obtain⟨g,c',e3,hbg,hgl,-,-,cs,hrd,hc⟩:=hrow.at hkx;injection e3 with e3 e4 e5;subst e3 e5;clear e4;have hgd:ys.getD (ys.length - 1) 0=ys[k]:=by rw[hyl,List.getD_eq_getElem?_getD,show k+1 - 1=k by omega,List.getElem?_eq_getElem hkx];rfl
    have htp:qAZ ys= !decide (ys[k]=0):=by unfold qAZ;rw[hgd,hyl];simp
    generalize ys[k]=x at hrd hgd htp;obtain⟨s1,A1,n1,c1,B1,m1,d1,rfl,hxa⟩:=hrd;have q0:W4.cell? ⟨g,k*3,none⟩=some (.bool s1):=hc 0 _ rfl;have q1:W4.cell? ⟨g,k*3+1,none⟩=some (.slice A1 n1 c1):=hc 1 _ rfl;have q2:W4.cell? ⟨g,k*3+2,none⟩=some (.slice B1 m1 d1):=hc 2 _ rfl;have hcall:=qEX _ x _ W4 hxa;obtain⟨sg,hsg⟩:∃sg,rsgn x=sg:=⟨_,rfl⟩;have hsx:(sg=0)↔x=0:=by rw[←hsg];unfold rsgn;simp
    rw[hsg]at hcall;have hrow2:=hrow;rw[hyl]at hrow2 ⊢
    by_cases hx:x=0
    ·have hs0:sg=0:=hsx.2 hx;subst hs0;rw[htp,decide_eq_true hx]at e2;have⟨hle',hy',hrow',hrow2',e2',hyl',hcall',hsg'⟩:=hyd8 hle hy hrow hrow2 e2 hyl hcall hsg;have⟨hsx',htp',hgd',hxa'⟩:=hyd4 hsx htp hgd hxa;clear hxa hgd htp hsx hsg hcall hyl e2 hrow2 hrow hy hle;go_wp2_with (fail);go_at_call 60;refine hcall'.out.mono ?_;rintro e W5 ⟨rfl,hle5⟩;have hle05:=hle'.out.trans hle5;have⟨hle5',hle05'⟩:=hyd2 hle5 hle05;clear hle05 hle5;go_wp2_with (fail);go_at_call 48;refine(qAY _ _).mono ?_;rintro e W3 ⟨rfl,rfl⟩;go_wp2_with (fail);exact⟨rfl,hle05'.out,.inr ⟨10,e2'.out,rfl⟩⟩
    ·have hs0:¬sg=0:=fun h=>hx (hsx.1 h);have hs1:(sg==0)=false:=by simpa using hs0
     have hs2:(sg != 0)=true:=by simpa using hs0
     rw[htp,decide_eq_false hx]at e2;have⟨hle',hy',hrow',hrow2',e2',hyl',hcall',hsg'⟩:=hyd8 hle hy hrow hrow2 e2 hyl hcall hsg;have⟨hsx',htp',hgd',hxa'⟩:=hyd4 hsx htp hgd hxa;clear hxa hgd htp hsx hsg hcall hyl e2 hrow2 hrow hy hle;go_wp2_with (fail);go_at_call 60;refine hcall'.out.mono ?_;rintro e W5 ⟨rfl,hle5⟩;have hle05:=hle'.out.trans hle5;have hrow5:=hrow2'.out.le hle5;have⟨hle5',hle05',hrow5'⟩:=hyd3 hle5 hle05 hrow5;clear hrow5 hle05 hle5;go_wp2_with (fail);go_at_call 48;refine(qAX _ _).mono ?_;rintro e W3 ⟨rfl,rfl⟩;go_wp2;go_ret;exact⟨hle05'.out,.inl ⟨ys,_,e2'.out,rfl,hrow5'.out⟩⟩
  ·have e2:=e1'.out;rw[hz]at e2;have⟨hle',hz',e2'⟩:=hyd3 hle hz e2;clear e2 hz hle;go_wp2_with (fail);exact⟨rfl,hle'.out,.inr ⟨z,e2'.out,rfl⟩⟩
end Go.Proofs.YtenjpccpldajoaaGreatDoor

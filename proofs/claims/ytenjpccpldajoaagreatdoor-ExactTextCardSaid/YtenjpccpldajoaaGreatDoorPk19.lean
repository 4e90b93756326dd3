/- exact: run at rat: the deferred closure, a call that returns, a call that reports an error; CheckFrac. exact: the closures of operated and Compare: two .. -/
import Derived.Test.YtenjpccpldajoaaGreatDoorPk18
namespace Go.Proofs.YtenjpccpldajoaaGreatDoor
set_option maxRecDepth 100000
set_option maxHeartbeats 4000000
open Go.RowKit Go.Shelf
set_option linter.unusedVariables false
set_option linter.unusedSimpArgs false
set_option maxRecDepth 10000
theorem qIz (p q:Addr) (w:World):
  CallsD Tryz.prog 114 #[.pointer (some p),.pointer (some q)] .returning w fun e u' w'=>e= .returned (.tuple #[])∧u'= .returning ∧w'=w:=by
 refine callsD_of_wpS Tryz.func114 rfl fun c₀ cs hu=>?_;apply wpS_seq;apply wpS_region;simp[wpOpsS,go_sem,recoverD,hu,Tryz.ntmps114,Exit.thenS];apply wpS_seq;apply wpS_region;simp[wpOpsS,go_sem,recoverD,hu,Tryz.ntmps114,Exit.thenS];refine wpS_cond (t:=false) (by simp[Act.eval,Array.replicate]) ?_;simp only[Bool.false_eq_true,if_false];refine wpS_of_wp (wp_skip ?_)
 cases c₀
 simp_all [bodyPostS,results,Tryz.results114]
theorem qH4 (B:Nat) (e:Int) (s0:Bool) (A1 A3:Option Addr) (l1 l3 k1 k3:Nat) (b:Value) (tp tq:TypeId) (w:World) (hb:w.heap[B]? =some (.cells #[.bool s0,.slice A1 l1 k1,.slice A3 l3 k3] tp)) (hq:w.heap[B+1]? =some (.cells #[b] tq)):
  CallsD Tryz.prog 114 #[.pointer (some ⟨B,0,none⟩),.pointer (some ⟨B+1,0,none⟩)] (.panicking [{v:= .iface 137 (.agg #[.int .i64 e]),recovered:=false}]) w fun E u' w'=>E= .returned (.tuple #[])∧u'= .panicking [{v:= .iface 137 (.agg #[.int .i64 e]),recovered:=true}]∧
   w'.heap[B]? =some (.cells #[.bool false,.slice none 0 0,.slice none 0 0] tp)∧w'.cell? ⟨B+1,0,none⟩=some (.int .i64 e)∧∀w0,Le w0 w→w0.heap.size≤B→Le w0 w':=by
 refine callsD_of_wpS Tryz.func114 rfl fun c₀ cs hu=>?_;apply wpS_seq;apply wpS_region;simp[wpOpsS,go_sem,recoverD,hu,Tryz.ntmps114,Exit.thenS];apply wpS_seq;apply wpS_region;simp[wpOpsS,go_sem,recoverD,hu,Tryz.ntmps114,Exit.thenS];refine wpS_cond (t:=true) (by simp[Act.eval,Array.replicate]) ?_;simp only[if_true];refine wpS_of_wp ?_;have hta:∀W:World,(Instr.typeAssert (Value.iface 137 (Value.agg #[Value.int IntKind.i64 e])) 20 137 true).run Tryz.prog W= .ok (.tuple #[.agg #[.int .i64 e],.bool true]) W:=fun _=>by kernel_rfl
 have harr:∀a b c d e f g h:Value,#[a,b]++((((((Array.replicate 18 undef).setIfInBounds 4 c).setIfInBounds 0 d).setIfInBounds 5 e).setIfInBounds 6 f))=#[a,b,d,undef,undef,undef,c,e,f,undef,undef,undef,undef,undef,undef,undef,undef,undef,undef,undef]:=fun _ _ _ _ _ _ _ _=>by first |kernel_rfl|simp[Array.replicate_succ]
 rw[harr _ _ _ _ _ _ undef undef];go_wp2;obtain⟨hle,hk,hk2⟩:=qAd (Le.refl ((w.alloc (.cells #[.int .i64 e] 137)).alloc (.cells #[.bool false,.slice none 0 0,.slice none 0 0] 70)));generalize hW:(w.alloc (.cells #[.int .i64 e] 137)).alloc (.cells #[.bool false,.slice none 0 0,.slice none 0 0] 70)=W at*;have hb2:=(Below.block hle B (gsl hb)).trans hb;have hq2:=(Below.block hle (B+1) (gsl hq)).trans hq;have hBl:=(gsl hb);have hql:=(gsl hq);obtain⟨c10,c11,c12,f10,f11,f12⟩:=qAG hb2;have c2:=qAB hq2;have f2:=fz0 hq2 0;have c3:=qAB hk;obtain⟨c40,c41,c42,-⟩:=qAG hk2;have n1:¬w.heap.size=B:=by omega
 have n2:¬w.heap.size=B+1:=by omega
 have n3:¬B=w.heap.size:=by omega
 have n4:¬B+1=w.heap.size:=by omega
 have n5:¬B+1=B:=by omega
 have n6:¬w.heap.size+1=B:=by omega
 have n7:¬w.heap.size+1=B+1:=by omega
 have n8:¬B=w.heap.size+1:=by omega
 have⟨hW',hle',hk',hk2',hb',hq',hb2',hq2'⟩:=hyd8 hW hle hk hk2 hb hq hb2 hq2;have hu':=hyd1 hu;clear hu hq2 hb2 hq hb hk2 hk hle hW;go_region;have h1:=qAa hb2'.out (u0:= .bool false) (u1:= .slice none 0 0) (u2:= .slice none 0 0);have hne:B+1≠B:=by omega
 have h2:(((W.setCell ⟨B,0,none⟩ (.bool false)).setCell ⟨B,1,none⟩ (.slice none 0 0)).setCell ⟨B,2,none⟩ (.slice none 0 0)).heap[B+1]? =some (.cells #[b] tq):=((Below.heap_setCell _ _ _ _ hne).trans ((Below.heap_setCell _ _ _ _ hne).trans (Below.heap_setCell _ _ _ _ hne))).trans hq2'.out;have hle8:∀w0,Le w0 w→w0.heap.size≤B→Le w0 (((W.setCell ⟨B,0,none⟩ (.bool false)).setCell ⟨B,1,none⟩ (.slice none 0 0)).setCell ⟨B,2,none⟩ (.slice none 0 0)):=fun w0 h0 h5=>qAm (Le.trans h0 hle'.out) h5;generalize (((W.setCell ⟨B,0,none⟩ (.bool false)).setCell ⟨B,1,none⟩ (.slice none 0 0)).setCell ⟨B,2,none⟩ (.slice none 0 0))=V1 at*;have h3:=qAU h2 (u:= .int .i64 e);have h4:(V1.setCell ⟨B+1,0,none⟩ (.int .i64 e)).heap[B]? =_:=(Below.heap_setCell _ _ _ _ (by show B≠B+1;omega)).trans h1
 have hle9:∀w0,Le w0 w→w0.heap.size≤B→Le w0 (V1.setCell ⟨B+1,0,none⟩ (.int .i64 e)).drew :=fun w0 h0 h5=>
  Le.trans ((hle8 w0 h0 h5).setCell (p:=⟨B+1,0,none⟩) (by show w0.heap.size≤B+1;omega) _) Le.drew
 have d1:(V1.setCell ⟨B+1,0,none⟩ (.int .i64 e)).drew.heap[B]? =_:=h4;have d2:(V1.setCell ⟨B+1,0,none⟩ (.int .i64 e)).drew.cell? ⟨B+1,0,none⟩=_:=qAB h3;generalize (V1.setCell ⟨B+1,0,none⟩ (.int .i64 e)).drew =V at*;show bodyPostS _ _ _ _ _ _ _ _ _;simp[bodyPostS,results,Tryz.results114,go_sem,d1,d2];exact hle9
theorem qIW (g:FuncId) (cap:Array Value) (w:World) (hg:qAF Tryz.prog g) (hf:∀W,Le w W→Calls Tryz.prog g cap W fun e W'=>∃v,e= .returned v∧Le W W'∧qGd v):
  Calls Tryz.prog 52 #[.func (.func g) #[] cap] w fun e w'=>∃v,e= .returned (.tuple #[v,.int .i64 0])∧Le w w'∧qGd v:=by
 have hmf:∀(fn:Fn) (first cap:Array Value) (w:World),(Instr.makeFunc fn first cap).run Tryz.prog w= .ok (.func fn first cap) w:=fun _ _ _ _=>rfl;unfold qAF at hg
 go_enter_defers Tryz.func52,Tryz.ntmps52
 go_wp2_with (fail);refine(hf _ ((qAA _ _).trans (qAA _ _))).mono ?_;rintro e W ⟨v,rfl,hle,hfr⟩;obtain⟨s,A1,n1,c1,A2,n2,c2,rfl⟩:=hfr;obtain⟨hle1,hb,hq⟩:=qAd hle;obtain⟨c10,c11,c12,f10,f11,f12⟩:=qAG hb;have e2:=qAB hq;have f2:=fz0 hq 0;have hBl:=(gsl hb);have hql:=(gsl hq);have⟨hle',hle1',hb',hq'⟩:=hyd4 hle hle1 hb hq;clear hq hb hle1 hle;go_wp2;have h1:=qAa hb'.out (u0:= .bool s) (u1:= .slice A1 n1 c1) (u2:= .slice A2 n2 c2);have hne:w.heap.size+1≠w.heap.size:=by omega
 have h2:(((W.setCell ⟨w.heap.size,0,none⟩ (.bool s)).setCell ⟨w.heap.size,1,none⟩ (.slice A1 n1 c1)).setCell ⟨w.heap.size,2,none⟩ (.slice A2 n2 c2)).heap[w.heap.size+1]? =_:=((Below.heap_setCell _ _ _ _ hne).trans ((Below.heap_setCell _ _ _ _ hne).trans (Below.heap_setCell _ _ _ _ hne))).trans hq'.out;have hle8:Le w (((W.setCell ⟨w.heap.size,0,none⟩ (.bool s)).setCell ⟨w.heap.size,1,none⟩ (.slice A1 n1 c1)).setCell ⟨w.heap.size,2,none⟩ (.slice A2 n2 c2)):=qAm hle1'.out (Nat.le_refl _);generalize (((W.setCell ⟨w.heap.size,0,none⟩ (.bool s)).setCell ⟨w.heap.size,1,none⟩ (.slice A1 n1 c1)).setCell ⟨w.heap.size,2,none⟩ (.slice A2 n2 c2))=V1 at*;have h3:=qAU h2 (u:= .int .i64 0);have h4:(V1.setCell ⟨w.heap.size+1,0,none⟩ (.int .i64 0)).heap[w.heap.size]? =_:=(Below.heap_setCell _ _ _ _ (by show w.heap.size≠w.heap.size+1;omega)).trans h1;have hle9:Le w (V1.setCell ⟨w.heap.size+1,0,none⟩ (.int .i64 0)):=hle8.setCell (p:=⟨w.heap.size+1,0,none⟩) (by show w.heap.size≤w.heap.size+1;omega) _;obtain⟨d10,d11,d12,-⟩:=qAG h4;have d2:=qAB h3;refine leaves_cons (f:=114) (args:=#[.pointer (some ⟨w.heap.size,0,none⟩),.pointer (some ⟨w.heap.size+1,0,none⟩)]) (by simp) (by simp[go_sem]) ?_;refine(qIz _ _ _).mono ?_;rintro e u' w'' ⟨rfl,rfl,rfl⟩;simp[Leaves,settle,results,Tryz.results52,go_sem,d10,d11,d12,d2];exact⟨hle9,_,_,_,_,_,_,_,rfl⟩
theorem qH5 (x:Int) (g:FuncId) (cap:Array Value) (w:World) (hg:qAF Tryz.prog g) (hf:∀W,Le w W→Calls Tryz.prog g cap W fun e W'=>e= .panicked [{v:= .iface 137 (.agg #[.int .i64 x]),recovered:=false}]∧Le W W'):
  Calls Tryz.prog 52 #[.func (.func g) #[] cap] w fun e w'=>e= .returned (.tuple #[.agg #[.bool false,.slice none 0 0,.slice none 0 0],.int .i64 x])∧Le w w':=by
 have hmf:∀(fn:Fn) (first cap:Array Value) (w:World),(Instr.makeFunc fn first cap).run Tryz.prog w= .ok (.func fn first cap) w:=fun _ _ _ _=>rfl;unfold qAF at hg
 go_enter_defers Tryz.func52,Tryz.ntmps52
 go_wp2_with (fail);refine(hf _ ((qAA _ _).trans (qAA _ _))).mono ?_;rintro e W ⟨rfl,hle⟩;obtain⟨hle1,hb,hq⟩:=qAd hle;have hle':=hyd1 hle;clear hle;go_wp2;refine leaves_cons (f:=114) (args:=#[.pointer (some ⟨w.heap.size,0,none⟩),.pointer (some ⟨w.heap.size+1,0,none⟩)]) (by simp) (by simp[go_sem]) ?_;refine(qH4 w.heap.size x _ _ _ _ _ _ _ _ _ _ _ hb hq).mono ?_;rintro e u' w'' ⟨rfl,rfl,d1,d2,hl⟩;have hle9:=hl w hle1 (Nat.le_refl _);obtain⟨d10,d11,d12,-⟩:=qAG d1;simp[Leaves,settle,results,Tryz.results52,go_sem,d10,d11,d12,d2];exact hle9
theorem qDs:qAF Tryz.prog 53:=fun _ _=>by kernel_rfl
theorem qGL (L:Nat→Prop) (x:FracA) (r:Rat) (B:Nat) (v:Value) (w:World) (hL:Up w L) (hv:IsFracA L w v x) (hB:∃A c A' c',v= .agg #[.bool x.sn,.slice A x.gn.length c,.bool x.sd,.slice A' x.gd.length c']∧w.heap[B]? =some (.cells #[.bool x.sn,.slice A x.gn.length c,.bool x.sd,.slice A' x.gd.length c'] 26)) (hr:x.rat?=some r):
  Calls Tryz.prog 53 #[.pointer (some ⟨B,0,none⟩)] w fun e w'=>∃v,e= .returned v∧Le w w'∧qGd v:=by
 obtain⟨A,c,A',c',rfl,hB⟩:=hB;have hBl:=(gsl hB);have hle:=qAA w (.cells #[.bool false,.slice none 0 0,.slice none 0 0] 70);have hB1:=(hle.block B hBl).trans hB;have r1:=qBo L x r _ _ (hL.le hle) (hv.le hle) hr;obtain⟨a0,a1,a2,a3⟩:=qAK hB;have⟨hL',hv',hr',hB',r1',hB1',hle'⟩:=hyd7 hL hv hr hB r1 hB1 hle;clear hle hB1 r1 hB hr hv hL;go_enter Tryz.func53,Tryz.ntmps53;go_wp2_with (fail);go_at_call 41;refine r1'.out.mono ?_;rintro e W1 ⟨v1,rfl,hle1,hrr⟩;obtain⟨hle2,hbx⟩:=qB1 hle1;obtain⟨A1,c1,A2,c2,rfl,-,-⟩:=hrr.form;obtain⟨z0,z1,z2,f0,f1,f2⟩:=qAG hbx;have hb9:=fun u0 u1 u2=>qAG (qAa (u0:=u0) (u1:=u1) (u2:=u2) hbx);have hle9:=fun u0 u1 u2=>qAm (u0:=u0) (u1:=u1) (u2:=u2) hle2 (Nat.le_refl _);have⟨hle1',hrr',hle2',hbx',hb9',hle9'⟩:=hyd6 hle1 hrr hle2 hbx hb9 hle9;clear hle9 hb9 hbx hle2 hrr hle1;go_wp2;obtain⟨d0,d1,d2,-⟩:=hb9'.out (.bool (rneg r)) (.slice A1 (dg (rnum r)).length c1) (.slice A2 (dg r.den).length c2);exact bodyPost_ret (v:= .agg #[.bool (rneg r),.slice A1 (dg (rnum r)).length c1,.slice A2 (dg r.den).length c2]) (by simp[results,Tryz.results53,go_sem,d0,d1,d2]) rfl ⟨_,rfl,hle9'.out _ _ _,_,_,_,_,_,_,_,rfl⟩
theorem qGM (L:Nat→Prop) (x:FracA) (B:Nat) (v:Value) (w:World) (hL:Up w L) (hv:IsFracA L w v x) (hB:∃A c A' c',v= .agg #[.bool x.sn,.slice A x.gn.length c,.bool x.sd,.slice A' x.gd.length c']∧w.heap[B]? =some (.cells #[.bool x.sn,.slice A x.gn.length c,.bool x.sd,.slice A' x.gd.length c'] 26)) (hr:x.rat?=none):
  Calls Tryz.prog 53 #[.pointer (some ⟨B,0,none⟩)] w fun e w'=>e= .panicked [{v:= .iface 137 (.agg #[.int .i64 10]),recovered:=false}]∧Le w w':=by
 obtain⟨A,c,A',c',rfl,hB⟩:=hB;have hBl:=(gsl hB);have hle:=qAA w (.cells #[.bool false,.slice none 0 0,.slice none 0 0] 70);have hB1:=(hle.block B hBl).trans hB;have r1:=qBp L x _ _ (hL.le hle) (hv.le hle) hr;obtain⟨a0,a1,a2,a3⟩:=qAK hB;have⟨hL',hv',hr',hB',r1',hB1',hle'⟩:=hyd7 hL hv hr hB r1 hB1 hle;clear hle hB1 r1 hB hr hv hL;go_enter Tryz.func53,Tryz.ntmps53;go_wp2_with (fail);go_at_call 41;refine r1'.out.mono ?_;rintro e W1 ⟨rfl,hle1⟩;obtain⟨hle2,hbx⟩:=qB1 hle1;have⟨hle1',hle2',hbx'⟩:=hyd3 hle1 hle2 hbx;clear hbx hle2 hle1;go_wp2_with (fail);exact⟨rfl,rfl,hle2'.out⟩
theorem qFP (L:Nat→Prop) (x:FracA) (v:Value) (w:World) (hL:Up w L) (hv:IsFracA L w v x):
  Calls Tryz.prog 13 #[v] w fun e w'=>e= .returned (.int .i64 (okE (okAF x)))∧Le w w':=by
 have hv0:=hv;obtain⟨A,c,B,d,rfl,p1,p2⟩:=hv;obtain⟨W0,hW0,hle,k0⟩:=al1 w (.cells #[.bool x.sn,.slice A x.gn.length c,.bool x.sd,.slice B x.gd.length d] 26);have hmf:∀(fn:Fn) (first cap:Array Value) (w:World),(Instr.makeFunc fn first cap).run Tryz.prog w= .ok (.func fn first cap) w:=fun _ _ _ _=>rfl;have hlt:=(gsl k0)
 cases hr:x.rat? with
 | some r=>
  have he:okE (okAF x)=0:=by unfold okAF okE;rw[hr];rfl
  rw[he]
  have hf:∀W,Le W0 W→Calls Tryz.prog 53 #[.pointer (some ⟨w.heap.size,0,none⟩)] W fun e w'=>∃v,e= .returned v∧Le W w'∧qGd v:=fun W hW=>
   qGL L x r w.heap.size _ W (hL.le (hle.trans hW)) (hv0.le (hle.trans hW)) ⟨_,_,_,_,rfl,(hW.block _ hlt).trans k0⟩ hr
  have hrun:=qIW _ _ W0 qDs hf;have⟨hL',hv0',p1',p2',hle',k0',hf',hrun'⟩:=hyd8 hL hv0 p1 p2 hle k0 hf hrun;have⟨he',hr'⟩:=hyd2 he hr;clear hr he hrun hf k0 hle p2 p1 hv0 hL;go_enter Tryz.func13,Tryz.ntmps13;go_wp2_with (fail);go_at_call 52;refine hrun'.out.mono ?_;rintro e W1 ⟨v1,rfl,hle1,⟨s,A1,n1,c1,A2,n2,c2,rfl⟩⟩;have hle2:=(hle'.out.trans hle1).trans (qAA W1 (.cells #[.bool s,.slice A1 n1 c1,.slice A2 n2 c2] 70));have⟨hle1',hle2'⟩:=hyd2 hle1 hle2;clear hle2 hle1;go_wp2;go_ret;exact⟨rfl,hle2'.out⟩
 | none=>
  have he:okE (okAF x)=10:=by unfold okAF okE;rw[hr];rfl
  rw[he]
  have hf:∀W,Le W0 W→Calls Tryz.prog 53 #[.pointer (some ⟨w.heap.size,0,none⟩)] W fun e w'=>e= .panicked [{v:= .iface 137 (.agg #[.int .i64 10]),recovered:=false}]∧Le W w':=fun W hW=>
   qGM L x w.heap.size _ W (hL.le (hle.trans hW)) (hv0.le (hle.trans hW)) ⟨_,_,_,_,rfl,(hW.block _ hlt).trans k0⟩ hr
  have hrun:=qH5 10 _ _ W0 qDs hf;have⟨hL',hv0',p1',p2',hle',k0',hf',hrun'⟩:=hyd8 hL hv0 p1 p2 hle k0 hf hrun;have⟨he',hr'⟩:=hyd2 he hr;clear hr he hrun hf k0 hle p2 p1 hv0 hL;go_enter Tryz.func13,Tryz.ntmps13;go_wp2_with (fail);go_at_call 52;refine hrun'.out.mono ?_;rintro e W1 ⟨rfl,hle1⟩;have hle2:=(hle'.out.trans hle1).trans (qAA W1 (.cells #[.bool false,.slice none 0 0,.slice none 0 0] 70));have⟨hle1',hle2'⟩:=hyd2 hle1 hle2;clear hle2 hle1;go_wp2;go_ret;exact⟨rfl,hle2'.out⟩
abbrev flt (c:Int):List PanicEntry:=[{v:= .iface 137 (.agg #[.int .i64 c]),recovered:=false}]
structure TwoG (i j:Nat) (D:Nat→Bool) (x:Nat→Value) (W:World):Prop where
 a:D i=true→∃k,x i= .pointer (some ⟨k,0,none⟩)∧k<W.heap.size
 b:D j=true→∃k,x j= .pointer (some ⟨k,0,none⟩)∧k<W.heap.size
 ne:D i=true→D j=true→x i≠x j
theorem TwoG.quiet {i j n:Nat} {D:Nat→Bool} {x:Nat→Value} {W W':World} {v:Value} (h:TwoG i j D x W) (hs:Le W W') (hi:n≠i) (hj:n≠j):TwoG i j (updB D n) (updV x n v) W':=by
 have e7:∀q,q≠n→updB D n q=D q:=fun q hq=>by simp[updB,hq]
 have e8:∀q,q≠n→updV x n v q=x q:=fun q hq=>by simp[updV,hq]
 refine⟨?_,?_,?_⟩
 ·rw[e7 i (Ne.symm hi),e8 i (Ne.symm hi)];exact fun hd=>by obtain⟨k,h1,h2⟩:=h.a hd;exact⟨k,h1,Nat.lt_of_lt_of_le h2 hs.size⟩
 ·rw[e7 j (Ne.symm hj),e8 j (Ne.symm hj)];exact fun hd=>by obtain⟨k,h1,h2⟩:=h.b hd;exact⟨k,h1,Nat.lt_of_lt_of_le h2 hs.size⟩
 ·rw[e7 i (Ne.symm hi),e8 i (Ne.symm hi),e7 j (Ne.symm hj),e8 j (Ne.symm hj)];exact h.ne
theorem TwoG.left {i j:Nat} {D:Nat→Bool} {x:Nat→Value} {W:World} {o:Obj} (h:TwoG i j D x W) (hij:i≠j):TwoG i j (updB D i) (updV x i (.pointer (some ⟨W.heap.size,0,none⟩))) (W.alloc o):=by
 have e7:∀q,q≠i→updB D i q=D q:=fun q hq=>by simp[updB,hq]
 have e8:∀v q,q≠i→updV x i v q=x q:=fun v q hq=>by simp[updV,hq]
 refine⟨fun _=>⟨W.heap.size,by simp[updV],by simp⟩,?_,fun _=>?_⟩
 ·rw[e7 j (Ne.symm hij),e8 _ j (Ne.symm hij)];exact fun hd=>by obtain⟨k,h1,h2⟩:=h.b hd;exact⟨k,h1,by rw[World.size_alloc];omega⟩
 ·rw[e7 j (Ne.symm hij),e8 _ j (Ne.symm hij)];intro hd he;obtain⟨k,h1,h2⟩:=h.b hd;rw[h1]at he;simp only[updV,if_true]at he;injection he with he;injection he with he;injection he with he;omega
theorem TwoG.right {i j:Nat} {D:Nat→Bool} {x:Nat→Value} {W:World} {o:Obj} (h:TwoG i j D x W) (hij:i≠j):TwoG i j (updB D j) (updV x j (.pointer (some ⟨W.heap.size,0,none⟩))) (W.alloc o):=by
 have e7:∀q,q≠j→updB D j q=D q:=fun q hq=>by simp[updB,hq]
 have e8:∀v q,q≠j→updV x j v q=x q:=fun v q hq=>by simp[updV,hq]
 refine⟨?_,fun _=>⟨W.heap.size,by simp[updV],by simp⟩,?_⟩
 ·rw[e7 i hij,e8 _ i hij];exact fun hd=>by obtain⟨k,h1,h2⟩:=h.a hd;exact⟨k,h1,by rw[World.size_alloc];omega⟩
 ·rw[e7 i hij,e8 _ i hij];intro hd _ he;obtain⟨k,h1,h2⟩:=h.a hd;rw[h1]at he;simp only[updV,if_true]at he;injection he with he;injection he with he;injection he with he;omega
theorem TwoG.start {i j:Nat} {D:Nat→Bool} {x:Nat→Value} {W:World} (hi:D i=false) (hj:D j=false):TwoG i j D x W:=
 ⟨fun h=>absurd h (by rw[hi];simp),fun h=>absurd h (by rw[hj];simp),fun h=>absurd h (by rw[hi];simp)⟩
def MPred.ratO (x:FracA):MPred:=⟨fun v w=>∃r,x.rat?=some r∧RatL (fun _=>True) .u32 w v r,fun _ _ _ hb ⟨r,e,h⟩=>⟨r,e,h.le hb⟩⟩
def FBox (W:World) (B:Nat) (v:Value) (x:FracA):Prop:=∃A c A' c',v= .agg #[.bool x.sn,.slice A x.gn.length c,.bool x.sd,.slice A' x.gd.length c']∧W.heap[B]? =some (.cells #[.bool x.sn,.slice A x.gn.length c,.bool x.sd,.slice A' x.gd.length c'] 26)∧IsFracA (fun _=>True) W v x
theorem FBox.le {W W':World} {B:Nat} {v:Value} {x:FracA} (h:FBox W B v x) (hb:Le W W'):FBox W' B v x:=by
 obtain⟨A,c,A',c',e,h1,h2⟩:=h;exact⟨A,c,A',c',e,(hb.block B (gsl h1)).trans h1,h2.le hb⟩
theorem FBox.lt {W:World} {B:Nat} {v:Value} {x:FracA} (h:FBox W B v x):B<W.heap.size:=by
 obtain⟨A,c,A',c',e,h1,h2⟩:=h;exact(gsl h1)
end Go.Proofs.YtenjpccpldajoaaGreatDoor

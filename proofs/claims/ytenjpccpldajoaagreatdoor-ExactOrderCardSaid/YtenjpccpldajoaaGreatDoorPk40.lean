/- Texts: said. Texts: run at string; Text. -/
import Derived.Test.YtenjpccpldajoaaGreatDoorPk39
namespace Go.Proofs.YtenjpccpldajoaaGreatDoor
set_option maxRecDepth 100000
set_option maxHeartbeats 1000000
open Go.RowKit Go.Shelf
set_option linter.unusedVariables false
set_option linter.unusedSimpArgs false
theorem qFB (a b:List UInt8):baL (a++b)=baL a++baL b:=(qM1 a b).symm
theorem qFC (L:Nat→Prop) (r:Rat) (v:Value) (w:World) (hw:TxW w) (h:RatL L .u32 w v r) (hs:Rsz r 1000):
  Calls Tryz.prog 40 #[v] w fun e w'=>e= .returned (.string (baL (qAL r)))∧Le w w':=by
 obtain⟨A1,c1,A2,c2,rfl,hn,hd⟩:=h.form;obtain⟨hs1,hs2⟩:=hs;have t1:=qKd hs1 (by decide);have t2:=qKd hs2 (by decide);have hsaid:=qOd r;obtain⟨sr,hsr⟩:∃sr,rneg r=sr:=⟨_,rfl⟩;rw[hsr]at hsaid ⊢;obtain⟨T1,hT1⟩:∃T,txN (rnum r)=T:=⟨_,rfl⟩;obtain⟨T2,hT2⟩:∃T,txN r.den=T:=⟨_,rfl⟩;rw[hT1]at t1 hsaid;rw[hT2]at t2 hsaid;have hle0:=qAB w (.cells #[.bool sr,.slice A1 (dg (rnum r)).length c1,.slice A2 (dg r.den).length c2] 70);have q1:=qKv L (rnum r) _ _ (hn.le hle0) (hw.le hle0) (Nat.le_trans hs1 (by decide));obtain⟨l1,hl1⟩:∃l1,(dg (rnum r)).length =l1:=⟨_,rfl⟩;obtain⟨l2,hl2⟩:∃l2,(dg r.den).length =l2:=⟨_,rfl⟩;rw[hl1]at hn q1 hle0 ⊢;rw[hl2]at hd q1 hle0 ⊢;rw[hT1]at q1;have⟨hw',hn',hd',hs1',hs2',hsaid',hsr',hT1'⟩:=hyd8 hw hn hd hs1 hs2 hsaid hsr hT1;have⟨hT2',hl1',hl2',hle0',q1'⟩:=hyd5 hT2 hl1 hl2 hle0 q1;clear q1 hle0 hl2 hl1 hT2 hT1 hsr hsaid hs2 hs1 hd hn hw;go_enter Tryz.func40,Tryz.ntmps40;go_wp2_with (fail);go_at_call 101;refine q1'.out.mono ?_;rintro e W1 ⟨rfl,hle1⟩;obtain⟨hle1,hbx⟩:=qBh hle1;obtain⟨k0,k1,k2,-⟩:=qAD hbx;have hbs:w.heap.size<W1.heap.size:=(gsl hbx);have q2:=qHO L r.den (.slice A2 l2 c2) W1 (by rw[←hl2'.out];rw[←hl2'.out]at hd';exact hd'.out.le hle1);have q4:=qKv L r.den (.slice A2 l2 c2) W1 (by rw[←hl2'.out];rw[←hl2'.out]at hd';exact hd'.out.le hle1) (hw'.out.le hle1) (Nat.le_trans hs2'.out (by decide));rw[hT2'.out]at q4;have hsaid:=hsaid'.out
 have g1:=qBz T1;have g2:=qBz T2;have hb9:=hbx;obtain⟨n1,hn1⟩:∃n,T1.length=n:=⟨_,rfl⟩;obtain⟨n2,hn2⟩:∃n,T2.length=n:=⟨_,rfl⟩;rw[hn1]at g1 t1;rw[hn2]at g2 t2;clear hsaid' hbx;have z1:¬9223372036854775807<1+n1:=by omega
 have z2:¬9223372036854775807<1+n2:=by omega
 have z3:¬9223372036854775807<n1+(1+n2):=by omega
 have z4:¬9223372036854775807<1+n1+(1+n2):=by omega
 by_cases h1:r.den=1
 ·rw[if_pos h1,List.append_nil]at hsaid;have hd1:decide (r.den=1)=true:=decide_eq_true h1;rw[hd1]at q2;have⟨q2',q4',h1',hle1',hb9',hn1',hn2',hd1'⟩:=hyd8 q2 q4 h1 hle1 hb9 hn1 hn2 hd1;clear hd1 hn2 hn1 hb9 hle1 h1 q4 q2
  cases sr
  ·replace hsaid:qAL r=T1:=hsaid;have hsaid':=hyd1 hsaid;clear hsaid;go_wp2_with (fail);go_at_call 102;refine q2'.out.mono ?_;rintro e W3 ⟨rfl,rfl⟩;go_wp2;go_ret;refine⟨?_,hle1'.out⟩;rw[hsaid'.out]
   rfl
  ·replace hsaid:qAL r=[45]++T1:=hsaid;have hsaid':=hyd1 hsaid;clear hsaid;go_wp2_with (fail);go_at_call 102;refine q2'.out.mono ?_;rintro e W3 ⟨rfl,rfl⟩;go_wp2;go_ret;refine⟨?_,hle1'.out⟩;rw[hsaid'.out];exact congrArg (fun x=>Ending.returned (Value.string x)) (qM1 [45] T1)
 ·rw[if_neg h1]at hsaid;have hd1:decide (r.den=1)=false:=decide_eq_false h1;rw[hd1]at q2;have⟨q2',q4',h1',hle1',hb9',hn1',hn2',hd1'⟩:=hyd8 q2 q4 h1 hle1 hb9 hn1 hn2 hd1;clear hd1 hn2 hn1 hb9 hle1 h1 q4 q2
  cases sr
  ·replace hsaid:qAL r=T1++47::T2:=hsaid;have hsaid':=hyd1 hsaid;clear hsaid;go_wp2_with (fail);go_at_call 102;refine q2'.out.mono ?_;rintro e W3 ⟨rfl,rfl⟩;go_wp2_with (fail);go_at_call 101;refine q4'.out.mono ?_;rintro e W4 ⟨rfl,hle4⟩;have hle4':=hyd1 hle4;clear hle4;go_wp2;go_ret;refine⟨?_,hle1'.out.trans hle4'.out⟩;rw[hsaid'.out];exact congrArg (fun x=>Ending.returned (Value.string x)) (by rw[show T1++47::T2=T1++([47]++T2)from rfl,qFB,qFB];rfl)
  ·replace hsaid:qAL r=[45]++T1++47::T2:=hsaid;have hsaid':=hyd1 hsaid;clear hsaid;go_wp2_with (fail);go_at_call 102;refine q2'.out.mono ?_;rintro e W3 ⟨rfl,rfl⟩;go_wp2_with (fail);go_at_call 101;refine q4'.out.mono ?_;rintro e W4 ⟨rfl,hle4⟩;have hle4':=hyd1 hle4;clear hle4;go_wp2;go_ret;refine⟨?_,hle1'.out.trans hle4'.out⟩;rw[hsaid'.out];exact congrArg (fun x=>Ending.returned (Value.string x)) (by rw[show[45]++T1++47::T2=([45]++T1)++([47]++T2)from rfl,qFB,qFB,qFB];rfl)
set_option maxRecDepth 10000
theorem qJz (p q:Addr) (w:World):
  CallsD Tryz.prog 100 #[.pointer (some p),.pointer (some q)] .returning w fun e u' w'=>e= .returned (.tuple #[])∧u'= .returning ∧w'=w:=by
 refine callsD_of_wpS Tryz.func100 rfl fun c₀ cs hu=>?_;apply wpS_seq;apply wpS_region;simp[wpOpsS,go_sem,recoverD,hu,Tryz.ntmps100,Exit.thenS];apply wpS_seq;apply wpS_region;simp[wpOpsS,go_sem,recoverD,hu,Tryz.ntmps100,Exit.thenS];refine wpS_cond (t:=false) (by simp[Act.eval,Array.replicate]) ?_;simp only[Bool.false_eq_true,if_false];refine wpS_of_wp (wp_skip ?_)
 cases c₀
 simp_all [bodyPostS,results,Tryz.results100]
theorem qIS (B:Nat) (e:Int) (a b:Value) (tp tq:TypeId) (w:World) (hb:w.heap[B]? =some (.cells #[a] tp)) (hq:w.heap[B+1]? =some (.cells #[b] tq)):
  CallsD Tryz.prog 100 #[.pointer (some ⟨B,0,none⟩),.pointer (some ⟨B+1,0,none⟩)] (.panicking [{v:= .iface 137 (.agg #[.int .i64 e]),recovered:=false}]) w fun E u' w'=>E= .returned (.tuple #[])∧u'= .panicking [{v:= .iface 137 (.agg #[.int .i64 e]),recovered:=true}]∧
   w'.cell? ⟨B,0,none⟩=some (.string ⟨#[]⟩)∧w'.cell? ⟨B+1,0,none⟩=some (.int .i64 e)∧∀w0,Le w0 w→w0.heap.size≤B→Le w0 w':=by
 refine callsD_of_wpS Tryz.func100 rfl fun c₀ cs hu=>?_;apply wpS_seq;apply wpS_region;simp[wpOpsS,go_sem,recoverD,hu,Tryz.ntmps100,Exit.thenS];apply wpS_seq;apply wpS_region;simp[wpOpsS,go_sem,recoverD,hu,Tryz.ntmps100,Exit.thenS];refine wpS_cond (t:=true) (by simp[Act.eval,Array.replicate]) ?_;simp only[if_true];refine wpS_of_wp ?_;have hta:∀W:World,(Instr.typeAssert (Value.iface 137 (Value.agg #[Value.int IntKind.i64 e])) 20 137 true).run Tryz.prog W= .ok (.tuple #[.agg #[.int .i64 e],.bool true]) W:=fun _=>by kernel_rfl
 have harr:∀a b c d e f g h:Value,#[a,b]++((((((Array.replicate 18 undef).setIfInBounds 4 c).setIfInBounds 0 d).setIfInBounds 5 e).setIfInBounds 6 f))=#[a,b,d,undef,undef,undef,c,e,f,undef,undef,undef,undef,undef,undef,undef,undef,undef,undef,undef]:=fun _ _ _ _ _ _ _ _=>by first |kernel_rfl|simp[Array.replicate_succ]
 rw[harr _ _ _ _ _ _ undef undef];go_wp2;obtain⟨W,hW,hle,hk⟩:=al1 w (.cells #[.int .i64 e] 137);rw[hW];have hb2:=(Below.block hle B (gsl hb)).trans hb;have hq2:=(Below.block hle (B+1) (gsl hq)).trans hq;have hBl:=(gsl hb);have hql:=(gsl hq);have c1:=qAC hb2;have f1:=fz0 hb2 0;have c2:=qAC hq2;have f2:=fz0 hq2 0;have c3:=qAC hk;have n1:¬w.heap.size=B:=by omega
 have n2:¬w.heap.size=B+1:=by omega
 have n3:¬B=w.heap.size:=by omega
 have n4:¬B+1=w.heap.size:=by omega
 have n5:¬B+1=B:=by omega
 have⟨hW',hle',hk',hb',hq',hb2',hq2',hu'⟩:=hyd8 hW hle hk hb hq hb2 hq2 hu;clear hu hq2 hb2 hq hb hk hle hW;go_region;have h1:=qAW hb2'.out (u:= .string ⟨#[]⟩);have h2:(W.setCell ⟨B,0,none⟩ (.string ⟨#[]⟩)).heap[B+1]? =some (.cells #[b] tq):=(Below.heap_setCell _ _ _ _ (by show B+1≠B;omega)).trans hq2'.out;have h3:=qAW h2 (u:= .int .i64 e);have h4:((W.setCell ⟨B,0,none⟩ (.string ⟨#[]⟩)).setCell ⟨B+1,0,none⟩ (.int .i64 e)).heap[B]? =some (.cells #[.string ⟨#[]⟩] tp):=(Below.heap_setCell _ _ _ _ (by show B≠B+1;omega)).trans h1
 have hle9:∀w0,Le w0 w→w0.heap.size≤B→Le w0 ((W.setCell ⟨B,0,none⟩ (.string ⟨#[]⟩)).setCell ⟨B+1,0,none⟩ (.int .i64 e)).drew :=fun w0 h0 h5=>
  Le.trans ((Below.setCell (Le.trans h0 hle'.out) (p:=⟨B,0,none⟩) h5 _).setCell (p:=⟨B+1,0,none⟩) (by show w0.heap.size≤B+1;omega) _) Le.drew
 have d1:((W.setCell ⟨B,0,none⟩ (.string ⟨#[]⟩)).setCell ⟨B+1,0,none⟩ (.int .i64 e)).drew.cell? ⟨B,0,none⟩=_:=qAC h4;have d2:((W.setCell ⟨B,0,none⟩ (.string ⟨#[]⟩)).setCell ⟨B+1,0,none⟩ (.int .i64 e)).drew.cell? ⟨B+1,0,none⟩=_:=qAC h3;generalize ((W.setCell ⟨B,0,none⟩ (.string ⟨#[]⟩)).setCell ⟨B+1,0,none⟩ (.int .i64 e)).drew =V at*;show bodyPostS _ _ _ _ _ _ _ _ _;simp[bodyPostS,results,Tryz.results100,go_sem,d1,d2];exact hle9
theorem qIz (g:FuncId) (cap:Array Value) (z:ByteArray) (w:World) (hg:qAF Tryz.prog g) (hf:∀W,Le w W→Calls Tryz.prog g cap W fun e W'=>e= .returned (.string z)∧Le W W'):
  Calls Tryz.prog 38 #[.func (.func g) #[] cap] w fun e w'=>e= .returned (.tuple #[.string z,.int .i64 0])∧Le w w':=by
 have hmf:∀(fn:Fn) (first cap:Array Value) (w:World),(Instr.makeFunc fn first cap).run Tryz.prog w= .ok (.func fn first cap) w:=fun _ _ _ _=>rfl;unfold qAF at hg
 go_enter_defers Tryz.func38,Tryz.ntmps38
 go_wp2_with (fail);refine(hf _ ((qAB _ _).trans (qAB _ _))).mono ?_;rintro e W ⟨rfl,hle⟩;obtain⟨hle1,hb,hq⟩:=qAi hle;have c1:=qAC hb;have f1:=fz0 hb 0;have c2:=qAC hq;have f2:=fz0 hq 0;have hBl:=(gsl hb);have hql:=(gsl hq);have⟨hle',hle1',hb',hq'⟩:=hyd4 hle hle1 hb hq;clear hq hb hle1 hle;go_wp2;have h1:=qAW hb'.out (u:= .string z);have h2:(W.setCell ⟨w.heap.size,0,none⟩ (.string z)).heap[w.heap.size+1]? =_:=(Below.heap_setCell _ _ _ _ (by show w.heap.size+1≠w.heap.size;omega)).trans hq'.out;have h3:=qAW h2 (u:= .int .i64 0);have h4:((W.setCell ⟨w.heap.size,0,none⟩ (.string z)).setCell ⟨w.heap.size+1,0,none⟩ (.int .i64 0)).heap[w.heap.size]? =_:=(Below.heap_setCell _ _ _ _ (by show w.heap.size≠w.heap.size+1;omega)).trans h1;have hle9:Le w ((W.setCell ⟨w.heap.size,0,none⟩ (.string z)).setCell ⟨w.heap.size+1,0,none⟩ (.int .i64 0)):=(Below.setCell hle1'.out (p:=⟨w.heap.size,0,none⟩) (Nat.le_refl _) _).setCell (p:=⟨w.heap.size+1,0,none⟩) (by show w.heap.size≤w.heap.size+1;omega) _;have d1:=qAC h4;have d2:=qAC h3;refine leaves_cons (f:=100) (args:=#[.pointer (some ⟨w.heap.size,0,none⟩),.pointer (some ⟨w.heap.size+1,0,none⟩)]) (by simp) (by simp[go_sem]) ?_;refine(qJz _ _ _).mono ?_;rintro e u' w'' ⟨rfl,rfl,rfl⟩;simp[Leaves,settle,results,Tryz.results38,go_sem,d1,d2];exact hle9
theorem qIT (g:FuncId) (cap:Array Value) (x:Int) (w:World) (hg:qAF Tryz.prog g) (hf:∀W,Le w W→Calls Tryz.prog g cap W fun e W'=>e= .panicked [{v:= .iface 137 (.agg #[.int .i64 x]),recovered:=false}]∧Le W W'):
  Calls Tryz.prog 38 #[.func (.func g) #[] cap] w fun e w'=>e= .returned (.tuple #[.string ⟨#[]⟩,.int .i64 x])∧Le w w':=by
 have hmf:∀(fn:Fn) (first cap:Array Value) (w:World),(Instr.makeFunc fn first cap).run Tryz.prog w= .ok (.func fn first cap) w:=fun _ _ _ _=>rfl;unfold qAF at hg
 go_enter_defers Tryz.func38,Tryz.ntmps38
 go_wp2_with (fail);refine(hf _ ((qAB _ _).trans (qAB _ _))).mono ?_;rintro e W ⟨rfl,hle⟩;obtain⟨hle1,hb,hq⟩:=qAi hle;have c1:=qAC hb;have f1:=fz0 hb 0;have c2:=qAC hq;have f2:=fz0 hq 0;have hle':=hyd1 hle;clear hle;go_wp2;refine leaves_cons (f:=100) (args:=#[.pointer (some ⟨w.heap.size,0,none⟩),.pointer (some ⟨w.heap.size+1,0,none⟩)]) (by simp) (by simp[go_sem]) ?_;refine(qIS w.heap.size x _ _ _ _ _ hb hq).mono ?_;rintro e u' w'' ⟨rfl,rfl,d1,d2,hl⟩;have hle9:=hl w hle1 (Nat.le_refl _);simp[Leaves,settle,results,Tryz.results38,go_sem,d1,d2];exact hle9
end Go.Proofs.YtenjpccpldajoaaGreatDoor

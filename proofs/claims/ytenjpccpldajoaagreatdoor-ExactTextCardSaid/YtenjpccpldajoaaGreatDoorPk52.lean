/- The law ExactText: Parse undoes Text, and Text undoes Parse; the bytes of a text. From what a row's opening gives of a slice of integers to the predicate that .. -/
import Derived.Test.YtenjpccpldajoaaGreatDoorPk51
import Derived.ProofKit
import Derived.OpenShut
import Derived.ShutString
import Derived.ChangeOld
import Derived.Below
namespace Go.Proofs.YtenjpccpldajoaaGreatDoor
set_option maxRecDepth 100000
set_option maxHeartbeats 4000000
open Go.RowKit Go.Shelf
set_option linter.unusedVariables false
set_option linter.unusedSimpArgs false
theorem qOA (s:ByteArray):s=baL s.data.toList:=by
 unfold baL;apply ByteArray.ext;simp
theorem qOB (x:FracA) (v:Value) (l:List UInt8) (w:World) (h:IsFracA (fun _=>True) w v x) (hw:TxW w):
  Calls Tryz.prog 3 #[v,.string (baL l)] w fun e w'=>e= .returned (.bool true)∧Le w w':=by
 have h0:=h;obtain⟨A,c,B,d,rfl,p1,p2⟩:=h;have hsz:=qBO l;obtain⟨N,hN⟩:∃N,l.length=N:=⟨_,rfl⟩;rw[hN]at hsz;obtain⟨W0,hW0,hle0,kx⟩:=al1 w (.cells #[.bool x.sn,.slice A x.gn.length c,.bool x.sd,.slice B x.gd.length d] 26);have q0:=qNL W0 (hw.le hle0);obtain⟨gr,hgr⟩:∃b,qBV x 12=b:=⟨_,rfl⟩;have⟨h0',p1',p2',hN',hle0',kx',q0',hgr'⟩:=hyd8 h0 p1 p2 hN hle0 kx q0 hgr;have hw':=hyd1 hw;clear hw hgr q0 kx hle0 hN p2 p1 h0;go_enter Tryz.func3,Tryz.ntmps3;go_wp2_with (fail);clear hW0;go_at_call 8;refine q0'.out.mono ?_;rintro e W1 ⟨rfl,hle1⟩;have hl1:=hle0'.out.trans hle1;have kx1:=qD2 hle1 kx'.out;obtain⟨x0,x1,x2,x3⟩:=qAK kx1;have q1:=qKd (fun _=>True) x 12 _ W1 (by decide) (h0'.out.le hl1);rw[hgr'.out]at q1;have⟨hle1',hl1',kx1',q1'⟩:=hyd4 hle1 hl1 kx1 q1;clear q1 kx1 hl1 hle1;go_wp2_with (fail);go_at_call 9;refine q1'.out.mono ?_;rintro e W2 ⟨rfl,hle2⟩;have hl2:=hl1'.out.trans hle2;have kx2:=qD2 hle2 kx1'.out;clear x0 x1 x2 x3
 cases gr
 ·by_cases hA:200<N
  ·have j1:200<(N:Int):=by omega
   have⟨hle2',hl2',kx2'⟩:=hyd3 hle2 hl2 kx2;clear kx2 hl2 hle2;go_wp2;go_ret;exact⟨rfl,hl2'.out⟩
  ·have j1:¬200<(N:Int):=by omega
   have hN2:N≤200:=by omega
   obtain⟨x0,x1,x2,x3⟩:=qAK kx2;have q2:=qFn (fun _=>True) x _ W2 (h0'.out.le hl2) (hw'.out.le hl2);have hpar:=qJg (l:=l) (by rw[hN'.out];exact hN2);have⟨hle2',hl2',kx2',q2',hpar'⟩:=hyd5 hle2 hl2 kx2 q2 hpar;clear hpar q2 kx2 hl2 hle2;go_wp2_with (fail);go_at_call 10;refine q2'.out.mono ?_;rintro e W3 ⟨rfl,hle3⟩;have hl3:=hl2'.out.trans hle3;have kx3:=qD2 hle3 kx2'.out;clear x0 x1 x2 x3
   cases hr:x.rat? with
   | none=>
    have e1:qDc x=[]:=by unfold qDc;rw[hr]
    have e2:qDd x=10:=by unfold qDd;rw[hr]
    rw[e1,e2];have⟨hle3',hl3',kx3',e1',e2',hr'⟩:=hyd6 hle3 hl3 kx3 e1 e2 hr;clear hr e2 e1 kx3 hl3 hle3;have q8:=qEq (fun _=>True) l W3 (Up.any _) (by have:=hN'.out;omega) (hw'.out.le hl3'.out)
    rcases hpar'.out with⟨r2,hp,hs,hz⟩|hp
    ·rw[hp]at q8;have⟨q8',hp',hs',hz'⟩:=hyd4 q8 hp hs hz;clear hz hs hp q8;go_wp2_with (fail);go_at_call 11;refine q8'.out.mono ?_;rintro e X1 ⟨hm1,v8,c8,rfl,hf8,rfl⟩;obtain⟨A8,c8,B8,d8,e8,i8,j8⟩:=hf8.isA;subst e8;generalize hY:qAI r2=Y at i8 j8 ⊢;obtain⟨X2,hX2,hm2,k8⟩:=al1 X1 (.cells #[.bool Y.sn,.slice A8 Y.gn.length c8,.bool Y.sd,.slice B8 Y.gd.length d8] 26);obtain⟨y0,y1,y2,y3⟩:=qAK k8;have hYA:IsFracA (fun _=>True) X2 (.agg #[.bool Y.sn,.slice A8 Y.gn.length c8,.bool Y.sd,.slice B8 Y.gd.length d8]) Y:=⟨A8,c8,B8,d8,rfl,i8.le hm2,j8.le hm2⟩;have hlx:=hl3'.out.trans (hm1.trans hm2);have q9:=qFn (fun _=>True) Y _ X2 hYA (hw'.out.le hlx);rw[←hY,qHj hz'.out,qHk hz'.out,hs'.out,hY]at q9;have⟨hm1',hf8',i8',j8',hm2',k8',hYA',hlx'⟩:=hyd8 hm1 hf8 i8 j8 hm2 k8 hYA hlx;have q9':=hyd1 q9;clear q9 hlx hYA k8 hm2 j8 i8 hf8 hm1;go_wp2_with (fail);clear hX2;go_at_call 10;refine q9'.out.mono ?_;rintro e X3 ⟨rfl,hm3⟩;have k83:=qD2 hm3 k8'.out;clear y0 y1 y2 y3;obtain⟨y0,y1,y2,y3⟩:=qAK k83;have q10:=qFP (fun _=>True) Y _ X3 (Up.any _) (hYA'.out.le hm3);rw[←hY,qIp hz'.out,hY]at q10;have hlx3:=hlx'.out.trans hm3;have⟨hm3',k83',q10',hlx3',hY'⟩:=hyd5 hm3 k83 q10 hlx3 hY;clear hY hlx3 q10 k83 hm3;go_wp2_with (fail);go_at_call 13;refine q10'.out.mono ?_;rintro e X4 ⟨rfl,hm4⟩;have hok:okE true=0:=by unfold okE;rfl
     rw[hok];have⟨hm4',hok'⟩:=hyd2 hm4 hok;clear hok hm4;go_wp2;go_ret;exact⟨rfl,hlx3'.out.trans hm4'.out⟩
    ·rw[hp]at q8;have⟨q8',hp'⟩:=hyd2 q8 hp;clear hp q8;go_wp2_with (fail);go_at_call 11;refine q8'.out.mono ?_;rintro e X1 ⟨hm1,v8,c8,rfl,rfl,rfl⟩;unfold qEe;have hlx:=hl3'.out.trans (hm1.trans (qAA X1 (.cells #[.bool false,.slice none 0 0,.bool false,.slice none 0 0] 26)));have⟨hm1',hlx'⟩:=hyd2 hm1 hlx;clear hlx hm1;go_wp2;go_ret;exact⟨rfl,hlx'.out⟩
   | some r=>
    have hz0:=FracA.sz hr;have e1:qDc x=qAH r:=by unfold qDc;rw[hr]
    have e2:qDd x=0:=by unfold qDd;rw[hr]
    rw[e1,e2];have hxe:=qNc hr;have hl9:=qIt hz0 (by decide);have q3:=qEq (fun _=>True) (qAH r) W3 (Up.any _) (by omega) (hw'.out.le hl3);rw[qGe hz0]at q3;have hlook:=fun(i:Nat) (b:UInt8)=>qLf (r:=r) (i:=i) (b:=b);obtain⟨t,ht⟩:∃t,qAH r=t:=⟨_,rfl⟩;rw[ht]at q3 hl9 hlook ⊢;have htz:=qBO t;obtain⟨M,hM⟩:∃M,t.length=M:=⟨_,rfl⟩;rw[hM]at htz hl9;have⟨hle3',hl3',kx3',e1',e2',hr',hz0',hxe'⟩:=hyd8 hle3 hl3 kx3 e1 e2 hr hz0 hxe;have⟨q3',ht',hlook',hM',hl9'⟩:=hyd5 q3 ht hlook hM hl9;clear hl9 hM hlook ht q3 hxe hz0 hr e2 e1 kx3 hl3 hle3;go_wp2_with (fail);go_at_call 11;refine q3'.out.mono ?_;rintro e W4 ⟨hle4,v4,c4,rfl,hf4,rfl⟩;have hI4:=hf4.isA;rw[←hxe'.out]at hI4;obtain⟨A4,c4,B4,d4,e4,i4,j4⟩:=hI4;subst e4;obtain⟨W5,hW5,hle5,k5⟩:=al1 W4 (.cells #[.bool x.sn,.slice A4 x.gn.length c4,.bool x.sd,.slice B4 x.gd.length d4] 26);have hl5:=hl3'.out.trans (hle4.trans hle5);have kx5:=qD2 (hle4.trans hle5) kx3'.out;obtain⟨x0,x1,x2,x3⟩:=qAK kx5;obtain⟨y0,y1,y2,y3⟩:=qAK k5;have q4:=qNx x x (.agg #[.bool x.sn,.slice A x.gn.length c,.bool x.sd,.slice B x.gd.length d]) (.agg #[.bool x.sn,.slice A4 x.gn.length c4,.bool x.sd,.slice B4 x.gd.length d4]) W5 (h0'.out.le hl5) ⟨A4,c4,B4,d4,rfl,i4.le hle5,j4.le hle5⟩;rw[qDb]at q4;have⟨hle4',hf4',i4',j4',hle5',k5',hl5',kx5'⟩:=hyd8 hle4 hf4 i4 j4 hle5 k5 hl5 kx5;have q4':=hyd1 q4;clear q4 kx5 hl5 k5 hle5 j4 i4 hf4 hle4;go_wp2_with (fail)
    clear hW5;go_at_call 12;refine q4'.out.mono ?_;rintro e W6 ⟨rfl,hle6⟩;have hl6:=hl5'.out.trans hle6;clear x0 x1 x2 x3 y0 y1 y2 y3;have⟨hle6',hl6'⟩:=hyd2 hle6 hl6;clear hl6 hle6;go_wp2_with (fail);go_loopw [50] (fun i wr=>∃k:Nat,i= .int .i64 (k:Int)∧k≤M∧wr=W6) (fun i _=>M - (intOf i).toNat)
    case atStart=>exact⟨0,rfl,Nat.zero_le _,rfl⟩
    case round=>
     obtain⟨k,rfl,hk,rfl⟩:=hrel
     by_cases hlt:k<M
     ·have hkx:k<t.length:=by rw[hM'.out];exact hlt
      have m1:(k:Int)<(M:Int):=by omega
      have hM9:M≤1000:=by have:=hl9'.out;omega
      have m2:(0:Int)≤(k:Int):=by omega
      have hik:=qHv Tryz.prog 9 t k Tryz.underlying9 hkx;have hlk:=hlook'.out k t[k] (List.getElem?_eq_getElem hkx);obtain⟨Bt,hBt⟩:∃n,t[k].toNat =n:=⟨_,rfl⟩;rw[hBt]at hlk;simp only[hBt]at hik
      rcases hlk with⟨l1,l2⟩|l1| ⟨l1,l2⟩
      ·have m3:¬(Bt:Int)<48:=by omega
       have m4:¬57<(Bt:Int):=by omega
       have⟨hBt',l1',l2'⟩:=hyd3 hBt l1 l2;clear l2 l1 hBt;go_wp2;go_roundw
       case rel=>exact⟨k+1,by go_num,by omega,by first |rfl|trivial⟩
       case measure=>(simp[intOf];try omega)
      ·subst l1;have hBt':=hyd1 hBt;clear hBt;go_wp2;go_roundw
       case rel=>exact⟨k+1,by go_num,by omega,by first |rfl|trivial⟩
       case measure=>(simp[intOf];try omega)
      ·subst l1;subst l2;have hik0:=qNa Tryz.prog 9 t Tryz.underlying9 hkx;simp only[hBt]at hik0;clear hik;have hBt':=hyd1 hBt;clear hBt;go_wp2;go_roundw
       case rel=>first |exact⟨1,by go_num,by omega,by first |rfl|trivial⟩| (trace_state;fail)
       case measure=>(simp[intOf];try omega)
     ·have m1:¬(k:Int)<(M:Int):=by omega
      have q8:=qEq (fun _=>True) l wr (Up.any _) (by have:=hN'.out;omega) (hw'.out.le hl6'.out)
      rcases hpar'.out with⟨r2,hp,hs,hz⟩|hp
      ·rw[hp]at q8;have⟨q8',hp',hs',hz'⟩:=hyd4 q8 hp hs hz;clear hz hs hp q8;go_wp2_with (fail);go_at_call 11;refine q8'.out.mono ?_;rintro e X1 ⟨hm1,v8,c8,rfl,hf8,rfl⟩;obtain⟨A8,c8,B8,d8,e8,i8,j8⟩:=hf8.isA;subst e8;generalize hY:qAI r2=Y at i8 j8 ⊢;obtain⟨X2,hX2,hm2,k8⟩:=al1 X1 (.cells #[.bool Y.sn,.slice A8 Y.gn.length c8,.bool Y.sd,.slice B8 Y.gd.length d8] 26);obtain⟨y0,y1,y2,y3⟩:=qAK k8;have hYA:IsFracA (fun _=>True) X2 (.agg #[.bool Y.sn,.slice A8 Y.gn.length c8,.bool Y.sd,.slice B8 Y.gd.length d8]) Y:=⟨A8,c8,B8,d8,rfl,i8.le hm2,j8.le hm2⟩;have hlx:=hl6'.out.trans (hm1.trans hm2);have q9:=qFn (fun _=>True) Y _ X2 hYA (hw'.out.le hlx);rw[←hY,qHj hz'.out,qHk hz'.out,hs'.out,hY]at q9;have⟨hm1',hf8',i8',j8',hm2',k8',hYA',hlx'⟩:=hyd8 hm1 hf8 i8 j8 hm2 k8 hYA hlx;have q9':=hyd1 q9;clear q9 hlx hYA k8 hm2 j8 i8 hf8 hm1;go_wp2_with (fail);clear hX2;go_at_call 10;refine q9'.out.mono ?_;rintro e X3 ⟨rfl,hm3⟩;have k83:=qD2 hm3 k8'.out;clear y0 y1 y2 y3;obtain⟨y0,y1,y2,y3⟩:=qAK k83;have q10:=qFP (fun _=>True) Y _ X3 (Up.any _) (hYA'.out.le hm3);rw[←hY,qIp hz'.out,hY]at q10;have hlx3:=hlx'.out.trans hm3;have⟨hm3',k83',q10',hlx3',hY'⟩:=hyd5 hm3 k83 q10 hlx3 hY;clear hY hlx3 q10 k83 hm3;go_wp2_with (fail);go_at_call 13;refine q10'.out.mono ?_;rintro e X4 ⟨rfl,hm4⟩;have hok:okE true=0:=by unfold okE;rfl
       rw[hok];have⟨hm4',hok'⟩:=hyd2 hm4 hok;clear hok hm4;go_wp2;go_ret;exact⟨rfl,hlx3'.out.trans hm4'.out⟩
      ·rw[hp]at q8;have⟨q8',hp'⟩:=hyd2 q8 hp;clear hp q8;go_wp2_with (fail);go_at_call 11;refine q8'.out.mono ?_;rintro e X1 ⟨hm1,v8,c8,rfl,rfl,rfl⟩;unfold qEe;have hlx:=hl6'.out.trans (hm1.trans (qAA X1 (.cells #[.bool false,.slice none 0 0,.bool false,.slice none 0 0] 26)));have⟨hm1',hlx'⟩:=hyd2 hm1 hlx;clear hlx hm1;go_wp2;go_ret;exact⟨rfl,hlx'.out⟩
 ·have⟨hle2',hl2',kx2'⟩:=hyd3 hle2 hl2 kx2;clear kx2 hl2 hle2;go_wp2;go_ret;exact⟨rfl,hl2'.out⟩
theorem law_ExactText (a0:FracA) (x0:Value) (a1:ByteArray) (w:World) (w0:IsFracA (fun _=>True) w x0 a0) (w1:a1.size≤maxLen) (hTW:TxW w):
  Calls Tryz.prog 3 #[x0,.string a1] w fun e w'=>e= .returned (.bool true)∧Below w.heap.size w w':=by
 rw[qOA a1];exact qOB a0 x0 a1.data.toList w w0 hTW
open Go.RowKit
def InRow (k:IntKind) (w:World) (a:Option Addr) (len cap:Nat) (zs:List Int):Prop:=
 (a=none∧len=0∧cap=0∧zs=[])∨
 ∃x,a=some x∧len≤cap∧cap≤maxLen∧zs.length=cap∧(∀i,i<zs.length→w.cell? (x.add i)=some (.int k (zs.getD i 0)))∧∀n∈zs,(Lit.int k n).wf =true
theorem InRow.arr {k:IntKind} {w:World} {a:Option Addr} {len cap:Nat} {zs:List Int} (h:InRow k w a len cap zs):Arr (Value.int k) w (.slice a len cap) (zs.take len)∧∀n∈zs.take len,(Lit.int k n).wf =true:=by
 rcases h with⟨rfl,rfl,rfl,rfl⟩| ⟨x,rfl,hl,hm,hz,hc,hw⟩
 ·exact⟨Arr.nil _ _,by simp⟩
 ·have hlen:(zs.take len).length =len:=by simp;omega
  refine⟨⟨some x,cap,by rw[hlen],by omega,hm,fun h=>by simp at h,fun h0=>?_⟩,fun n hn=>hw n (List.mem_of_mem_take hn)⟩;rw[hlen]at h0;obtain⟨b,off,spot⟩:=x;have hc0:=hc 0 (by omega);have hspot:spot=none:=by simpa[Addr.add]using World.cell?_spot hc0
  subst hspot;refine⟨b,off,rfl,World.block_lt_of_cell? w _ hc0,fun j hj=>?_⟩;have hj':j<zs.length:=by rw[hlen]at hj;omega
  have h1:=hc j hj';have hadd:(⟨b,off,none⟩:Addr).add j=⟨b,off+j,none⟩:=by unfold Addr.add;split<;>simp_all
  rw[hadd]at h1;rw[h1];simp[hj']
open Go.RowKit Go.ChangeShapes Go.WideShapes Go.Deep
theorem qOX {n:Int} (h:(Lit.int .u32 n).wf =true):0≤n∧n<4294967296:=by
 have h1:IntKind.u32.min≤n∧n≤IntKind.u32.max:=by simpa[Lit.wf]using h
 have e1:IntKind.u32.min=0:=by kernel_rfl
 have e2:IntKind.u32.max=4294967295:=by kernel_rfl
 rw[e1,e2]at h1;omega
theorem qNM {w:World} {v:Value} {zs:List Int} (h:Arr (Value.int .u32) w v zs) (hz:∀n∈zs,(Lit.int .u32 n).wf =true):ArrL (fun _=>True) (gv .u32) w v (zs.map Int.toNat):=by
 obtain⟨A,c,hv,h1,h2,hN,h3⟩:=h;refine⟨A,c,by rw[hv,List.length_map],by rw[List.length_map];exact h1,h2,hN,fun h0=>?_⟩;rw[List.length_map]at h0;obtain⟨b,off,ha,hlt,hc⟩:=h3 h0;refine⟨b,off,ha,trivial,hlt,fun j hj=>?_⟩;have hj2:j<zs.length:=by simpa using hj
 rw[hc j hj2];have:=(qOX (hz _ (List.getElem_mem hj2))).1;unfold gv;rw[List.getElem_map,Int.toNat_of_nonneg this]
section
variable {H:Type} {enc:TypeId×Value→H} {w:World} {n:Nat}
theorem qJ9 {v:Value} {y:DataW H×List MemPlace} (h:DataW.trod enc Tryz.prog w 0 (fun _=>true) true n 22 [v]=some y):∃gs:List Nat,ArrL (fun _=>True) (gv .u32) w v gs:=by
 rcases open_ints Tryz.underlying22 Tryz.underlying92 (by kernel_rfl) h with⟨hcs,_⟩| ⟨x,l,c,zs,hcs,_,hl,hm,hz,_,hcell,hwz⟩
 ·obtain rfl:v= .slice none 0 0:=by simpa using hcs
  exact⟨[],none,0,rfl,Nat.le_refl _,Nat.zero_le _,fun _=>rfl,fun h=>absurd h (Nat.lt_irrefl 0)⟩
 ·obtain rfl:v= .slice (some x) l c:=by simpa using hcs
  have:=InRow.arr (k:= .u32) (.inr ⟨_,rfl,hl,hm,by simpa using hz,hcell,hwz⟩);exact⟨_,qNM this.1 this.2⟩
theorem qHM {v0 v1:Value} {y:DataW H×List MemPlace} (h:DataW.trod enc Tryz.prog w 0 (fun _=>true) true n 24 [v0,v1]=some y):∃(s:Bool) (gs:List Nat),v0= .bool s∧ArrL (fun _=>True) (gv .u32) w v1 gs:=by
 obtain⟨xs,m,-,-,-,hlen,hg⟩:=DataW.trod_struct Tryz.underlying24 h;obtain⟨y0,hy0⟩:∃y,xs[0]? =some y:=⟨_,List.getElem?_eq_getElem (by rw[hlen];decide)⟩;obtain⟨y1,hy1⟩:∃y,xs[1]? =some y:=⟨_,List.getElem?_eq_getElem (by rw[hlen];decide)⟩;have g0:=(hg 0 _ rfl).trans hy0;have g1:=(hg 1 _ rfl).trans hy1;obtain⟨s,e,-⟩:=DataW.trod_bool (cs:=[v0]) Tryz.underlying4 g0;obtain⟨gs,ha⟩:=qJ9 (v:=v1) g1;exact⟨s,gs,by simpa using e,ha⟩
theorem open_frac {r:Reach} {b0:Nat} {v:Value} {d:DataW H} {p:List MemPlace} (hv:Value.okWide Tryz.prog w r b0 26 v) (h:DataW.Trod enc Tryz.prog w 0 (fun _=>true) true 26 v d p):
  ∃a:FracA,IsFracA (fun _=>True) w v a:=by
 obtain⟨cs,rfl,hsz⟩:=okWide_struct Tryz.underlying26 hv;obtain⟨fuel,hf⟩:=h;obtain⟨xs,m,-,-,-,hlen,hg⟩:=DataW.trod_struct Tryz.underlying26 hf;obtain⟨l,rfl⟩:∃l:List Value,cs=l.toArray:=⟨cs.toList,by simp⟩
 have hl:l.length=4:=by
  have:Tryz.prog.cellsOf 26=4:=by kernel_rfl
  rw[this]at hsz;simpa using hsz
 match l,hl with
 | [v0,v1,v2,v3],_=>
  obtain⟨y0,hy0⟩:∃y,xs[0]? =some y:=⟨_,List.getElem?_eq_getElem (by rw[hlen];decide)⟩;obtain⟨y1,hy1⟩:∃y,xs[1]? =some y:=⟨_,List.getElem?_eq_getElem (by rw[hlen];decide)⟩;have g0:=(hg 0 _ rfl).trans hy0;have g1:=(hg 1 _ rfl).trans hy1;obtain⟨s,gn,rfl,ha⟩:=qHM (v0:=v0) (v1:=v1) g0;obtain⟨s',gd,rfl,hb⟩:=qHM (v0:=v2) (v1:=v3) g1;obtain⟨A,c,e1,-⟩:=id ha;obtain⟨B,c',e3,-⟩:=id hb;subst e1 e3;exact⟨⟨s,gn,s',gd⟩,A,c,B,c',rfl,ha,hb⟩
end
end Go.Proofs.YtenjpccpldajoaaGreatDoor

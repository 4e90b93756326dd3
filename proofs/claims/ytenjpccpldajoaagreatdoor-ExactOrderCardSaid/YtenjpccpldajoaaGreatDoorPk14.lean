/- exact: fractions that are arguments: what they are; in. The reference: groups. reference 1: In. reference 1: fractions: Order. reference 1: fractions: written. .. -/
import Derived.Test.YtenjpccpldajoaaGreatDoorPk13
namespace Go.Proofs.YtenjpccpldajoaaGreatDoor
set_option maxRecDepth 100000
open Go.RowKit Go.Shelf
set_option linter.unusedVariables false
set_option linter.unusedSimpArgs false
structure FracA where
 sn:Bool
 gn:List Nat
 sd:Bool
 gd:List Nat
def FracA.ok (x:FracA):Bool:=isW x.sn x.gn&&isW x.sd x.gd&& !x.sd&&decide (0<x.gd.length)
open Classical in
noncomputable def FracA.rat? (x:FracA):Option Rat:=if x.ok=true∧Nat.gcd (nv x.gn) (nv x.gd)=1 then some (mkR x.sn (nv x.gn) (nv x.gd))else none
def IsFracA (L:Nat→Prop) (w:World) (v:Value) (x:FracA):Prop:=∃A c B d,v= .agg #[.bool x.sn,.slice A x.gn.length c,.bool x.sd,.slice B x.gd.length d]∧ArrL L (gv .u32) w (.slice A x.gn.length c) x.gn∧ArrL L (gv .u32) w (.slice B x.gd.length d) x.gd
theorem IsFracA.le {L:Nat→Prop} {w W:World} {v:Value} {x:FracA} (h:IsFracA L w v x) (hb:Le w W):IsFracA L W v x:=by
 obtain⟨A,c,B,d,e,h1,h2⟩:=h;exact⟨A,c,B,d,e,h1.le hb,h2.le hb⟩
theorem IsFracA.mono {L L2:Nat→Prop} {w:World} {v:Value} {x:FracA} (h:IsFracA L w v x) (hL:∀b,L b→L2 b):IsFracA L2 w v x:=by
 obtain⟨A,c,B,d,e,h1,h2⟩:=h;exact⟨A,c,B,d,e,h1.mono hL,h2.mono hL⟩
theorem qD8 {s:Bool} {g:List Nat} (h:isW s g=true):Norm g∧g.length≤40∧(nv g=0→s=false):=by
 unfold isW at h;simp only[Bool.and_eq_true,decide_eq_true_eq,Bool.not_eq_true']at h;obtain⟨⟨h1,h2⟩,h3⟩:=h;have hB:=qAO
 have hlow:Low g:=fun x hx=>by
  rw[hB];have:=List.any_eq_false.1 h2 x hx;simpa using this
 have hlast:g.getLast?≠some 0:=by
  by_cases h0:g.length=0
  ·have:g=[]:=List.eq_nil_of_length_eq_zero h0;subst this;simp
  ·rw[if_neg h0]at h3;rw[List.getLast?_eq_getElem?];intro e;rw[List.getD_eq_getElem?_getD,e]at h3;simp at h3
 refine⟨⟨hlow,hlast⟩,h1,fun hz=>?_⟩
 by_cases h0:g.length=0
 ·rw[if_pos h0]at h3;simpa using h3
 ·have:=qHD hlast (fun e=>h0 (by rw[e];rfl));omega
theorem qMU {s:Bool} {g:List Nat} (h:isW s g=true):dg (nv g)=g:=qGA (qD8 h).1
structure FracA.Val (x:FracA) (r:Rat):Prop where
 neg:rneg r=x.sn
 num:dg (rnum r)=x.gn
 den:dg r.den=x.gd
 pos:x.sd=false
 wn:isW x.sn x.gn=true
 wd:isW false x.gd=true
 sz:Rsz r 40
theorem FracA.val {x:FracA} {r:Rat} (h:x.rat?=some r):x.Val r:=by
 unfold FracA.rat? at h
 split at h
 ·rename_i hc;injection h with h;subst h;obtain⟨hok,hg⟩:=hc;unfold FracA.ok at hok;simp only[Bool.and_eq_true,decide_eq_true_eq,Bool.not_eq_true']at hok;obtain⟨⟨⟨h1,h2⟩,h3⟩,h4⟩:=hok;obtain⟨n1,n2,n3⟩:=qD8 h1;obtain⟨d1,d2,d3⟩:=qD8 h2;have hd:nv x.gd≠0:=Nat.ne_of_gt (qHD d1.2 (fun e=>by rw[e]at h4;simp at h4))
  have e1:rneg (mkR x.sn (nv x.gn) (nv x.gd))=x.sn:=by
   rw[qHs _ _ _ hd]
   by_cases hz:nv x.gn=0
   ·rw[n3 hz];rfl
   ·rw[show decide (0<nv x.gn)=true by simp;omega,Bool.and_true]
  have e2:rnum (mkR x.sn (nv x.gn) (nv x.gd))=nv x.gn:=by rw[qEM _ _ _ hd,hg,Nat.div_one]
  have e3:(mkR x.sn (nv x.gn) (nv x.gd)).den =nv x.gd:=by rw[qEt _ _ _ hd,hg,Nat.div_one]
  refine⟨e1,by rw[e2,qGA n1],by rw[e3,qGA d1],h3,h1,by rw[h3]at h2;exact h2,?_,?_⟩
  ·rw[e2,qGA n1];exact n2
  ·rw[e3,qGA d1];exact d2
 ·cases h
theorem FracA.bad {x:FracA} (h:x.rat?=none):x.ok=false∨(isW x.sn x.gn=true∧isW false x.gd=true∧x.sd=false∧nv x.gd≠0∧Nat.gcd (nv x.gn) (nv x.gd)≠1):=by
 unfold FracA.rat? at h
 split at h
 ·cases h
 ·rename_i hc
  cases hok:x.ok with
  | false=>exact .inl rfl
  | true=>
   have h5:=hok;unfold FracA.ok at h5;simp only[Bool.and_eq_true,decide_eq_true_eq,Bool.not_eq_true']at h5;obtain⟨⟨⟨h1,h2⟩,h3⟩,h4⟩:=h5;obtain⟨d1,d2,d3⟩:=qD8 h2;refine .inr ⟨h1,by rw[h3]at h2;exact h2,h3,Nat.ne_of_gt (qHD d1.2 (fun e=>by rw[e]at h4;simp at h4)),fun hg=>hc ⟨hok,hg⟩⟩
theorem qAh (L:Nat→Prop) (x:FracA) (r:Rat) (v:Value) (w:World) (hL:Up w L) (h:IsFracA L w v x) (hr:x.rat?=some r):
  Calls Tryz.prog 41 #[v] w fun e w'=>∃v',e= .returned v'∧Le w w'∧RatL L .u32 w' v' r:=by
 obtain⟨A,c,B,d,rfl,h1,h2⟩:=h;have V:=FracA.val hr;have k:=qN2 L r (.slice A x.gn.length c) (.slice B x.gd.length d) w hL (by unfold NumL;rw[V.num];exact h1) (by unfold NumL;rw[V.den];exact h2) (by rw[V.neg,V.num];exact V.wn) (by rw[V.den];exact V.wd) V.sz;rw[V.neg]at k;rw[V.pos];exact k
theorem qBC (L:Nat→Prop) (x:FracA) (v:Value) (w:World) (hL:Up w L) (h:IsFracA L w v x) (hr:x.rat?=none):
  Calls Tryz.prog 41 #[v] w fun e w'=>e= .panicked [{v:= .iface 137 (.agg #[.int .i64 10]),recovered:=false}]∧Le w w':=by
 obtain⟨A,c,B,d,rfl,h1,h2⟩:=h
 rcases FracA.bad hr with hb| ⟨b1,b2,b3,b4,b5⟩
 ·exact qN3 L x.sn x.sd x.gn x.gd _ _ w hL h1 h2 hb
 ·rw[b3];have e1:=qMU b1;have e2:=qMU b2;exact qMT L x.sn (nv x.gn) (nv x.gd) _ _ w hL (by unfold NumL;rw[e1];exact h1) (by unfold NumL;rw[e2];exact h2) b4 (by rw[e1];exact b1) (by rw[e2];exact b2) (by rw[e1];exact(qD8 b1).2.1) (by rw[e2];exact(qD8 b2).2.1) b5
end Go.Proofs.YtenjpccpldajoaaGreatDoor
namespace Go.Proofs.YtenjpccpldajoaaGreatDoor
set_option maxRecDepth 100000
open Go.RowKit Go.Shelf
set_option linter.unusedVariables false
set_option linter.unusedSimpArgs false
theorem qAy (w:World) (o0 o1:Obj):∃W0,(w.alloc o0).alloc o1=W0∧W0.heap.size=w.heap.size+2∧Le w W0∧W0.heap[w.heap.size]? =some o0∧W0.heap[w.heap.size+1]? =some o1:=by
 obtain⟨h1,h2,h3⟩:=qAi (Le.refl ((w.alloc o0).alloc o1));exact⟨_,rfl,by simp,h1,h2,h3⟩
theorem qMV {W:World} {X:Nat} {v0 v1:Value} {t:TypeId} (h:W.heap[X]? =some (Obj.cells #[v0,v1] t)):W.cell? ⟨X,0,none⟩=some v0∧W.cell? ⟨X,1,none⟩=some v1:=
 ⟨cell_of_row W X 0 _ _ _ h,cell_of_row W X 1 _ _ _ h⟩
def qCz:Value:= .agg #[.bool false,.slice none 0 0,.bool false,.slice none 0 0]
theorem FracL.le {L:Nat→Prop} {w W:World} {v:Value} {r:Rat} (h:FracL L w v r) (hb:Le w W):FracL L W v r:=by
 obtain⟨A,c,B,d,e,h1,h2⟩:=h;exact⟨A,c,B,d,e,h1.le hb,h2.le hb⟩
set_option maxHeartbeats 1000000
def bigB (n m:Nat):Bool:=(decide (m<n)&&decide (n≤40))||decide (42<n)
theorem qJV (n m:Nat) (w:World) (hn:(n:Int)≤9223372036854775807) (hm:(m:Int)≤1000):
  Calls Tryz.prog 37 #[.int .i64 n,.int .i64 m] w fun e w'=>e= .returned (.bool (bigB n m))∧w=w':=by
 unfold bigB
 by_cases h1:m<n
 ·by_cases h2:n≤40
  ·have d1:(decide (m<n)&&decide (n≤40)||decide (42<n))=true:=by simp[h1,h2]
   rw[d1];clear d1;have i1:(m:Int)<(n:Int):=by omega
   have i2:(n:Int)≤40:=by omega
   go_enter Tryz.func37,Tryz.ntmps37;go_wp2;go_ret;exact⟨rfl,rfl⟩
  ·by_cases h3:42<n
   ·have d1:(decide (m<n)&&decide (n≤40)||decide (42<n))=true:=by simp[h3]
    rw[d1];clear d1;have i1:(m:Int)<(n:Int):=by omega
    have i2:¬(n:Int)≤40:=by omega
    have i3:42<(n:Int):=by omega
    go_enter Tryz.func37,Tryz.ntmps37;go_wp2;go_ret;exact⟨rfl,rfl⟩
   ·have d1:(decide (m<n)&&decide (n≤40)||decide (42<n))=false:=by simp[h2,h3]
    rw[d1];clear d1;have i1:(m:Int)<(n:Int):=by omega
    have i2:¬(n:Int)≤40:=by omega
    have i3:¬42<(n:Int):=by omega
    go_enter Tryz.func37,Tryz.ntmps37;go_wp2;go_ret;exact⟨rfl,rfl⟩
 ·by_cases h3:42<n
  ·have d1:(decide (m<n)&&decide (n≤40)||decide (42<n))=true:=by simp[h3]
   rw[d1];clear d1;have i1:¬(m:Int)<(n:Int):=by omega
   have i3:42<(n:Int):=by omega
   go_enter Tryz.func37,Tryz.ntmps37;go_wp2;go_ret;exact⟨rfl,rfl⟩
  ·have d1:(decide (m<n)&&decide (n≤40)||decide (42<n))=false:=by simp[h1,h3]
   rw[d1];clear d1;have i1:¬(m:Int)<(n:Int):=by omega
   have i3:¬42<(n:Int):=by omega
   go_enter Tryz.func37,Tryz.ntmps37;go_wp2;go_ret;exact⟨rfl,rfl⟩
def qAo (x:FracA) (m:Nat):Bool:=bigB x.gn.length m||bigB x.gd.length m
theorem ArrL.lenB {α:Type} {L:Nat→Prop} {f:α→Value} {w:World} {v:Value} {xs:List α} (h:ArrL L f w v xs):(xs.length:Int)≤9223372036854775807:=by
 obtain⟨A,c,hv,h1,h2,-⟩:=h;unfold maxLen at h2;omega
theorem qCP (L:Nat→Prop) (x:FracA) (m:Nat) (v:Value) (w:World) (hm:(m:Int)≤1000) (h:IsFracA L w v x):
  Calls Tryz.prog 9 #[v,.int .i64 m] w fun e w'=>e= .returned (.bool (qAo x m))∧Le w w':=by
 obtain⟨A,c,B,d,rfl,h1,h2⟩:=h;have l1:=h1.lenB;have l2:=h2.lenB;have k1:=fun W=>qJV x.gn.length m W l1 hm;have k2:=fun W=>qJV x.gd.length m W l2 hm;obtain⟨b1,hb1⟩:∃b1,bigB x.gn.length m=b1:=⟨_,rfl⟩;obtain⟨b2,hb2⟩:∃b2,bigB x.gd.length m=b2:=⟨_,rfl⟩;have hg:qAo x m=(b1||b2):=by unfold qAo;rw[hb1,hb2]
 rw[hb1]at k1;rw[hb2]at k2;rw[hg];have hle:=qAB w (.cells #[.bool x.sn,.slice A x.gn.length c,.bool x.sd,.slice B x.gd.length d] 26);have⟨h1',h2',k1',k2',hb1',hb2',hg',hle'⟩:=hyd8 h1 h2 k1 k2 hb1 hb2 hg hle;clear hle hg hb2 hb1 k2 k1 h2 h1
 cases b1
 ·go_enter Tryz.func9,Tryz.ntmps9;go_wp2_with (fail);go_at_call 37;refine(k1'.out _).mono ?_;rintro e w' ⟨rfl,rfl⟩;go_wp2_with (fail);go_at_call 37;refine(k2'.out _).mono ?_;rintro e w' ⟨rfl,rfl⟩;go_wp2;go_ret;exact⟨by simp,hle'.out⟩
 ·go_enter Tryz.func9,Tryz.ntmps9;go_wp2_with (fail);go_at_call 37;refine(k1'.out _).mono ?_;rintro e w' ⟨rfl,rfl⟩;go_wp2;go_ret;exact⟨by simp,hle'.out⟩
def qCk (s1:Bool) (g1:List Nat) (s2:Bool) (g2:List Nat):Bool:=(s1==s2)&&(g1==g2)
theorem qEw (L L2:Nat→Prop) (s1 s2:Bool) (g1 g2:List Nat) (A B:Option Addr) (c d:Nat) (w:World) (h1:ArrL L (gv .u32) w (.slice A g1.length c) g1) (h2:ArrL L2 (gv .u32) w (.slice B g2.length d) g2):
  Calls Tryz.prog 113 #[.agg #[.bool s1,.slice A g1.length c],.agg #[.bool s2,.slice B g2.length d]] w fun e w'=>e= .returned (.bool (qCk s1 g1 s2 g2))∧Le w w':=by
 have l1:=h1.lenB;have l2:=h2.lenB;obtain⟨W0,hW0,hsz,hle,k0,k1⟩:=qAy w (.cells #[.bool s1,.slice A g1.length c] 24) (.cells #[.bool s2,.slice B g2.length d] 24)
 by_cases hs:s1=s2
 ·subst hs
  by_cases hl:g1.length=g2.length
  ·have hne:((g1.length:Int) != (g2.length:Int))=false:=by simp[hl]
   have hne2:¬(g1.length:Int)≠(g2.length:Int):=by simp[hl]
   have hres:qCk s1 g1 s1 g2=(g1==g2):=by unfold qCk;simp
   rw[hres];obtain⟨Ap,cp,ep,-,-,aN,a3⟩:=h1;injection ep with e1 e2 e3;subst e1 e3;obtain⟨Bp,dp,ep,-,-,bN,b3⟩:=h2;injection ep with e1 e4 e3;subst e1 e3;have⟨hl',hres',a3',b3',aN',bN',hW0',hle'⟩:=hyd8 hl hres a3 b3 aN bN hW0 hle;have⟨k0',k1'⟩:=hyd2 k0 k1;clear k1 k0 hle hW0 bN aN b3 a3 hres hl;clear e2 e4;go_enter Tryz.func113,Tryz.ntmps113;go_wp2;rw[hW0'.out];go_loopw [5] (fun i wr=>∃k:Nat,k≤g1.length∧i= .int .i64 k∧Hid (g1.take k=g2.take k)∧Hid (Le W0 wr)) (fun i _=>g1.length - (intOf i).toNat)
   case atStart=>exact⟨0,Nat.zero_le _,rfl,Lib.hid (by simp),Lib.hid (Le.refl _)⟩
   case round=>
    obtain⟨k,hk,rfl,hpre,hlr⟩:=hrel;have q0:=(hlr.out.block w.heap.size (by omega)).trans k0'.out;have q1:=(hlr.out.block (w.heap.size+1) (by omega)).trans k1'.out;obtain⟨z0,z1⟩:=qMV q0;obtain⟨y0,y1⟩:=qMV q1;have⟨q0',q1'⟩:=hyd2 q0 q1;clear q1 q0
    by_cases hlt:k<g1.length
    ·have hlt2:k<g2.length:=by have:=hl'.out;omega
     obtain⟨ba,oa,rfl,-,hba,hca⟩:=a3'.out (by omega);obtain⟨bb,ob,rfl,-,hbb,hcb⟩:=b3'.out (by omega);have hcka:=(Below.cell (hle'.out.trans hlr.out) (p:=⟨ba,oa+k,none⟩) hba).trans (hca k hlt);have hckb:=(Below.cell (hle'.out.trans hlr.out) (p:=⟨bb,ob+k,none⟩) hbb).trans (hcb k hlt2);unfold gv at hcka hckb;obtain⟨x,hx⟩:∃x,g1[k]=x:=⟨_,rfl⟩;obtain⟨y,hy⟩:∃y,g2[k]=y:=⟨_,rfl⟩;rw[hx]at hcka;rw[hy]at hckb;clear hca hcb;have i1:(0:Int)≤(k:Int):=by omega
     have i2:(k:Int)<(g1.length:Int):=by omega
     have i3:(k:Int)<(g2.length:Int):=by omega
     by_cases hxy:x=y
     ·subst hxy;have hz:((x:Int) != (x:Int))=false:=by simp
      have hp2:Hid (g1.take (k+1)=g2.take (k+1)):=Lib.hid (by rw[List.take_succ_eq_append_getElem hlt,List.take_succ_eq_append_getElem hlt2,hpre.out,hx,hy]);have⟨hx',hy'⟩:=hyd2 hx hy;clear hy hx;go_wp2;go_quiet (fail);go_wp2;go_roundw
      case rel=>exact⟨k+1,by omega,by go_num,hp2,Lib.hid (hlr.out.trans (Le.quiet _))⟩
      case measure=>simp[intOf];omega
     ·have hz:((x:Int) != (y:Int))=true:=by simp;omega
      have hne9:(g1==g2)=false:=by
       rw[beq_eq_false_iff_ne];intro he;subst he;exact hxy (hx.symm.trans hy)
      have⟨hne9',hx',hy'⟩:=hyd3 hne9 hx hy;clear hy hx;clear hne9 hxy;go_wp2;go_quiet (fail);go_wp2;go_ret;exact⟨qCM (by rw[hne9'.out]),hle'.out.trans (hlr.out.trans (Le.quiet _))⟩
    ·have he:(g1==g2)=true:=by
      rw[beq_iff_eq];have h:=hpre.out;have:=hl'.out
      rwa[List.take_of_length_le (by omega),List.take_of_length_le (by omega)]at h
     have he':=hyd1 he;clear he;have hlt2:¬(k:Int)<(g1.length:Int):=by omega
     go_wp2;go_ret;exact⟨qCM (by rw[he'.out]),hle'.out.trans hlr.out⟩
  ·have hne:((g1.length:Int) != (g2.length:Int))=true:=by simp;omega
   have hne2:(g1.length:Int)≠(g2.length:Int):=by omega
   have hres:qCk s1 g1 s1 g2=false:=by
    unfold qCk;have:(g1==g2)=false:=beq_eq_false_iff_ne.2 (fun h=>hl (by rw[h]));rw[this,Bool.and_false]
   rw[hres];have⟨hres',h1',h2',hW0',hle',k0',k1',hl'⟩:=hyd8 hres h1 h2 hW0 hle k0 k1 hl;clear hl k1 k0 hle hW0 h2 h1 hres;go_enter Tryz.func113,Tryz.ntmps113;go_wp2;go_ret;have h9:=hle'.out;rw[←hW0'.out]at h9;exact⟨rfl,h9⟩
 ·have hres:qCk s1 g1 s2 g2=false:=by
   unfold qCk;rw[beq_eq_false_iff_ne.2 hs,Bool.false_and]
  have hs2:(s1 != s2)=true:=by simpa using hs
  rw[hres];have⟨hres',h1',h2',hW0',hle',k0',k1'⟩:=hyd7 hres h1 h2 hW0 hle k0 k1;clear k1 k0 hle hW0 h2 h1 hres;go_enter Tryz.func113,Tryz.ntmps113;go_wp2;go_ret;have h9:=hle'.out;rw[←hW0'.out]at h9;exact⟨rfl,h9⟩
def qBG (x y:FracA):Bool:=qCk x.sn x.gn y.sn y.gn&&qCk x.sd x.gd y.sd y.gd
theorem qB0 (x:FracA):qBG x x=true:=by unfold qBG qCk;simp
theorem qDA (L L2:Nat→Prop) (x y:FracA) (v1 v2:Value) (w:World) (h1:IsFracA L w v1 x) (h2:IsFracA L2 w v2 y):
  Calls Tryz.prog 51 #[v1,v2] w fun e w'=>e= .returned (.bool (qBG x y))∧Le w w':=by
 obtain⟨A,c,B,d,rfl,p1,p2⟩:=h1;obtain⟨A2,c2,B2,d2,rfl,q1,q2⟩:=h2;obtain⟨W0,hW0,hsz,hle,k0,k1⟩:=qAy w (.cells #[.bool x.sn,.slice A x.gn.length c,.bool x.sd,.slice B x.gd.length d] 26) (.cells #[.bool y.sn,.slice A2 y.gn.length c2,.bool y.sd,.slice B2 y.gd.length d2] 26);obtain⟨b1,hb1⟩:∃b1,qCk x.sn x.gn y.sn y.gn=b1:=⟨_,rfl⟩;obtain⟨b2,hb2⟩:∃b2,qCk x.sd x.gd y.sd y.gd=b2:=⟨_,rfl⟩;have hres:qBG x y=(b1&&b2):=by unfold qBG;rw[hb1,hb2]
 rw[hres];have r1:=qEw L L2 x.sn y.sn x.gn y.gn A A2 c c2 W0 (p1.le hle) (q1.le hle);rw[hb1]at r1;obtain⟨z0,z1,z2,z3⟩:=qAA k0;obtain⟨y0,y1,y2,y3⟩:=qAA k1;have⟨hres',hb1',hb2',p1',p2',q1',q2',hle'⟩:=hyd8 hres hb1 hb2 p1 p2 q1 q2 hle;have⟨k0',k1',r1',hW0'⟩:=hyd4 k0 k1 r1 hW0;clear hW0 r1 k1 k0 hle q2 q1 p2 p1 hb2 hb1 hres;go_enter Tryz.func51,Tryz.ntmps51;go_wp2_with (fail);go_at_call 113;rw[hW0'.out];refine r1'.out.mono ?_;rintro e W1 ⟨rfl,hle1⟩;clear z0 z1 z2 z3 y0 y1 y2 y3;have k01:=(hle1.block w.heap.size (by omega)).trans k0'.out;have k11:=(hle1.block (w.heap.size+1) (by omega)).trans k1'.out;obtain⟨z0,z1,z2,z3⟩:=qAA k01;obtain⟨y0,y1,y2,y3⟩:=qAA k11;have hle2:=hle'.out.trans hle1;have r2:=qEw L L2 x.sd y.sd x.gd y.gd B B2 d d2 W1 (p2'.out.le hle2) (q2'.out.le hle2);rw[hb2'.out]at r2;have⟨hle1',hle2',k01',k11',r2'⟩:=hyd5 hle1 hle2 k01 k11 r2;clear r2 k11 k01 hle2 hle1
 cases b1
 ·go_wp2;go_ret;exact⟨by simp,hle2'.out⟩
 ·go_wp2_with (fail);go_at_call 113;refine r2'.out.mono ?_;rintro e W2 ⟨rfl,hle3⟩;have hle3':=hyd1 hle3;clear hle3;go_wp2;go_ret;exact⟨by simp,hle2'.out.trans hle3'.out⟩
theorem qK9 (w:World) (o0 o1 o2 o3:Obj):∃W0,(((w.alloc o0).alloc o1).alloc o2).alloc o3=W0∧W0.heap.size=w.heap.size+4∧Le w W0∧W0.heap[w.heap.size]? =some o0∧W0.heap[w.heap.size+1]? =some o1∧W0.heap[w.heap.size+1+1]? =some o2∧W0.heap[w.heap.size+1+1+1]? =some o3:=by
 obtain⟨W1,hW1,hs1,hle1,k0,k1,k2⟩:=qBF w o0 o1 o2;rw[hW1];refine⟨_,rfl,by rw[World.size_alloc];omega,hle1.trans (qAB _ _),?_,?_,?_,?_⟩
 ·exact((qAB W1 o3).block _ (by omega)).trans k0
 ·exact((qAB W1 o3).block _ (by omega)).trans k1
 ·exact((qAB W1 o3).block _ (by omega)).trans k2
 ·have:w.heap.size+1+1+1=W1.heap.size:=by omega
  rw[this];unfold World.alloc;exact Array.getElem?_push_size
def qHR (v:Value):Prop:=∃s A n c B m d,v= .agg #[.bool s,.slice A n c,.slice B m d]
theorem RatL.qform {L:Nat→Prop} {k:IntKind} {w:World} {v:Value} {r:Rat} (h:RatL L k w v r):qHR v:=by
 obtain⟨A1,c1,A2,c2,rfl,-,-⟩:=h.form;exact⟨_,_,_,_,_,_,_,rfl⟩
noncomputable def okAF (x:FracA):Bool:=x.rat?.isSome
theorem RatL.box3 {L:Nat→Prop} {k:IntKind} {W:World} {v u0 u1 u2:Value} {b0:Bool} {A1 A2:Option Addr} {n1 c1 n2 c2 B:Nat} {r:Rat} {t:TypeId} (h:RatL L k W v r) (hk:W.heap[B]? =some (Obj.cells #[.bool b0,.slice A1 n1 c1,.slice A2 n2 c2] t)):
  RatL L k (((W.setCell ⟨B,0,none⟩ u0).setCell ⟨B,1,none⟩ u1).setCell ⟨B,2,none⟩ u2) v r:=by
 obtain⟨vn,vd,e,h1,h2⟩:=h;exact⟨vn,vd,e,h1.box3 hk,h2.box3 hk⟩
def IsRes (L:Nat→Prop) (w:World) (v:Value) (c:Int):Except Int Rat→Prop
 | .ok r=>FracL L w v r∧c=0
 | .error x=>v=qCz∧c=x
def qC1 (L:Nat→Prop) (res:Except Int Rat) (w:World) (e:Ending) (w':World):Prop:=Le w w'∧∃v c,e= .returned (.tuple #[v,.int .i64 c])∧IsRes L w' v c res
open Classical in
noncomputable def outR (r:Rat):Except Int Rat:=if Rsz r 40 then .ok r else .error 12
noncomputable def opR (f:Rat→Rat→Except Int Rat) (x y:FracA):Except Int Rat:=
 match x.rat?,y.rat? with
 | some a,some b=>f a b
 | _,_=> .error 10
noncomputable def divE (a b:Rat):Except Int Rat:=if b=0 then .error 11 else outR (a / b)
noncomputable def qEY (n d:Int):Except Int Rat:=if d=0 then .error 11 else outR ((n:Rat) / (d:Rat))
noncomputable def cmpV (x y:FracA):Int:=
 match x.rat?,y.rat? with
 | some a,some b=>rsgn (a - b)
 | _,_=>0
noncomputable def okE (b:Bool):Int:=if b then 0 else 10
theorem qEZ {f:Rat→Rat→Except Int Rat} {x y:FracA} {a b:Rat} (h1:x.rat?=some a) (h2:y.rat?=some b):opR f x y=f a b:=by unfold opR;rw[h1,h2]
theorem qMW {x y:FracA} {a b:Rat} (h1:x.rat?=some a) (h2:y.rat?=some b):cmpV x y=rsgn (a - b):=by unfold cmpV;rw[h1,h2]
theorem qMX {x y:FracA} (h:(okAF x&&okAF y)=false):cmpV x y=0:=by
 unfold cmpV;unfold okAF at h
 cases h1:x.rat? with
 | none=>rfl
 | some a=>
  cases h2:y.rat? with
  | none=>rfl
  | some b=>rw[h1,h2]at h;cases h
theorem qAj {r:Rat} (h:Rsz r 40):outR r= .ok r:=by unfold outR;rw[if_pos h]
theorem qGJ {r:Rat} (h:¬Rsz r 40):outR r= .error 12:=by unfold outR;rw[if_neg h]
def qOT (v:Value):Prop:=∃s A n c s' B m d,v= .agg #[.bool s,.slice A n c,.bool s',.slice B m d]
theorem IsRes.form {L:Nat→Prop} {w:World} {v:Value} {c:Int} {res:Except Int Rat} (h:IsRes L w v c res):qOT v:=by
 cases res with
 | ok r=>obtain⟨⟨A,c,B,d,rfl,-,-⟩,-⟩:=h;exact⟨_,_,_,_,_,_,_,_,rfl⟩
 | error x=>obtain⟨rfl,-⟩:=h;exact⟨_,_,_,_,_,_,_,_,rfl⟩
theorem FracL.box4 {L:Nat→Prop} {W:World} {v u0 u1 u2 u3:Value} {b0 b1:Bool} {A1 A2:Option Addr} {n1 c1 n2 c2 B:Nat} {r:Rat} {t:TypeId} (h:FracL L W v r) (hk:W.heap[B]? =some (Obj.cells #[.bool b0,.slice A1 n1 c1,.bool b1,.slice A2 n2 c2] t)):
  FracL L ((((W.setCell ⟨B,0,none⟩ u0).setCell ⟨B,1,none⟩ u1).setCell ⟨B,2,none⟩ u2).setCell ⟨B,3,none⟩ u3) v r:=by
 obtain⟨A,c,B',d,e,h1,h2⟩:=h;exact⟨A,c,B',d,e,h1.box4 hk,h2.box4 hk⟩
theorem IsRes.box4 {L:Nat→Prop} {W:World} {v u0 u1 u2 u3:Value} {b0 b1:Bool} {A1 A2:Option Addr} {n1 c1 n2 c2 B:Nat} {c:Int} {res:Except Int Rat} {t:TypeId} (h:IsRes L W v c res) (hk:W.heap[B]? =some (Obj.cells #[.bool b0,.slice A1 n1 c1,.bool b1,.slice A2 n2 c2] t)):
  IsRes L ((((W.setCell ⟨B,0,none⟩ u0).setCell ⟨B,1,none⟩ u1).setCell ⟨B,2,none⟩ u2).setCell ⟨B,3,none⟩ u3) v c res:=by
 cases res with
 | ok r=>exact⟨h.1.box4 hk,h.2⟩
 | error x=>exact h
theorem FracA.sz {x:FracA} {r:Rat} (h:x.rat?=some r):Rsz r 40:=(FracA.val h).sz
theorem Rsz.up {r:Rat} {m n:Nat} (h:Rsz r m) (hmn:m≤n):Rsz r n:=⟨Nat.le_trans h.1 hmn,Nat.le_trans h.2 hmn⟩
end Go.Proofs.YtenjpccpldajoaaGreatDoor
namespace Go.Proofs.YtenjpccpldajoaaGreatDoor
set_option maxRecDepth 100000
set_option maxHeartbeats 1000000
open Go.RowKit Go.Shelf
set_option linter.unusedVariables false
set_option linter.unusedSimpArgs false
noncomputable def qAE (r:Rat):FracA:=⟨rneg r,dg (rnum r),false,dg r.den⟩
theorem FracL.isA {L:Nat→Prop} {w:World} {v:Value} {r:Rat} (h:FracL L w v r):IsFracA L w v (qAE r):=by
 obtain⟨A,c,B,d,rfl,h1,h2⟩:=h;exact⟨A,c,B,d,rfl,h1.1,h2.1⟩
theorem qI0 {neg:Bool} {n:Nat} (h:(dg n).length ≤40) (hz:n=0→neg=false):isW neg (dg n)=true:=by
 unfold isW
 have hany:((dg n).any fun g=>decide (1000000000≤g))=false:=by
  rw[List.any_eq_false];intro x hx;have:=qAq n x hx;rw[qAO]at this
  simp;omega
 rw[hany,decide_eq_true h]
 by_cases h0:(dg n).length =0
 ·have hn:n=0:=by rw[←qAl n,List.eq_nil_of_length_eq_zero h0];rfl
  rw[if_pos h0,hz hn]
  rfl
 ·rw[if_neg h0];have:=qEj (n:=n) (by omega);rw[qBZ (by omega)]
  simp;omega
theorem qAQ {r:Rat} (h:Rsz r 40):(qAE r).rat? =some r:=by
 have h1:isW (rneg r) (dg (rnum r))=true:=qI0 h.1 qLI;have h2:isW false (dg r.den)=true:=qI0 h.2 fun _=>rfl
 have h3:(dg r.den).length ≠0:=fun h0=>by
  have:r.den=0:=by rw[←qAl r.den,List.eq_nil_of_length_eq_zero h0];rfl
  exact r.den_nz this
 unfold FracA.rat? FracA.ok qAE;simp only;rw[h1,h2,qAl,qAl];rw[if_pos ⟨by simp;omega,r.reduced⟩,qJG]
theorem qJW {r:Rat} (h:Rsz r 40):okAF (qAE r)=true:=by unfold okAF;rw[qAQ h];rfl
end Go.Proofs.YtenjpccpldajoaaGreatDoor

/- Roots, program side: derived. (The region between --@ARM and --@END is printed by gen_roots.py.) -/
import Derived.Test.YtenjpccpldajoaaGreatDoorPk30
namespace Go.Proofs.YtenjpccpldajoaaGreatDoor
set_option maxRecDepth 100000
set_option maxHeartbeats 1000000
open Go.RowKit Go.Shelf
set_option linter.unusedVariables false
set_option linter.unusedSimpArgs false
def derS (p:List Int):List Int:=(List.range (p.length - 1)).map fun j=>p.getD (j+1) 0*((j+1:Nat):Int)
def derI (p:List Int):List Int:=qA7 (derS p)
def derK (p:List Int) (k:Nat):List Int:=(List.range (k - 1)).map fun j=>p.getD (j+1) 0*((j+1:Nat):Int)
theorem qJl (p:List Int) (k:Nat):(derK p k).length =k - 1:=by unfold derK;rw[List.length_map,List.length_range]
theorem qMs (p:List Int) {k:Nat} (h:k≠0):derK p (k+1)=derK p k++[p.getD k 0*(k:Int)]:=by
 unfold derK;obtain⟨m,rfl⟩:∃m,k=m+1:=⟨k - 1,by omega⟩;rw[show m+1+1 - 1=m+1 by omega,show m+1 - 1=m by omega,List.range_succ,List.map_append]
 rfl
theorem qFS {k:Nat} (h:k<1000000000):(dg k).length ≤1:=qAb (by rw[Nat.pow_one,qAO];exact h)
def MPred.oneI (z:Int):MPred:=⟨fun v W=>∃B A n c,v= .slice (some ⟨B,0,none⟩) 1 1∧W.heap[B]? =some (.cells #[.bool (decide (z<0)),.slice A n c] 156)∧NumL (fun _=>True) .u32 W (.slice A n c) z.natAbs,
 fun _ _ _ hb ⟨B,A,n,c,e,k,h⟩=>⟨B,A,n,c,e,(hb.block B (gsl k)).trans k,h.le hb⟩⟩
theorem qLc {W4:World} {s2:Bool} {A2:Option Addr} {n2 c2:Nat} {t:TypeId} {x:Nat} (k4:W4.heap[x]? =some (.cells #[.bool s2,.slice A2 n2 c2] t)):∀(i:Nat) (u:Value),([.bool s2,.slice A2 n2 c2]:List Value)[i]? =some u→W4.cell? ⟨x,i,none⟩=some u:=fun i u hu=>by
 have hi4:i<2:=(List.getElem?_eq_some_iff.1 hu).1
 match i,hi4 with
 | 0,_=>have z:=cell_of_row W4 x 0 _ _ _ k4;rw[z];simpa using hu
 | 1,_=>have z:=cell_of_row W4 x 1 _ _ _ k4;rw[z];simpa using hu
theorem qHa (base M:Nat) (v:Value) (p:List Int) (w:World) (hv:RowE intK 156 base w v p) (hl:p.length≤1000) (hs:∀x∈p,Isz x M) (hM:M≤9000000):
  Calls Tryz.prog 132 #[v] w fun e w'=>∃v',e= .returned v'∧Le w w'∧RowE intK 156 w.heap.size w' v' (derI p):=by
 have hinfo:(Tryz.prog.info? 156).map (fun i=>(i.zero,i.size,i.bytes))=some (some (.agg #[.bool false,.slice none 0 0]),2,32):=by kernel_rfl
 obtain⟨A,c,rfl⟩:=hv.slice;obtain⟨n,hn⟩:∃n,p.length=n:=⟨_,rfl⟩;rw[hn]at hl hv ⊢;have⟨hv',hn',hs',hinfo'⟩:=hyd4 hv hn hs hinfo;clear hinfo hs hn hv;go_enter Tryz.func132,Tryz.ntmps132;go_wp2_with (fail);go_loopw [3,8] (fun s i wr=>∃k:Nat,i= .int .i64 (k:Int)∧k≤n∧Hid (Below w.heap.size w wr)∧Hid (RowE intK 156 w.heap.size wr s (derK p k))) (fun _ i _=>n - (intOf i).toNat)
 case atStart=>exact⟨0,rfl,Nat.zero_le _,Lib.hid (Below.refl _ _),Lib.hid (RowE.nil _ _ _ _)⟩
 case round=>
  obtain⟨k,rfl,hk,hb,hrow⟩:=hrel
  by_cases hlt:k<n
  ·have hkx:k<p.length:=by rw[hn'.out];exact hlt
   obtain⟨g,c',e1,-,hgl,-,-,cs,hrd,hc⟩:=(hv'.out.le hb.out).at hkx;rw[hn'.out]at e1;injection e1 with e1 e2 e3;subst e1 e3;clear e2;have hpk:p.getD k 0=p[k]:=by rw[List.getD_eq_getElem?_getD,List.getElem?_eq_getElem hkx];rfl
   have hsz:=(hs'.out _ (List.getElem_mem hkx)).up (show M≤100000000 by omega);generalize p[k]=z at hrd hpk hsz;obtain⟨A5,n5,c5,rfl,hzn⟩:=hrd;obtain⟨s5,hs5⟩:∃s,decide (z<0)=s:=⟨_,rfl⟩;have hzv:IntL wr (.agg #[.bool s5,.slice A5 n5 c5]) z:=⟨A5,n5,c5,by rw[hs5],hzn⟩;rw[hs5]at hc;have x0:wr.cell? ⟨g,k*2,none⟩=some (.bool s5):=hc 0 _ rfl;have x1:wr.cell? ⟨g,k*2+1,none⟩=some (.slice A5 n5 c5):=hc 1 _ rfl;obtain⟨W4,hW4,hb4,k4⟩:=enew wr (.cells #[.bool s5,.slice A5 n5 c5] 156);obtain⟨bx,hbx⟩:∃b,wr.heap.size=b:=⟨_,rfl⟩;rw[hbx]at k4;have hbx4:=gsl k4;have hb04:Below w.heap.size w W4:=hb.out.trans (hb4.mono hb.out.size);have hrow4:=hrow.out.le hb4;have hzv4:=hzv.le hb4;have j1:(k:Int)<(n:Int):=by omega
   have j2:(0:Int)≤(k:Int):=by omega
   by_cases h0:k=0
   ·subst h0;have e9:derK p (0+1)=derK p 0:=rfl;rw[←e9]at hrow4;have⟨hb',hrow',hpk',hsz',hzn',hzv',hb4',k4'⟩:=hyd8 hb hrow hpk hsz hzn hzv hb4 k4;have⟨hb04',hrow4',hzv4',hc',hs5'⟩:=hyd5 hb04 hrow4 hzv4 hc hs5;clear hs5 hc hzv4 hrow4 hb04 k4 hb4 hzv hzn hsz hpk hrow hb;go_wp2;clear hW4;go_roundw
    case rel=>exact⟨1,by go_num,by omega,hb04',hrow4'⟩
    case measure=>simp[intOf];omega
   ·have hlk:=qJl p k;have hnx:=qMs p h0;rw[hpk]at hnx;obtain⟨m,hm⟩:∃m,k - 1=m:=⟨_,rfl⟩;rw[hm]at hlk;have hm9:m≤1000:=by omega
    obtain⟨SA,sc,hsl⟩:=hrow4.slice;have j3:(0:Int)<(k:Int):=by omega
    have j4:0<k:=by omega
    have hsk:Isz (k:Int) 100000000:=by unfold Isz;rw[Int.natAbs_natCast];exact Nat.le_trans (qFS (by omega)) (by decide)
    have hk64:IntKind.u64.wrap (k:Int)=(k:Int):=IntWalk.u64_in _ (by omega);rw[hlk]at hsl;subst hsl;have y0:W4.cell? ⟨bx,0,none⟩=some (.bool s5):=cell_of_row W4 bx 0 _ _ _ k4;have y1:W4.cell? ⟨bx,1,none⟩=some (.slice A5 n5 c5):=cell_of_row W4 bx 1 _ _ _ k4;have hzv:=hzv4;have hb4:=hb04;have⟨hb',hrow',hpk',hsz',hzn',hzv',hb4',k4'⟩:=hyd8 hb hrow hpk hsz hzn hzv hb4 k4;have⟨hb04',hrow4',hzv4',hc',hs5',hlk',hnx',hsk'⟩:=hyd8 hb04 hrow4 hzv4 hc hs5 hlk hnx hsk;have⟨hk64',y0',y1',hm'⟩:=hyd4 hk64 y0 y1 hm;clear hm y1 y0 hk64 hsk hnx hlk hs5 hc hzv4 hrow4 hb04 k4 hb4 hzv hzn hsz hpk hrow hb;clear hb04' hzv4';go_wp2_with (fail);clear hW4;refine qHM (R:=leRel) 8 [some 15,some 16,some 17,some 18,some 19,some 20,some 21,some 22,some 23,some 3] [[],[],[],[2],[3],[4],[1,5],[6],[0,7],[8]]
     [.eq (.slice SA m sc),.eq (.agg #[.bool s5,.slice A5 n5 c5]),.eq (.int .i64 (k:Int)),.eq (.int .u64 (k:Int)),MPred.num (fun _=>True) .u32 k,MPred.bn false k,MPred.intP (z*(k:Int)),MPred.oneI (z*(k:Int))] (fun _ _=>False) (by kernel_rfl) (by kernel_rfl) (by kernel_rfl) (by kernel_rfl) (by kernel_rfl) ?_ (fun _ _ _ _ h=>h.elim) ?_
    ·simp only[List.take_succ_cons,List.take_zero];refine sMc rfl ?_ (sMc rfl ?_ (sMc rfl ?_ (sMc rfl ?_ (sMc rfl ?_ (sMc rfl ?_ (sMc rfl ?_ (sMc rfl ?_ (qAR))))))))
     ·intro xv W hR hf Q hK hP;simp only[fA]at hK ⊢;go_wp2;exact hK _ _ lrR rfl
     ·intro xv W hR hf Q hK hP;have t0:=(Below.cell hR (p:=⟨bx,0,none⟩) hbx4).trans y0'.out;have t1:=(Below.cell hR (p:=⟨bx,1,none⟩) hbx4).trans y1'.out;simp only[fA]at hK ⊢;go_wp2;exact hK _ _ lrR rfl
     ·intro xv W hR hf Q hK hP;simp only[fA]at hK ⊢;go_wp2;exact hK _ _ lrR rfl
     ·intro xv W hR hf Q hK hP;obtain⟨e0,-⟩:=hf;change _=_ at e0;have jj:=hk64'.out;simp only[fA,e0]at hK ⊢;go_wp2;exact hK _ _ lrR (by show Value.int _ _=Value.int _ _;congr 1)
     ·intro xv W hR hf Q hK hP;obtain⟨e0,-⟩:=hf;change _=_ at e0;simp only[fA,e0]at hK ⊢;have kc:=qBw k W (by omega);have kc':=hyd1 kc;clear kc;go_wp2_with (fail);go_at_call 68;refine kc'.out.mono ?_;rintro e w' ⟨v',rfl,y1,y2⟩;have y3:NumL (fun _=>True) .u32 w' v' k:=ArrL.of_own y2 (fun _ _=>trivial);have⟨y1',y2',y3'⟩:=hyd3 y1 y2 y3;clear y3 y2 y1;go_wp2;exact hK _ _ y1'.out y3'.out
     ·intro xv W hR hf Q hK hP;obtain⟨e0,-⟩:=hf;replace e0:NumL (fun _=>True) .u32 W (xv 4) k:=e0;have e9:=e0;obtain⟨A9,c9,q9⟩:=e0.slice;rw[q9]at e9;simp only[fA,q9]at hK ⊢;have e9':=hyd1 e9;clear e9;go_wp2;exact hK _ _ lrR ⟨_,_,_,rfl,e9'.out⟩
     ·intro xv W hR hf Q hK hP;obtain⟨e0,e1,-⟩:=hf;change _=_ at e0;replace e1:∃A m c,(xv 5)= .agg #[.bool false,.slice A m c]∧NumL (fun _=>True) .u32 W (.slice A m c) k:=e1;obtain⟨A9,m9,c9,q9,h9⟩:=e1;simp only[fA,e0,q9]at hK ⊢;have h8:IntL W (.agg #[.bool false,.slice A9 m9 c9]) (k:Int):=⟨A9,m9,c9,by rw[decide_eq_false (by omega)],by rw[Int.natAbs_natCast];exact h9⟩;have kc:=qDK z (k:Int) _ _ W (hzv'.out.le hR) h8 hsz'.out hsk'.out;have kc':=hyd1 kc;clear kc;go_wp2_with (fail);go_at_call 143;refine kc'.out.mono ?_;rintro e w' ⟨v',rfl,y1,y2⟩;have⟨y1',y2'⟩:=hyd2 y1 y2;clear y2 y1;go_wp2;exact hK _ _ y1'.out y2'.out
     ·intro xv W hR hf Q hK hP;obtain⟨e0,-⟩:=hf;replace e0:IntL W (xv 6) (z*(k:Int)):=e0;obtain⟨A9,m9,c9,q9,h9⟩:=e0;simp only[fA,q9]at hK ⊢;obtain⟨V4,hV4,hb4,k4⟩:=enew W (.cells #[.bool (decide (z*(k:Int)<0)),.slice A9 m9 c9] 156);have⟨h9',hb4',k4'⟩:=hyd3 h9 hb4 k4;clear k4 hb4 h9;go_wp2;exact hK _ _ hb4'.out ⟨_,_,_,_,rfl,k4'.out,h9'.out.le hb4'.out⟩
    intro xv W hR hf Q' hQ1 _;obtain⟨B9,A3,n3,c3,qv,kq,f7⟩:∃B A n c,xv 7= .slice (some ⟨B,0,none⟩) 1 1∧W.heap[B]? =some (.cells #[.bool (decide (z*(k:Int)<0)),.slice A n c] 156)∧NumL (fun _=>True) .u32 W (.slice A n c) (z*(k:Int)).natAbs :=hf 7 (by decide);have e0:=hf 0 (by decide);change _=_ at e0;simp only[List.drop_succ_cons,List.drop_zero];rw[show List.range 8=[0,1,2,3,4,5,6,7]from rfl];simp only[fA,qv,e0];clear hf;clear qv e0;have hbW:Below w.heap.size w W:=hb4'.out.trans (hR.mono hb4'.out.size);have hrowW:=hrow4'.out.le hR;have hz3:=hbW.size;have hnew:=qLc kq;have⟨hbW',hrowW',hnew',kq',f7',hR'⟩:=hyd6 hbW hrowW hnew kq f7 hR;clear hR f7 kq hnew hrowW hbW;refine RowE.append hrowW'.out rfl _ _ 132 rfl 32 (.agg #[.bool false,.slice none 0 0]) (by decide) Tryz.underlying132 hinfo'.out rfl qLX rfl B9 rfl (cs:=[.bool (decide (z*(k:Int)<0)),.slice A3 n3 c3]) ⟨_,_,_,rfl,f7'.out⟩ hnew'.out (by rw[hlk'.out];omega) hz3 ?_;intro v7 W7 q1 q2 q3 q4 q5;have r3:Below w.heap.size w W7:=(show Below w.heap.size w W from hbW'.out).trans q2;rw[←hnx'.out]at q1;have⟨q1',q2',q3',q4',q5',r3'⟩:=hyd6 q1 q2 q3 q4 q5 r3;clear r3 q5 q4 q3 q2 q1;go_wp2;refine hQ1 _ _ ?_;clear hQ1;go_wp2;go_roundw
    case rel=>exact⟨k+1,by go_num,by omega,r3',q1'⟩
    case measure=>simp[intOf];omega
  ·obtain rfl:k=n:=by omega
   have j1:¬(k:Int)<(k:Int):=by omega
   have hd:derI p=qA7 (derK p k):=by unfold derI derS derK;rw[hn'.out]
   have hsd:∀x∈derK p k,Isz x 10000000:=by
    intro x hx;unfold derK at hx;rw[List.mem_map]at hx;obtain⟨j,hj,rfl⟩:=hx;rw[List.mem_range]at hj;have h1:Isz (p.getD (j+1) 0) M:=qDg hs'.out (j+1);have h2:Isz ((j+1:Nat):Int) 1:=by unfold Isz;rw[Int.natAbs_natCast];exact qFS (by omega)
    exact(qBn h1 h2).up (by omega)
   have hlk:=qJl p k;have kp:=qE3 w.heap.size _ (derK p k) wr hrow.out (by omega) hsd;rw[←hd]at kp;have hb9:=hb.out;have⟨hb',hrow',hd',hsd',kp',hlk',hb9'⟩:=hyd7 hb hrow hd hsd kp hlk hb9;clear hb9 hlk kp hsd hd hrow hb;go_wp2_with (fail);go_at_call 139;refine kp'.out.mono ?_;rintro e W5 ⟨v5,rfl,hle5,hr5⟩;have hw5:Le w W5:=(show Below w.heap.size w wr from hb9'.out).trans (hle5.mono hb9'.out.size);have hr6:=hr5.base (base':=w.heap.size) hb9'.out.size;have⟨hle5',hr5',hw5',hr6'⟩:=hyd4 hle5 hr5 hw5 hr6;clear hr6 hw5 hr5 hle5;go_wp2;go_ret;exact⟨_,rfl,hw5'.out,hr6'.out⟩
end Go.Proofs.YtenjpccpldajoaaGreatDoor

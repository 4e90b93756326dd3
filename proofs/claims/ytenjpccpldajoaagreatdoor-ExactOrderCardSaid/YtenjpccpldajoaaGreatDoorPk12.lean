/- exact: fractions: opposite, minus, number. exact: fractions: number. exact: whole numbers that are arguments: isWhole. slices.IndexFunc, slices.ContainsFunc .. -/
import Derived.Test.YtenjpccpldajoaaGreatDoorPk11
import Derived.Defers
import Derived.Recover
namespace Go.Proofs.YtenjpccpldajoaaGreatDoor
set_option maxRecDepth 100000
set_option maxHeartbeats 2000000
open Go.RowKit Go.Shelf
set_option linter.unusedVariables false
set_option linter.unusedSimpArgs false
theorem qFh (L:Nat→Prop) (r:Rat) (v:Value) (w:World) (h:RatL L .u32 w v r):
  Calls Tryz.prog 118 #[v] w fun e w'=>∃v',e= .returned v'∧Le w w'∧RatL L .u32 w' v' (-r):=by
 obtain⟨A1,c1,A2,c2,rfl,h1,h2⟩:=h.form;obtain⟨n1,n2,n3⟩:=qHu r;obtain⟨sr,hsr⟩:∃sr,rneg r=sr:=⟨_,rfl⟩;rw[hsr]at n1 ⊢;obtain⟨l1,hl1⟩:∃l1,(dg (rnum r)).length =l1:=⟨_,rfl⟩;obtain⟨l2,hl2⟩:∃l2,(dg r.den).length =l2:=⟨_,rfl⟩;have hz:decide (0<rnum r)=decide (0<l1):=by rw[←hl1];exact decide_eq_decide.2 (show 0<rnum r↔0<(dg (rnum r)).length by rw[dg_length_pos];omega)
 rw[hz]at n1;rw[hl1]at h1;rw[hl2]at h2;rw[hl1,hl2]
 have hR:∀s o0 o1,rneg (-r)=s→(∃v',Ending.returned (.agg #[.bool s,.slice A1 l1 c1,.slice A2 l2 c2])= .returned v'∧Le w ((w.alloc o0).alloc o1)∧RatL L .u32 ((w.alloc o0).alloc o1) v' (-r)):=fun s o0 o1 hs=>by
  have hw:=(qAB w o0).trans (qAB _ o1);exact⟨_,rfl,hw,_,_,by rw[hs],by rw[n2];exact h1.le hw,by rw[n3];exact h2.le hw⟩
 have⟨h',h1',h2',hR',hsr',n1',n2',n3'⟩:=hyd8 h h1 h2 hR hsr n1 n2 n3;have⟨hl1',hl2',hz'⟩:=hyd3 hl1 hl2 hz;clear hz hl2 hl1 n3 n2 n1 hsr hR h2 h1 h
 by_cases h0:0<l1
 ·have h4:0<(l1:Int):=by omega
  cases sr
  ·go_enter Tryz.func118,Tryz.ntmps118;go_wp2;exact bodyPost_ret (v:= .agg #[.bool true,.slice A1 l1 c1,.slice A2 l2 c2]) (by simp[results,Tryz.results118,go_sem]) rfl (hR'.out _ _ _ (by rw[n1'.out];simp;omega))
  ·go_enter Tryz.func118,Tryz.ntmps118;go_wp2;exact bodyPost_ret (v:= .agg #[.bool false,.slice A1 l1 c1,.slice A2 l2 c2]) (by simp[results,Tryz.results118,go_sem]) rfl (hR'.out _ _ _ (by rw[n1'.out];simp))
 ·have h4:¬0<(l1:Int):=by omega
  cases sr
  ·go_enter Tryz.func118,Tryz.ntmps118;go_wp2;exact bodyPost_ret (v:= .agg #[.bool false,.slice A1 l1 c1,.slice A2 l2 c2]) (by simp[results,Tryz.results118,go_sem]) rfl (hR'.out _ _ _ (by rw[n1'.out];simp;omega))
  ·go_enter Tryz.func118,Tryz.ntmps118;go_wp2;exact bodyPost_ret (v:= .agg #[.bool false,.slice A1 l1 c1,.slice A2 l2 c2]) (by simp[results,Tryz.results118,go_sem]) rfl (hR'.out _ _ _ (by rw[n1'.out];simp))
theorem qDw (L:Nat→Prop) (a b:Rat) (va vb:Value) (w:World) (hL:Up w L) (ha:RatL L .u32 w va a) (hb:RatL L .u32 w vb b) (hma:Rsz a 2000000) (hmb:Rsz b 2000000):
  Calls Tryz.prog 57 #[va,vb] w fun e w'=>∃v',e= .returned v'∧Le w w'∧RatL L .u32 w' v' (a - b):=by
 have ha0:=ha;have hb0:=hb;have hmn:Rsz (-b) 2000000:=by obtain⟨q1,q2,q3⟩:=qHu b;unfold Rsz;rw[q2,q3];exact hmb
 have hsub:a+ -b=a - b:=(Rat.sub_eq_add_neg a b).symm;obtain⟨An,cn,Ad,cd,rfl,han,had⟩:=ha.form;obtain⟨Bn,dn,Bd,dd,rfl,hbn,hbd⟩:=hb.form;obtain⟨sa,hsa⟩:∃sa,rneg a=sa:=⟨_,rfl⟩;obtain⟨sb,hsb⟩:∃sb,rneg b=sb:=⟨_,rfl⟩;rw[hsa]at ha0;rw[hsb]at hb0;rw[hsa,hsb];have⟨hL',ha',hb',han',had',hbn',hbd',hsa'⟩:=hyd8 hL ha hb han had hbn hbd hsa;have⟨hsb',hma',hmb',hmn',hsub',ha0',hb0'⟩:=hyd7 hsb hma hmb hmn hsub ha0 hb0;clear hb0 ha0 hsub hmn hmb hma hsb hsa hbd hbn had han hb ha hL;go_enter Tryz.func57,Tryz.ntmps57;go_wp2;obtain⟨W0,hW0,hsz,hle,h0,h1,h2⟩:=qBF w (.cells #[.bool sa,.slice An (dg (rnum a)).length cn,.slice Ad (dg a.den).length cd] 70) (.cells #[.bool sb,.slice Bn (dg (rnum b)).length dn,.slice Bd (dg b.den).length dd] 70) (.cells #[.bool false,.slice none 0 0,.slice none 0 0] 70);rw[hW0];clear hW0;obtain⟨ca0,ca1,ca2,-⟩:=qAD h0;obtain⟨cb0,cb1,cb2,-⟩:=qAD h1;have hUp0:=hL'.out.le hle;have ha1:=ha0'.out.le hle;have hb1:=hb0'.out.le hle;have⟨h0',h1',h2',hle',hUp0',ha1',hb1'⟩:=hyd7 h0 h1 h2 hle hUp0 ha1 hb1;clear hb1 ha1 hUp0 hle h2 h1 h0;refine qAP (R:=leRel) 4 [some 5,some 6,some 7,some 8,none] [[],[],[1],[0,2],[3]]
  [.eq (.agg #[.bool sa,.slice An (dg (rnum a)).length cn,.slice Ad (dg a.den).length cd]),.eq (.agg #[.bool sb,.slice Bn (dg (rnum b)).length dn,.slice Bd (dg b.den).length dd]),MPred.rat L .u32 (-b),MPred.rat L .u32 (a - b)] (fun _ _=>False) (by kernel_rfl) (by kernel_rfl) (by kernel_rfl) (by kernel_rfl) ?_ (fun _ _ _ _ _ h=>h.elim) ?_
 ·simp only[List.take_succ_cons,List.take_zero];refine mSc ?_ (mSc ?_ (mSc ?_ (mSc ?_ (qAS))))
  ·refine mSl rfl fun x W hR hf Q hK _=>?_;have cc0:=bcl hR (by omega) ca0;have cc1:=bcl hR (by omega) ca1;have cc2:=bcl hR (by omega) ca2;simp only[fA]at hK ⊢;go_wp2;exact hK _ _ lrR rfl
  ·refine mSl rfl fun x W hR hf Q hK _=>?_;have cc0:=bcl hR (by omega) cb0;have cc1:=bcl hR (by omega) cb1;have cc2:=bcl hR (by omega) cb2;simp only[fA]at hK ⊢;go_wp2;exact hK _ _ lrR rfl
  ·refine mSl rfl fun x W hR hf Q hK _=>?_;obtain⟨e0,-⟩:=hf;change _=_ at e0;simp only[fA,e0]at hK ⊢;go_wp2_with (fail);go_at_call 118;refine(qFh L b _ W (hb1'.out.le hR)).mono ?_;rintro e w' ⟨v',rfl,y1,y2⟩;obtain⟨A1,c1,A2,c2,rfl,-,-⟩:=y2.form;go_wp2;exact hK _ _ y1 y2
  ·refine mSl rfl fun x W hR hf Q hK _=>?_;obtain⟨e0,e1,-⟩:=hf;change _=_ at e0;replace e1:RatL L .u32 W (x 2) (-b):=e1;simp only[fA,e0]at hK ⊢;go_wp2_with (fail);go_at_call 55;refine(qBy L a (-b) _ _ W (hUp0'.out.le hR) (ha1'.out.le hR) e1 hma'.out hmn'.out).mono ?_;rintro e w' ⟨v',rfl,y1,y2⟩;rw[hsub'.out]at y2;obtain⟨A1,c1,A2,c2,rfl,-,-⟩:=y2.form;go_wp2;exact hK _ _ y1 y2
 ·intro x W hR hf Q' hQ1 _;have e0:=hf 0 (by decide);have e1:=hf 1 (by decide);have e15:RatL L .u32 W (x 3) (a - b):=hf 3 (by decide);change _=_ at e0 e1;obtain⟨A1,c1,A2,c2,e16,y3,y4⟩:=e15.form;have h2W:=(Below.block hR (w.heap.size+1+1) (by omega)).trans h2'.out;obtain⟨z0,z1,z2,g0,g1,g2⟩:=qAD h2W;simp only[List.drop_succ_cons,List.drop_zero];rw[show List.range 4=[0,1,2,3]from rfl];simp only[fA,e0,e1,e16];generalize x 2=x2;clear e0 e1 hf;have hle9:=fun u0 u1 u2=>qAg (u0:=u0) (u1:=u1) (u2:=u2) (Le.trans hle'.out hR) (show w.heap.size≤w.heap.size+1+1 by omega);have hb9:=fun u0 u1 u2=>qAD (qA0 (u0:=u0) (u1:=u1) (u2:=u2) h2W);have hfin:=fun u0 u1 u2=>And.intro (NumL.box3 (u0:=u0) (u1:=u1) (u2:=u2) y3 h2W) (NumL.box3 (u0:=u0) (u1:=u1) (u2:=u2) y4 h2W);obtain⟨sr,hsr⟩:∃sr,rneg (a - b)=sr:=⟨_,rfl⟩;rw[hsr];have⟨hle9',hb9',hfin',h2W',y3',y4',e16',e15'⟩:=hyd8 hle9 hb9 hfin h2W y3 y4 e16 e15;have⟨hR',hsr'⟩:=hyd2 hR hsr;clear hsr hR e15 e16 y4 y3 h2W hfin hb9 hle9;go_wp2;refine hQ1 _ _ ?_;go_wp2;obtain⟨d0,d1,d2,-⟩:=hb9'.out (.bool sr) (.slice A1 (dg (rnum (a - b))).length c1) (.slice A2 (dg (a - b).den).length c2);refine bodyPost_ret (v:= .agg #[.bool sr,.slice A1 (dg (rnum (a - b))).length c1,.slice A2 (dg (a - b).den).length c2]) (by simp[results,Tryz.results57,go_sem,d0,d1,d2]) rfl ⟨_,rfl,hle9'.out _ _ _,?_⟩;exact⟨_,_,by rw[hsr'.out],(hfin'.out _ _ _).1,(hfin'.out _ _ _).2⟩
theorem qO7 (z:Int) (h:¬z<0) (hl:z≤9223372036854775807):IntKind.u64.wrap z=(z.natAbs:Int):=by
 have h64:(2:Int)^IntKind.u64.bits=18446744073709551616:=by decide
 have hs:IntKind.u64.signed=false:=rfl;unfold IntKind.wrap;simp only[h64,hs]
 simp;omega
theorem qO8 (z:Int) (h:z<0) (hl: -9223372036854775808≤z):IntKind.u64.wrap z=z+18446744073709551616∧IntKind.u64.wrap (-(z+18446744073709551616))=(z.natAbs:Int):=by
 have h64:(2:Int)^IntKind.u64.bits=18446744073709551616:=by decide
 have hs:IntKind.u64.signed=false:=rfl;unfold IntKind.wrap;simp only[h64,hs];constructor
 ·simp;omega
 ·simp;omega
theorem qKN {L:Nat→Prop} {V:World} (hL:∀b,V.heap.size≤b→L b) (t:TypeId):NumL L .u32 (V.alloc (.cells #[.int .u32 1] t)) (.slice (some ⟨V.heap.size,0,none⟩) 1 1) 1:=by
 unfold NumL;rw[qCV];refine⟨some ⟨V.heap.size,0,none⟩,1,rfl,Nat.le_refl _,by unfold maxLen;omega,nofun,fun _=>⟨V.heap.size,0,rfl,hL _ (Nat.le_refl _),by unfold World.alloc;show V.heap.size<(V.heap.push _).size;rw[Array.size_push];omega,fun j hj=>?_⟩⟩;have h0:j=0:=by simpa using hj
 subst h0;exact cell_of_row _ _ _ #[.int .u32 1] t (0,0) (by unfold World.alloc;exact Array.getElem?_push_size)
theorem qHQ {L:Nat→Prop} {w W:World} {z:Int} {N:Nat} {s:Bool} {t t2:TypeId} {A1:Option Addr} {c1:Nat} (hUp:Up w L) (hle:Le w W) (hlt:w.heap.size<W.heap.size)
  (hbx:W.heap[w.heap.size]? =some (.cells #[.bool false,.slice none 0 0,.slice none 0 0] t)) (hn:NumL L .u32 W (.slice A1 (dg N).length c1) N) (hN:z.natAbs=N) (hs:decide (z<0)=s):
  ∃X,(((W.setCell ⟨w.heap.size,0,none⟩ (.bool s)).setCell ⟨w.heap.size,1,none⟩ (.slice A1 (dg N).length c1)).setCell ⟨w.heap.size,2,none⟩ (.slice (some ⟨W.heap.size,0,none⟩) 1 1)).alloc (.cells #[.int .u32 1] t2)=X∧(X.cell? ⟨w.heap.size,0,none⟩=some (.bool s)∧X.cell? ⟨w.heap.size,1,none⟩=some (.slice A1 (dg N).length c1)∧X.cell? ⟨w.heap.size,2,none⟩=some (.slice (some ⟨W.heap.size,0,none⟩) 1 1))∧
   Le w X∧RatL L .u32 X (.agg #[.bool s,.slice A1 (dg N).length c1,.slice (some ⟨W.heap.size,0,none⟩) 1 1]) (z:Rat):=by
 have h1:=qAg (u0:= .bool s) (u1:= .slice A1 (dg N).length c1) (u2:= .slice (some ⟨W.heap.size,0,none⟩) 1 1) hle (Nat.le_refl _);have h2:=qA0 (u0:= .bool s) (u1:= .slice A1 (dg N).length c1) (u2:= .slice (some ⟨W.heap.size,0,none⟩) 1 1) hbx;have h3:=NumL.box3 (u0:= .bool s) (u1:= .slice A1 (dg N).length c1) (u2:= .slice (some ⟨W.heap.size,0,none⟩) 1 1) hn hbx;have h4:(((W.setCell ⟨w.heap.size,0,none⟩ (.bool s)).setCell ⟨w.heap.size,1,none⟩ (.slice A1 (dg N).length c1)).setCell ⟨w.heap.size,2,none⟩ (.slice (some ⟨W.heap.size,0,none⟩) 1 1)).heap.size =W.heap.size:=by simp[World.setCell]
 generalize (((W.setCell ⟨w.heap.size,0,none⟩ (.bool s)).setCell ⟨w.heap.size,1,none⟩ (.slice A1 (dg N).length c1)).setCell ⟨w.heap.size,2,none⟩ (.slice (some ⟨W.heap.size,0,none⟩) 1 1))=V at*;refine⟨_,rfl,?_,h1.trans (qAB _ _),?_⟩
 ·have hk:=qAB V (.cells #[.int .u32 1] t2);obtain⟨d0,d1,d2,-⟩:=qAD ((Below.block hk w.heap.size (by omega)).trans h2);exact⟨d0,d1,d2⟩
 ·refine⟨_,_,by rw[show rneg (z:Rat)=s by rw[←hs];rfl],?_,?_⟩
  ·rw[show rnum (z:Rat)=N by rw[←hN];rfl];exact h3.le (qAB _ _)
  ·rw[show(z:Rat).den =1 from rfl,←h4];exact qKN (fun b hb=>hUp b (by omega)) _
theorem qDx (L:Nat→Prop) (z:Int) (w:World) (hL:Up w L) (hz0: -9223372036854775808≤z) (hz1:z≤9223372036854775807):
  Calls Tryz.prog 63 #[.int .i64 z] w fun e w'=>∃v',e= .returned v'∧Le w w'∧RatL L .u32 w' v' (z:Rat):=by
 obtain⟨N,hN⟩:∃N,z.natAbs=N:=⟨_,rfl⟩;have hNl:(N:Int)≤18446744073709551615:=by omega
 by_cases hz:z<0
 ·obtain⟨w1,w2⟩:=qO8 z hz hz0;rw[hN]at w2;have hs:=decide_eq_true hz;have⟨hL',hN',hs'⟩:=hyd3 hL hN hs;clear hs hN hL;go_enter Tryz.func63,Tryz.ntmps63;go_wp2_with (fail);go_at_call 68;refine(qBw N _ hNl).mono ?_;rintro e W ⟨v',rfl,hB,hown⟩;have hn2:NumL L .u32 W v' N:=ArrL.of_own hown (hL'.out.le (qAB _ _));obtain⟨A1,c1,rfl⟩:=hn2.slice;obtain⟨hle1,hbx⟩:=qBh hB;obtain⟨z0,z1,z2,g0,g1,g2⟩:=qAD hbx;have hlt:=(gsl hbx);have⟨hB',hown',hn2',hle1',hbx'⟩:=hyd5 hB hown hn2 hle1 hbx;clear hbx hle1 hn2 hown hB;go_wp2;obtain⟨X,hX,⟨d0,d1,d2⟩,hle9,hfin⟩:=qHQ (s:=true) (t2:=92) hL'.out hle1'.out hlt hbx'.out hn2'.out hN'.out hs'.out;rw[hX];exact bodyPost_ret (v:= .agg #[.bool true,.slice A1 (dg N).length c1,.slice (some ⟨W.heap.size,0,none⟩) 1 1]) (by simp[results,Tryz.results63,go_sem,d0,d1,d2]) rfl ⟨_,rfl,hle9,hfin⟩
 ·have w1:=qO7 z hz hz1;rw[hN]at w1;have hs:=decide_eq_false hz;have⟨hL',hN',hs'⟩:=hyd3 hL hN hs;clear hs hN hL;go_enter Tryz.func63,Tryz.ntmps63;go_wp2_with (fail);go_at_call 68;refine(qBw N _ hNl).mono ?_;rintro e W ⟨v',rfl,hB,hown⟩;have hn2:NumL L .u32 W v' N:=ArrL.of_own hown (hL'.out.le (qAB _ _));obtain⟨A1,c1,rfl⟩:=hn2.slice;obtain⟨hle1,hbx⟩:=qBh hB;obtain⟨z0,z1,z2,g0,g1,g2⟩:=qAD hbx;have hlt:=(gsl hbx);have⟨hB',hown',hn2',hle1',hbx'⟩:=hyd5 hB hown hn2 hle1 hbx;clear hbx hle1 hn2 hown hB;go_wp2;obtain⟨X,hX,⟨d0,d1,d2⟩,hle9,hfin⟩:=qHQ (s:=false) (t2:=92) hL'.out hle1'.out hlt hbx'.out hn2'.out hN'.out hs'.out;rw[hX];exact bodyPost_ret (v:= .agg #[.bool false,.slice A1 (dg N).length c1,.slice (some ⟨W.heap.size,0,none⟩) 1 1]) (by simp[results,Tryz.results63,go_sem,d0,d1,d2]) rfl ⟨_,rfl,hle9,hfin⟩
theorem qHy (L:Nat→Prop) (p:Nat→Bool) (g:FuncId) (cap:Array Value) (v:Value) (zs:List Nat) (w:World) (hv:ArrL L (gv .u32) w v zs)
  (hg:qAF Tryz.prog g)
  (hf:∀x,x∈zs→Calls Tryz.prog g (#[gv .u32 x]++cap) w (fun e w2=>e= .returned (.bool (p x))∧w=w2)):
  Calls Tryz.prog 167 #[v,.func (.func g) #[] cap] w fun e w'=>e= .returned (.int .i64 (idx p zs))∧w=w':=by
 obtain⟨A,c,rfl,hlc,hcm,_,hr⟩:=hv;unfold qAF at hg;unfold maxLen at hcm;go_enter Tryz.func167,Tryz.ntmps167;go_wp2
 go_loop [8,4] (fun i r=>∃k:Nat,k≤zs.length∧i= .int .i64 k∧r= .int .i64 0∧∀j (h:j<zs.length),j<k→p zs[j]=false) (fun i _=>zs.length - (intOf i).toNat)
 case atStart=>exact⟨0,Nat.zero_le _,rfl,rfl,fun j _ h=>absurd h (by omega)⟩
 case round=>
  obtain⟨k,hk,rfl,rfl,hp⟩:=hrel;have hp':=hyd1 hp;clear hp
  by_cases hlt:k<zs.length
  ·obtain⟨b,off,rfl,_,hb,hc⟩:=hr (by omega);have hck:=hc k hlt;have hmem:=List.getElem_mem hlt;generalize hx:zs[k]=x at hck hmem;have hx':=hyd1 hx;clear hc hr hx
   by_cases hpx:p x=true
   ·go_wp2_with (first | (refine(hf x hmem).mono ?_;rintro e w' ⟨rfl,rfl⟩));go_ret;exact⟨qK4 (qO5 p zs k hlt (by rw[hx'.out];exact hpx) hp'.out),rfl⟩
   ·have hpx':p x=false:=by simpa using hpx
    go_wp2_with (first | (refine(hf x hmem).mono ?_;rintro e w' ⟨rfl,rfl⟩))
    go_round
    case rel=>exact⟨k+1,by omega,by go_num,rfl,fun j h hj=>by
     by_cases hjk:j=k
     ·subst hjk;rw[hx'.out];exact hpx'
     ·exact hp'.out j h (by omega)⟩
    case measure=>simp[intOf];omega
  ·go_wp2;go_ret;exact⟨qK4 (qNX p zs fun j h=>hp'.out j h (by omega)),rfl⟩
theorem qGU (L:Nat→Prop) (p:Nat→Bool) (g:FuncId) (cap:Array Value) (v:Value) (zs:List Nat) (w:World) (hv:ArrL L (gv .u32) w v zs)
  (hg:qAF Tryz.prog g)
  (hf:∀x,x∈zs→Calls Tryz.prog g (#[gv .u32 x]++cap) w (fun e w2=>e= .returned (.bool (p x))∧w=w2)):
  Calls Tryz.prog 149 #[v,.func (.func g) #[] cap] w fun e w'=>e= .returned (.bool (zs.any p))∧w=w':=by
 go_enter Tryz.func149,Tryz.ntmps149;go_wp2_with (first | (go_at_call 167;refine(qHy L p g cap _ zs _ hv hg hf).mono ?_;rintro e w' ⟨rfl,rfl⟩));go_ret;exact⟨qCM (qO6 p zs),rfl⟩
theorem qKO (g:Nat) (w:World):Calls Tryz.prog 150 #[gv .u32 g] w fun e w'=>e= .returned (.bool (decide (1000000000≤g)))∧w=w':=by
 unfold gv;go_enter Tryz.func150,Tryz.ntmps150;go_wp2;go_ret;exact⟨qCM (decide_eq_decide.2 (by omega)),rfl⟩
def isW (neg:Bool) (gs:List Nat):Bool:=decide (gs.length≤40)&& !(gs.any fun g=>decide (1000000000≤g))&&(if gs.length=0 then !neg else decide (0<gs.getD (gs.length - 1) 0))
theorem qHz:qAF Tryz.prog 150:=fun _ _=>by kernel_rfl
theorem qO9 {neg:Bool} {gs:List Nat} (h:(gs.any fun g=>decide (1000000000≤g))=true):isW neg gs=false:=by
 unfold isW;rw[h,Bool.not_true,Bool.and_false,Bool.false_and]
theorem qOa {neg:Bool} {gs:List Nat} (hl:¬40<gs.length) (h:(gs.any fun g=>decide (1000000000≤g))=false) (h0:gs.length=0):isW neg gs= !neg:=by
 unfold isW;rw[h,decide_eq_true (by omega),if_pos h0,Bool.not_false,Bool.and_self,Bool.true_and]
theorem qN1 {neg:Bool} {gs:List Nat} {x:Nat} (hl:¬40<gs.length) (h:(gs.any fun g=>decide (1000000000≤g))=false) (h0:¬gs.length=0) (hx:gs.getD (gs.length - 1) 0=x):isW neg gs=decide (0<x):=by
 unfold isW;rw[h,decide_eq_true (by omega),if_neg h0,Bool.not_false,Bool.and_self,Bool.true_and,hx]
theorem qOb {neg:Bool} {gs:List Nat} (h:40<gs.length):isW neg gs=false:=by
 unfold isW;rw[decide_eq_false (by omega),Bool.false_and,Bool.false_and]
theorem qBM (L:Nat→Prop) (neg:Bool) (gs:List Nat) (v:Value) (w:World) (hL:Up w L) (hv:ArrL L (gv .u32) w v gs):
  Calls Tryz.prog 103 #[.agg #[.bool neg,v]] w fun e w'=>e= .returned (.bool (isW neg gs))∧Le w w':=by
 have hv0:=hv;obtain⟨A,c,rfl,hlc,hcm,hN,hr⟩:=hv;unfold maxLen at hcm;have hv1:=fun o=>hv0.le (qAB w o);have hle:=qAB w (.cells #[.bool neg,.slice A gs.length c] 24)
 by_cases hl:40<gs.length
 ·have hdec:decide (40<gs.length)=true:=decide_eq_true hl;have hfin:=qOb (neg:=neg) hl;have⟨hL',hv0',hv1',hr',hN',hle',hfin'⟩:=hyd7 hL hv0 hv1 hr hN hle hfin;clear hfin hle hN hr hv1 hv0 hL;go_enter Tryz.func103,Tryz.ntmps103;go_wp2;go_ret;exact⟨qCM hfin'.out.symm,hle'.out⟩
 ·have hdec:decide (40<gs.length)=false:=decide_eq_false hl;have⟨hL',hv0',hv1',hr',hN',hle'⟩:=hyd6 hL hv0 hv1 hr hN hle;clear hle hN hr hv1 hv0 hL;go_enter Tryz.func103,Tryz.ntmps103;have hi:¬40<(gs.length:Int):=by omega
  go_wp2_with (fail);go_at_call 149;refine(qGU L (fun g=>decide (1000000000≤g)) 150 #[] _ gs _ (hv1'.out _) qHz (fun x _=>qKO x _)).mono ?_;rintro e W ⟨rfl,rfl⟩
  by_cases hany:(gs.any fun g=>decide (1000000000≤g))=true
  ·have hfin:=qO9 (neg:=neg) hany;rw[hany];have⟨hfin',hany'⟩:=hyd2 hfin hany;clear hany hfin;go_wp2;go_ret;exact⟨qCM hfin'.out.symm,hle'.out⟩
  ·have hany:(gs.any fun g=>decide (1000000000≤g))=false:=by simpa using hany
   rw[hany]
   by_cases h0:gs.length=0
   ·have hfin:=qOa (neg:=neg) hl hany h0;have hi0:(gs.length:Int)=0:=by omega
    have hb0:((gs.length:Int)==0)=true:=beq_iff_eq.2 hi0;have hb1:¬0<(gs.length:Int):=by omega
    have hb2:¬0<gs.length:=by omega
    have⟨hfin',hany'⟩:=hyd2 hfin hany;clear hany hfin
    cases neg
    ·go_wp2;go_ret;exact⟨qCM hfin'.out.symm,qAB _ _⟩
    ·go_wp2;go_ret;exact⟨qCM hfin'.out.symm,qAB _ _⟩
   ·obtain⟨b,off,rfl,-,hb,hc⟩:=hr'.out (by omega);have hck:=hc (gs.length - 1) (by omega);have hxx:gs.getD (gs.length - 1) 0=gs[gs.length - 1]'(by omega):=by rw[List.getD_eq_getElem?_getD,List.getElem?_eq_getElem (by omega)];rfl
    generalize gs[gs.length - 1]'(by omega)=x at hck hxx;have hfin:=qN1 (neg:=neg) hl hany h0 hxx;have hi0:¬(gs.length:Int)=0:=by omega
    have hb0:((gs.length:Int)==0)=false:=beq_eq_false_iff_ne.2 hi0;have hb1:0<(gs.length:Int):=by omega
    have hb2:0<gs.length:=by omega
    unfold gv at hck;have⟨hfin',hany',hc',hxx'⟩:=hyd4 hfin hany hc hxx;clear hxx hc hany hfin;go_wp2;go_ret;exact⟨qCM (by rw[hfin'.out]),hle'.out⟩
theorem qAX (e:Int) (w:World):Calls Tryz.prog 48 #[.bool true,.int .i64 e] w fun E w'=>E= .returned (.tuple #[])∧w=w':=by
 go_enter Tryz.func48,Tryz.ntmps48;go_wp2;go_end0;exact⟨rfl,rfl⟩
theorem qAY (e:Int) (w:World):Calls Tryz.prog 48 #[.bool false,.int .i64 e] w fun E w'=>E= .panicked [{v:= .iface 137 (.agg #[.int .i64 e]),recovered:=false}]∧w=w':=by
 go_enter Tryz.func48,Tryz.ntmps48;go_wp2;exact⟨rfl,rfl,rfl⟩
theorem qAi {w w':World} {o0 o1:Obj} (h:Le ((w.alloc o0).alloc o1) w'):Le w w'∧w'.heap[w.heap.size]? =some o0∧w'.heap[w.heap.size+1]? =some o1:=by
 obtain⟨h1,h2⟩:=qBh h;obtain⟨h3,h4⟩:=qBh h1;have hs:(w.alloc o0).heap.size =w.heap.size+1:=by unfold World.alloc;show(w.heap.push _).size =_;rw[Array.size_push]
 rw[hs]at h2;exact⟨h3,h4,h2⟩
theorem qAA {W:World} {X:Nat} {v0 v1 v2 v3:Value} {t:TypeId} (h:W.heap[X]? =some (Obj.cells #[v0,v1,v2,v3] t)):W.cell? ⟨X,0,none⟩=some v0∧W.cell? ⟨X,1,none⟩=some v1∧W.cell? ⟨X,2,none⟩=some v2∧W.cell? ⟨X,3,none⟩=some v3:=
 ⟨cell_of_row W X 0 _ _ _ h,cell_of_row W X 1 _ _ _ h,cell_of_row W X 2 _ _ _ h,cell_of_row W X 3 _ _ _ h⟩
theorem qN2 (L:Nat→Prop) (r:Rat) (vn vd:Value) (w:World) (hL:Up w L) (hn:NumL L .u32 w vn (rnum r)) (hd:NumL L .u32 w vd r.den) (hsn:isW (rneg r) (dg (rnum r))=true) (hsd:isW false (dg r.den)=true) (hs:Rsz r 40):
  Calls Tryz.prog 41 #[.agg #[.bool (rneg r),vn,.bool false,vd]] w fun e w'=>∃v',e= .returned v'∧Le w w'∧RatL L .u32 w' v' r:=by
 have hn0:=hn;have hd0:=hd;obtain⟨A1,c1,rfl⟩:=hn.slice;obtain⟨A2,c2,rfl⟩:=hd.slice;obtain⟨hs1,hs2⟩:=hs;have hlpos:0<(dg r.den).length :=dg_length_pos.2 (Nat.ne_of_gt (qAU r));have hlposI:0<((dg r.den).length :Int):=by omega
 obtain⟨sr,hsr⟩:∃sr,rneg r=sr:=⟨_,rfl⟩;rw[hsr]at hsn ⊢;have⟨hL',hn',hd',hn0',hd0',hsn',hsd',hsr'⟩:=hyd8 hL hn hd hn0 hd0 hsn hsd hsr;clear hsr hsd hsn hd0 hn0 hd hn hL;go_enter Tryz.func41,Tryz.ntmps41;go_wp2_with (fail);go_at_call 103;refine(qBM L sr (dg (rnum r)) _ _ (hL'.out.le ((qAB _ _).trans (qAB _ _))) (hn0'.out.le ((qAB _ _).trans (qAB _ _)))).mono ?_;rintro e W ⟨rfl,hle⟩;rw[hsn'.out];obtain⟨hle1,hbx,hby⟩:=qAi hle;obtain⟨a0,a1,a2,a3⟩:=qAA hbx;have hUp1:=hL'.out.le hle1;have hd1:=hd0'.out.le hle1;have⟨hle',hle1',hbx',hby',hUp1',hd1'⟩:=hyd6 hle hle1 hbx hby hUp1 hd1;clear hd1 hUp1 hby hbx hle1 hle;go_wp2_with (fail);go_at_call 103;refine(qBM L false (dg r.den) _ _ hUp1'.out hd1'.out).mono ?_;rintro e W2 ⟨rfl,hle2⟩;rw[hsd'.out];clear a0 a1 a2 a3;have hlt:=(gsl hbx'.out);have hlt1:=(gsl hby'.out);have hbx2:=(Below.block hle2 _ hlt).trans hbx'.out;have hby2:=(Below.block hle2 _ hlt1).trans hby'.out;obtain⟨a0,a1,a2,a3⟩:=qAA hbx2;have hle3:=Le.trans hle1'.out hle2;have hsz:=Below.size hle2;have⟨hle2',hbx2',hby2',hle3'⟩:=hyd4 hle2 hbx2 hby2 hle3;clear hle3 hby2 hbx2 hle2;go_wp2_with (fail);go_at_call 48;refine(qAX _ _).mono ?_;rintro e W3 ⟨rfl,rfl⟩;go_wp2_with (fail);go_at_call 104;refine(qDv L (rnum r) r.den _ _ _ (hL'.out.le (hle3'.out.trans (qAB _ _))) (hn0'.out.le (hle3'.out.trans (qAB _ _))) (hd0'.out.le (hle3'.out.trans (qAB _ _))) (by omega) (by omega)).mono ?_;rintro e W4 ⟨vg,rfl,hle4,hg⟩
 rw[qPJ r]at hg;obtain⟨G,c3,rfl⟩:=hg.slice;obtain⟨hle5,hbz⟩:=qBh hle4;have hle6:=Le.trans hle3'.out hle5;have hby4:=(Below.block hle5 _ (gsl hby2'.out)).trans hby2'.out;obtain⟨z0,z1,z2,g0,g1,g2⟩:=qAD hbz;obtain⟨y0,y1,y2,k0,k1,k2⟩:=qAD hby4;have⟨hle4',hg',hle5',hbz',hle6',hby4'⟩:=hyd6 hle4 hg hle5 hbz hle6 hby4;clear hby4 hle6 hbz hle5 hg hle4;clear a0 a1 a2 a3;go_wp2_with (fail);go_at_call 102;refine(qHO L 1 _ W4 hg'.out).mono ?_;rintro e W5 ⟨rfl,rfl⟩;go_wp2_with (fail);go_at_call 48;refine(qAX _ _).mono ?_;rintro e W6 ⟨rfl,rfl⟩;have hle9:=fun u0 u1 u2=>qAg (u0:=u0) (u1:=u1) (u2:=u2) hle6'.out (show w.heap.size≤w.heap.size+1 by omega);have hb9:=fun u0 u1 u2=>qAD (qA0 (u0:=u0) (u1:=u1) (u2:=u2) hby4'.out);have hfin:=fun u0 u1 u2=>And.intro (NumL.box3 (u0:=u0) (u1:=u1) (u2:=u2) (hn0'.out.le hle6'.out) hby4'.out) (NumL.box3 (u0:=u0) (u1:=u1) (u2:=u2) (hd0'.out.le hle6'.out) hby4'.out);have⟨hle9',hb9',hfin'⟩:=hyd3 hle9 hb9 hfin;clear hfin hb9 hle9;go_wp2;obtain⟨d0,d1,d2,-⟩:=hb9'.out (.bool sr) (.slice A1 (dg (rnum r)).length c1) (.slice A2 (dg r.den).length c2);refine bodyPost_ret (v:= .agg #[.bool sr,.slice A1 (dg (rnum r)).length c1,.slice A2 (dg r.den).length c2]) (by simp[results,Tryz.results41,go_sem,d0,d1,d2]) rfl ⟨_,rfl,hle9'.out _ _ _,?_⟩;exact⟨_,_,by rw[hsr'.out],(hfin'.out _ _ _).1,(hfin'.out _ _ _).2⟩
set_option maxRecDepth 10000
theorem qJU (p q:Addr) (w:World):
  CallsD Tryz.prog 119 #[.pointer (some p),.pointer (some q)] .returning w fun e u' w'=>e= .returned (.tuple #[])∧u'= .returning ∧w'=w:=by
 refine callsD_of_wpS Tryz.func119 rfl fun c₀ cs hu=>?_;apply wpS_seq;apply wpS_region;simp[wpOpsS,go_sem,recoverD,hu,Tryz.ntmps119,Exit.thenS];apply wpS_seq;apply wpS_region;simp[wpOpsS,go_sem,recoverD,hu,Tryz.ntmps119,Exit.thenS];refine wpS_cond (t:=false) (by simp[Act.eval,Array.replicate]) ?_;simp only[Bool.false_eq_true,if_false];refine wpS_of_wp (wp_skip ?_)
 cases c₀
 simp_all [bodyPostS,results,Tryz.results119]
theorem qIA (B:Nat) (e:Int) (a b:Value) (tp tq:TypeId) (w:World) (hb:w.heap[B]? =some (.cells #[a] tp)) (hq:w.heap[B+1]? =some (.cells #[b] tq)):
  CallsD Tryz.prog 119 #[.pointer (some ⟨B,0,none⟩),.pointer (some ⟨B+1,0,none⟩)] (.panicking [{v:= .iface 137 (.agg #[.int .i64 e]),recovered:=false}]) w fun E u' w'=>E= .returned (.tuple #[])∧u'= .panicking [{v:= .iface 137 (.agg #[.int .i64 e]),recovered:=true}]∧
   w'.cell? ⟨B,0,none⟩=some (.int .i64 0)∧w'.cell? ⟨B+1,0,none⟩=some (.int .i64 e)∧∀w0,Le w0 w→w0.heap.size≤B→Le w0 w':=by
 refine callsD_of_wpS Tryz.func119 rfl fun c₀ cs hu=>?_;apply wpS_seq;apply wpS_region;simp[wpOpsS,go_sem,recoverD,hu,Tryz.ntmps119,Exit.thenS];apply wpS_seq;apply wpS_region;simp[wpOpsS,go_sem,recoverD,hu,Tryz.ntmps119,Exit.thenS];refine wpS_cond (t:=true) (by simp[Act.eval,Array.replicate]) ?_;simp only[if_true];refine wpS_of_wp ?_;have hta:∀W:World,(Instr.typeAssert (Value.iface 137 (Value.agg #[Value.int IntKind.i64 e])) 20 137 true).run Tryz.prog W= .ok (.tuple #[.agg #[.int .i64 e],.bool true]) W:=fun _=>by kernel_rfl
 have harr:∀a b c d e f g h:Value,#[a,b]++((((((Array.replicate 18 undef).setIfInBounds 4 c).setIfInBounds 0 d).setIfInBounds 5 e).setIfInBounds 6 f))=#[a,b,d,undef,undef,undef,c,e,f,undef,undef,undef,undef,undef,undef,undef,undef,undef,undef,undef]:=fun _ _ _ _ _ _ _ _=>by first |kernel_rfl|simp[Array.replicate_succ]
 rw[harr _ _ _ _ _ _ undef undef];go_wp2;obtain⟨W,hW,hle,hk⟩:=al1 w (.cells #[.int .i64 e] 137);rw[hW];have hb2:=(Below.block hle B (gsl hb)).trans hb;have hq2:=(Below.block hle (B+1) (gsl hq)).trans hq;have hBl:=(gsl hb);have hql:=(gsl hq);have c1:=qAC hb2;have f1:=fz0 hb2 0;have c2:=qAC hq2;have f2:=fz0 hq2 0;have c3:=qAC hk;have n1:¬w.heap.size=B:=by omega
 have n2:¬w.heap.size=B+1:=by omega
 have n3:¬B=w.heap.size:=by omega
 have n4:¬B+1=w.heap.size:=by omega
 have n5:¬B+1=B:=by omega
 have⟨hW',hle',hk',hb',hq',hb2',hq2',hu'⟩:=hyd8 hW hle hk hb hq hb2 hq2 hu;clear hu hq2 hb2 hq hb hk hle hW;go_region;have h1:=qAW hb2'.out (u:= .int .i64 0);have h2:(W.setCell ⟨B,0,none⟩ (.int .i64 0)).heap[B+1]? =some (.cells #[b] tq):=(Below.heap_setCell _ _ _ _ (by show B+1≠B;omega)).trans hq2'.out;have h3:=qAW h2 (u:= .int .i64 e);have h4:((W.setCell ⟨B,0,none⟩ (.int .i64 0)).setCell ⟨B+1,0,none⟩ (.int .i64 e)).heap[B]? =some (.cells #[.int .i64 0] tp):=(Below.heap_setCell _ _ _ _ (by show B≠B+1;omega)).trans h1
 have hle9:∀w0,Le w0 w→w0.heap.size≤B→Le w0 ((W.setCell ⟨B,0,none⟩ (.int .i64 0)).setCell ⟨B+1,0,none⟩ (.int .i64 e)).drew :=fun w0 h0 h5=>
  Le.trans ((Below.setCell (Le.trans h0 hle'.out) (p:=⟨B,0,none⟩) h5 _).setCell (p:=⟨B+1,0,none⟩) (by show w0.heap.size≤B+1;omega) _) Le.drew
 have d1:((W.setCell ⟨B,0,none⟩ (.int .i64 0)).setCell ⟨B+1,0,none⟩ (.int .i64 e)).drew.cell? ⟨B,0,none⟩=_:=qAC h4;have d2:((W.setCell ⟨B,0,none⟩ (.int .i64 0)).setCell ⟨B+1,0,none⟩ (.int .i64 e)).drew.cell? ⟨B+1,0,none⟩=_:=qAC h3;generalize ((W.setCell ⟨B,0,none⟩ (.int .i64 0)).setCell ⟨B+1,0,none⟩ (.int .i64 e)).drew =V at*;show bodyPostS _ _ _ _ _ _ _ _ _;simp[bodyPostS,results,Tryz.results119,go_sem,d1,d2];exact hle9
theorem qED (g:FuncId) (cap:Array Value) (z:Int) (w:World) (hg:qAF Tryz.prog g) (hf:∀W,Le w W→Calls Tryz.prog g cap W fun e W'=>e= .returned (.int .i64 z)∧Le W W'):
  Calls Tryz.prog 58 #[.func (.func g) #[] cap] w fun e w'=>e= .returned (.tuple #[.int .i64 z,.int .i64 0])∧Le w w':=by
 have hmf:∀(fn:Fn) (first cap:Array Value) (w:World),(Instr.makeFunc fn first cap).run Tryz.prog w= .ok (.func fn first cap) w:=fun _ _ _ _=>rfl;unfold qAF at hg
 go_enter_defers Tryz.func58,Tryz.ntmps58
 go_wp2_with (fail);refine(hf _ ((qAB _ _).trans (qAB _ _))).mono ?_;rintro e W ⟨rfl,hle⟩;obtain⟨hle1,hb,hq⟩:=qAi hle;have c1:=qAC hb;have f1:=fz0 hb 0;have c2:=qAC hq;have f2:=fz0 hq 0;have hBl:=(gsl hb);have hql:=(gsl hq);have⟨hle',hle1',hb',hq'⟩:=hyd4 hle hle1 hb hq;clear hq hb hle1 hle;go_wp2;have h1:=qAW hb'.out (u:= .int .i64 z);have h2:(W.setCell ⟨w.heap.size,0,none⟩ (.int .i64 z)).heap[w.heap.size+1]? =_:=(Below.heap_setCell _ _ _ _ (by show w.heap.size+1≠w.heap.size;omega)).trans hq'.out;have h3:=qAW h2 (u:= .int .i64 0);have h4:((W.setCell ⟨w.heap.size,0,none⟩ (.int .i64 z)).setCell ⟨w.heap.size+1,0,none⟩ (.int .i64 0)).heap[w.heap.size]? =_:=(Below.heap_setCell _ _ _ _ (by show w.heap.size≠w.heap.size+1;omega)).trans h1;have hle9:Le w ((W.setCell ⟨w.heap.size,0,none⟩ (.int .i64 z)).setCell ⟨w.heap.size+1,0,none⟩ (.int .i64 0)):=(Below.setCell hle1'.out (p:=⟨w.heap.size,0,none⟩) (Nat.le_refl _) _).setCell (p:=⟨w.heap.size+1,0,none⟩) (by show w.heap.size≤w.heap.size+1;omega) _;have d1:=qAC h4;have d2:=qAC h3;refine leaves_cons (f:=119) (args:=#[.pointer (some ⟨w.heap.size,0,none⟩),.pointer (some ⟨w.heap.size+1,0,none⟩)]) (by simp) (by simp[go_sem]) ?_;refine(qJU _ _ _).mono ?_;rintro e u' w'' ⟨rfl,rfl,rfl⟩;simp[Leaves,settle,results,Tryz.results58,go_sem,d1,d2];exact hle9
theorem qD7 (g:FuncId) (cap:Array Value) (x:Int) (w:World) (hg:qAF Tryz.prog g) (hf:∀W,Le w W→Calls Tryz.prog g cap W fun e W'=>e= .panicked [{v:= .iface 137 (.agg #[.int .i64 x]),recovered:=false}]∧Le W W'):
  Calls Tryz.prog 58 #[.func (.func g) #[] cap] w fun e w'=>e= .returned (.tuple #[.int .i64 0,.int .i64 x])∧Le w w':=by
 have hmf:∀(fn:Fn) (first cap:Array Value) (w:World),(Instr.makeFunc fn first cap).run Tryz.prog w= .ok (.func fn first cap) w:=fun _ _ _ _=>rfl;unfold qAF at hg
 go_enter_defers Tryz.func58,Tryz.ntmps58
 go_wp2_with (fail);refine(hf _ ((qAB _ _).trans (qAB _ _))).mono ?_;rintro e W ⟨rfl,hle⟩;obtain⟨hle1,hb,hq⟩:=qAi hle;have c1:=qAC hb;have f1:=fz0 hb 0;have c2:=qAC hq;have f2:=fz0 hq 0;have hle':=hyd1 hle;clear hle;go_wp2;refine leaves_cons (f:=119) (args:=#[.pointer (some ⟨w.heap.size,0,none⟩),.pointer (some ⟨w.heap.size+1,0,none⟩)]) (by simp) (by simp[go_sem]) ?_;refine(qIA w.heap.size x _ _ _ _ _ hb hq).mono ?_;rintro e u' w'' ⟨rfl,rfl,d1,d2,hl⟩;have hle9:=hl w hle1 (Nat.le_refl _);simp[Leaves,settle,results,Tryz.results58,go_sem,d1,d2];exact hle9
theorem qN3 (L:Nat→Prop) (sn sd:Bool) (gn gd:List Nat) (vn vd:Value) (w:World) (hL:Up w L) (hn:ArrL L (gv .u32) w vn gn) (hd:ArrL L (gv .u32) w vd gd)
  (h:(isW sn gn&&isW sd gd&& !sd&&decide (0<gd.length))=false):
  Calls Tryz.prog 41 #[.agg #[.bool sn,vn,.bool sd,vd]] w fun e w'=>e= .panicked [{v:= .iface 137 (.agg #[.int .i64 10]),recovered:=false}]∧Le w w':=by
 have hn0:=hn;have hd0:=hd;obtain⟨A1,c1,rfl,-,-,-,-⟩:=hn;obtain⟨A2,c2,rfl,-,-,-,-⟩:=hd;have⟨hL',hn0',hd0'⟩:=hyd3 hL hn0 hd0;clear hd0 hn0 hL
 cases hwn:isW sn gn with
 | false=>
  have⟨hwn',h'⟩:=hyd2 hwn h;clear h hwn;go_enter Tryz.func41,Tryz.ntmps41;go_wp2_with (fail);go_at_call 103;refine(qBM L sn gn _ _ (hL'.out.le ((qAB _ _).trans (qAB _ _))) (hn0'.out.le ((qAB _ _).trans (qAB _ _)))).mono ?_;rintro e W ⟨rfl,hle⟩;rw[hwn'.out];obtain⟨hle1,hbx,hby⟩:=qAi hle
  have⟨hle',hle1',hbx',hby'⟩:=hyd4 hle hle1 hbx hby
  clear hby hbx hle1 hle;go_wp2_with (fail);go_at_call 48;refine(qAY _ _).mono ?_;rintro e W3 ⟨rfl,rfl⟩;go_wp2_with (fail);exact⟨rfl,rfl,hle1'.out⟩
 | true=>
  rw[hwn,Bool.true_and]at h;have hwn':=hyd1 hwn;clear hwn
  cases hwd:isW sd gd with
  | false=>
   have⟨hwd',h'⟩:=hyd2 hwd h;clear h hwd;go_enter Tryz.func41,Tryz.ntmps41;go_wp2_with (fail);go_at_call 103;refine(qBM L sn gn _ _ (hL'.out.le ((qAB _ _).trans (qAB _ _))) (hn0'.out.le ((qAB _ _).trans (qAB _ _)))).mono ?_;rintro e W ⟨rfl,hle⟩;rw[hwn'.out];obtain⟨hle1,hbx,hby⟩:=qAi hle;obtain⟨a0,a1,a2,a3⟩:=qAA hbx;have hUp1:=hL'.out.le hle1;have hd1:=hd0'.out.le hle1;have⟨hle',hle1',hbx',hby',hUp1',hd1'⟩:=hyd6 hle hle1 hbx hby hUp1 hd1;clear hd1 hUp1 hby hbx hle1 hle;go_wp2_with (fail);go_at_call 103;refine(qBM L sd gd _ _ hUp1'.out hd1'.out).mono ?_;rintro e W2 ⟨rfl,hle2⟩;rw[hwd'.out];clear a0 a1 a2 a3;have hle3:=Le.trans hle1'.out hle2;have⟨hle2',hle3'⟩:=hyd2 hle2 hle3;clear hle3 hle2;go_wp2_with (fail);go_at_call 48;refine(qAY _ _).mono ?_;rintro e W3 ⟨rfl,rfl⟩;go_wp2_with (fail);exact⟨rfl,rfl,hle3'.out⟩
  | true=>
   rw[hwd,Bool.true_and]at h;have hwd':=hyd1 hwd;clear hwd
   cases sd with
   | true=>
    have h':=hyd1 h;clear h;go_enter Tryz.func41,Tryz.ntmps41;go_wp2_with (fail);go_at_call 103;refine(qBM L sn gn _ _ (hL'.out.le ((qAB _ _).trans (qAB _ _))) (hn0'.out.le ((qAB _ _).trans (qAB _ _)))).mono ?_;rintro e W ⟨rfl,hle⟩;rw[hwn'.out];obtain⟨hle1,hbx,hby⟩:=qAi hle;obtain⟨a0,a1,a2,a3⟩:=qAA hbx;have hUp1:=hL'.out.le hle1;have hd1:=hd0'.out.le hle1;have⟨hle',hle1',hbx',hby',hUp1',hd1'⟩:=hyd6 hle hle1 hbx hby hUp1 hd1;clear hd1 hUp1 hby hbx hle1 hle;go_wp2_with (fail);go_at_call 103;refine(qBM L true gd _ _ hUp1'.out hd1'.out).mono ?_;rintro e W2 ⟨rfl,hle2⟩;rw[hwd'.out];clear a0 a1 a2 a3;have hbx2:=(Below.block hle2 _ (gsl hbx'.out)).trans hbx'.out;obtain⟨a0,a1,a2,a3⟩:=qAA hbx2;have hle3:=Le.trans hle1'.out hle2;have⟨hle2',hle3',hbx2'⟩:=hyd3 hle2 hle3 hbx2;clear hbx2 hle3 hle2;go_wp2_with (fail);go_at_call 48;refine(qAY _ _).mono ?_;rintro e W3 ⟨rfl,rfl⟩;go_wp2_with (fail);exact⟨rfl,rfl,hle3'.out⟩
   | false=>
    have h0:gd.length=0:=by simpa using h
    have hi0:¬0<(gd.length:Int):=by omega
    have hi1:¬0<gd.length:=by omega
    have⟨h',h0'⟩:=hyd2 h h0;clear h0 h;go_enter Tryz.func41,Tryz.ntmps41;go_wp2_with (fail);go_at_call 103;refine(qBM L sn gn _ _ (hL'.out.le ((qAB _ _).trans (qAB _ _))) (hn0'.out.le ((qAB _ _).trans (qAB _ _)))).mono ?_;rintro e W ⟨rfl,hle⟩;rw[hwn'.out];obtain⟨hle1,hbx,hby⟩:=qAi hle;obtain⟨a0,a1,a2,a3⟩:=qAA hbx;have hUp1:=hL'.out.le hle1;have hd1:=hd0'.out.le hle1;have⟨hle',hle1',hbx',hby',hUp1',hd1'⟩:=hyd6 hle hle1 hbx hby hUp1 hd1;clear hd1 hUp1 hby hbx hle1 hle;go_wp2_with (fail);go_at_call 103;refine(qBM L false gd _ _ hUp1'.out hd1'.out).mono ?_;rintro e W2 ⟨rfl,hle2⟩;rw[hwd'.out];clear a0 a1 a2 a3;have hbx2:=(Below.block hle2 _ (gsl hbx'.out)).trans hbx'.out;obtain⟨a0,a1,a2,a3⟩:=qAA hbx2;have hle3:=Le.trans hle1'.out hle2;have⟨hle2',hle3',hbx2'⟩:=hyd3 hle2 hle3 hbx2;clear hbx2 hle3 hle2;go_wp2_with (fail);go_at_call 48;refine(qAY _ _).mono ?_;rintro e W3 ⟨rfl,rfl⟩;go_wp2_with (fail);exact⟨rfl,rfl,hle3'.out⟩
theorem qMT (L:Nat→Prop) (sr:Bool) (n d:Nat) (vn vd:Value) (w:World) (hL:Up w L) (hn:NumL L .u32 w vn n) (hd:NumL L .u32 w vd d) (hd0:d≠0) (hsn:isW sr (dg n)=true) (hsd:isW false (dg d)=true) (hs1:(dg n).length ≤40) (hs2:(dg d).length ≤40) (hgcd:Nat.gcd n d≠1):
  Calls Tryz.prog 41 #[.agg #[.bool sr,vn,.bool false,vd]] w fun e w'=>e= .panicked [{v:= .iface 137 (.agg #[.int .i64 10]),recovered:=false}]∧Le w w':=by
 have hn0:=hn;have hdd:=hd;obtain⟨A1,c1,rfl⟩:=hn.slice;obtain⟨A2,c2,rfl⟩:=hd.slice;have hlpos:0<(dg d).length :=dg_length_pos.2 hd0;have hlposI:0<((dg d).length :Int):=by omega
 have⟨hL',hn',hd',hn0',hdd',hsn',hsd',hgcd'⟩:=hyd8 hL hn hd hn0 hdd hsn hsd hgcd;clear hgcd hsd hsn hdd hn0 hd hn hL;go_enter Tryz.func41,Tryz.ntmps41;go_wp2_with (fail);go_at_call 103;refine(qBM L sr (dg n) _ _ (hL'.out.le ((qAB _ _).trans (qAB _ _))) (hn0'.out.le ((qAB _ _).trans (qAB _ _)))).mono ?_;rintro e W ⟨rfl,hle⟩;rw[hsn'.out];obtain⟨hle1,hbx,hby⟩:=qAi hle;obtain⟨a0,a1,a2,a3⟩:=qAA hbx;have hUp1:=hL'.out.le hle1;have hd1:=hdd'.out.le hle1;have⟨hle',hle1',hbx',hby',hUp1',hd1'⟩:=hyd6 hle hle1 hbx hby hUp1 hd1;clear hd1 hUp1 hby hbx hle1 hle;go_wp2_with (fail);go_at_call 103;refine(qBM L false (dg d) _ _ hUp1'.out hd1'.out).mono ?_;rintro e W2 ⟨rfl,hle2⟩;rw[hsd'.out];clear a0 a1 a2 a3;have hlt:=(gsl hbx'.out);have hlt1:=(gsl hby'.out);have hbx2:=(Below.block hle2 _ hlt).trans hbx'.out;have hby2:=(Below.block hle2 _ hlt1).trans hby'.out;obtain⟨a0,a1,a2,a3⟩:=qAA hbx2;have hle3:=Le.trans hle1'.out hle2;have hsz:=Below.size hle2;have⟨hle2',hbx2',hby2',hle3'⟩:=hyd4 hle2 hbx2 hby2 hle3;clear hle3 hby2 hbx2 hle2;go_wp2_with (fail);go_at_call 48;refine(qAX _ _).mono ?_;rintro e W3 ⟨rfl,rfl⟩;go_wp2_with (fail);go_at_call 104;refine(qDv L n d _ _ _ (hL'.out.le (hle3'.out.trans (qAB _ _))) (hn0'.out.le (hle3'.out.trans (qAB _ _))) (hdd'.out.le (hle3'.out.trans (qAB _ _))) (by omega) (by omega)).mono ?_;rintro e W4 ⟨vg,rfl,hle4,hg⟩;obtain⟨g,hgg⟩:∃g,Nat.gcd n d=g:=⟨_,rfl⟩;rw[hgg]at hg;have hdec:decide (g=1)=false:=decide_eq_false (by rw[←hgg];exact hgcd'.out)
 obtain⟨G,c3,rfl⟩:=hg.slice;obtain⟨hle5,hbz⟩:=qBh hle4;have hle6:=Le.trans hle3'.out hle5;have hby4:=(Below.block hle5 _ (gsl hby2'.out)).trans hby2'.out;obtain⟨z0,z1,z2,g0,g1,g2⟩:=qAD hbz;obtain⟨y0,y1,y2,k0,k1,k2⟩:=qAD hby4;have⟨hle4',hg',hgg',hle5',hbz',hle6',hby4'⟩:=hyd7 hle4 hg hgg hle5 hbz hle6 hby4;clear hby4 hle6 hbz hle5 hgg hg hle4;clear a0 a1 a2 a3;go_wp2_with (fail);go_at_call 102;refine(qHO L g _ W4 hg'.out).mono ?_;rintro e W5 ⟨rfl,rfl⟩;go_wp2_with (fail);go_at_call 48;refine(qAY _ _).mono ?_;rintro e W6 ⟨rfl,rfl⟩;go_wp2_with (fail);exact⟨rfl,rfl,hle6'.out⟩
end Go.Proofs.YtenjpccpldajoaaGreatDoor

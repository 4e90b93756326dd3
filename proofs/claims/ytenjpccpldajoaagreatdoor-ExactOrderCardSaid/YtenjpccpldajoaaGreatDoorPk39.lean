/- What an answer that is a turning number reads as. The chapter's examples, plain: what the functions answer at them. Texts: (nat).text. -/
import Derived.Test.YtenjpccpldajoaaGreatDoorPk38
import Derived.Test.YtenjpccpldajoaaGreatDoorPk37
namespace Go.Proofs.YtenjpccpldajoaaGreatDoor
set_option maxRecDepth 100000
open Go.RowKit Go.Shelf
set_option linter.unusedVariables false
noncomputable def qCr (g:G2):FracA×FracA:=(qAE g.1,qAE g.2)
theorem TurnF.isAV {w:World} {v:Value} {g:G2} (h:TurnF w v g):IsTurnA w v (qCr g):=by
 obtain⟨s1,A1,n1,c1,t1,B1,m1,d1,s2,A2,n2,c2,t2,B2,m2,d2,rfl,h1,h2⟩:=h;obtain⟨A,c,B,d,e1,p1,p2⟩:=h1.isA;obtain⟨A',c',B',d',e2,q1,q2⟩:=h2.isA;injection e1 with e1;injection e2 with e2;simp only[Array.mk.injEq,List.cons.injEq,and_true]at e1 e2;obtain⟨a1,a2,a3,a4⟩:=e1;obtain⟨b1,b2,b3,b4⟩:=e2;rw[a1,a2,a3,a4,b1,b2,b3,b4];exact⟨_,_,_,_,_,_,_,_,rfl,⟨_,_,_,_,rfl,p1,p2⟩,⟨_,_,_,_,rfl,q1,q2⟩⟩
theorem qHl {g:G2} (h:TSz g 40):tval (qCr g)=some g:=qIi (qAQ h.1) (qAQ h.2)
open Go.RowKit
theorem qJy {r:Rat} (h:(qAL r).length ≤200):outR r= .ok r:=qAj (qBi h)
theorem qIR {r:Rat} (h:(qAL r).length ≤200):inE (qAE r)= .ok r:=by unfold inE;rw[qAQ (qBi h)]
theorem qGR {a b c:Rat} (ha:(qAL a).length ≤200) (hb:(qAL b).length ≤200) (hc:(qAL c).length ≤200) (h:c≠0):qAc [qAE a,qAE b,qAE c]= .ok [a,b,c]:=by
 have hm:mapE inE [qAE a,qAE b,qAE c]= .ok [a,b,c]:=by
  simp only[mapE,qIR ha,qIR hb,qIR hc]
 unfold qAc;rw[if_neg (by simp),hm]
 have ht:qAZ [a,b,c]=true:=by
  unfold qAZ;simp[h]
 simp only[ht,if_true]
theorem qOv:qEY 6 (-4)= .ok (-3 / 2):=by
 unfold qEY;rw[if_neg (by decide),show((6:Int):Rat) / ((-4:Int):Rat)= -3 / 2 by decide+kernel];exact qJy (by decide+kernel)
theorem qPZ:qAL (-3 / 2)=[45,51,47,50]:=by decide+kernel
theorem qOw:qCx [qAE (-2),qAE 0,qAE 1]= .ok 2:=by
 unfold qCx;rw[qGR (by decide+kernel) (by decide+kernel) (by decide+kernel) (by decide+kernel)];have:cntL (qBU [-2,0,1]) - cntH (qBU [-2,0,1])=2:=by decide+kernel
 simp only[List.length_cons,List.length_nil];rw[this]
 rfl
theorem qPf:gcdP [qAE (-1),qAE 0,qAE 1] [qAE 1,qAE 2,qAE 1]= .ok [1,1]:=by
 unfold gcdP;rw[qGR (by decide+kernel) (by decide+kernel) (by decide+kernel) (by decide+kernel),qGR (by decide+kernel) (by decide+kernel) (by decide+kernel) (by decide+kernel)];have:qAz (qAt (qAG [-1,0,1]) (qAG [1,2,1]))=[1,1]:=by decide+kernel
 simp only;rw[this];unfold qDd;rw[if_neg (by decide)];simp only[mapE,qJy (show(qAL 1).length ≤200 by decide+kernel)]
theorem qND:qBD [qAE (-1),qAE 0,qAE 1] (qAE (-1)) (qAE 1)= .ok 1:=by
 unfold qBD;rw[qGR (by decide+kernel) (by decide+kernel) (by decide+kernel) (by decide+kernel),qAQ (qBi (by decide+kernel)),qAQ (qBi (by decide+kernel))];have h1:cntA (-1) (qBU [-1,0,1]) - cntA 1 (qBU [-1,0,1])=1:=by decide+kernel
 have h2:¬0<rsgn ((-1:Rat) - 1):=by decide+kernel
 simp only[List.length_cons,List.length_nil];rw[if_neg (by decide),if_neg h2,if_neg (by decide),h1]
theorem qGS {g:G2} (h1:(qAL g.1).length ≤200) (h2:(qAL g.2).length ≤200):TSz g 40:=⟨qBi h1,qBi h2⟩
theorem qPg:opG (fun a b=>outG (gmul a b)) (qCr (1,2)) (qCr (3,-1))= .ok (5,5):=by
 unfold opG;rw[qHl (qGS (by decide+kernel) (by decide+kernel)),qHl (qGS (by decide+kernel) (by decide+kernel))];have h:gmul (1,2) (3,-1)=(5,5):=by decide+kernel
 simp only[h];exact qEP (qGS (by decide+kernel) (by decide+kernel))
theorem qOC:qFA 1 2= .ok (3 / 5,4 / 5):=by
 unfold qFA;have h:gdiv (ndG 1 2) (qA8 (ndG 1 2))=(3 / 5,4 / 5):=by decide+kernel
 rw[if_neg (by decide),h];exact qEP (qGS (by decide+kernel) (by decide+kernel))
set_option maxHeartbeats 2000000
set_option linter.unusedSimpArgs false
attribute [local go_sem] Oper.semAt_some
theorem qEF {l n:Nat} {P:Program} {f:FuncId} {args:Array Value} {w:World} {R:Ending→World→Prop} (h:Calls P f args w R):CallsIn (Fence.wide.inRound l) n P f args w R:=callsIn_wide.2 h
def TxK (H b:Nat) (W W':World):Prop:=Below H W W'∧Lib.OthersKept 5 (some b) W W'
theorem TxK.mk {H b:Nat} {W W':World} (h1:Below H W W') (h2:Lib.OthersKept 5 (some b) W W'):TxK H b W W':=⟨h1,h2⟩
theorem TxK.trans {H b:Nat} {A B C:World} (h:TxK H b A B) (k:TxK H b B C):TxK H b A C:=⟨h.1.trans k.1,h.2.trans k.2⟩
theorem TxK.of_le {H b:Nat} {W W':World} (hH:H≤W.heap.size) (h:Le W W'):TxK H b W W':=⟨Below.mono h hH,fun k o hk _ _=>(h.block k (gsl hk)).trans hk⟩
theorem TxK.from {H b:Nat} {W W':World} (h:TxK H b W W') (B:Nat) {cs:Array Value} {t:TypeId} {fz:Nat×Nat} (hb:W.heap[b]? =some (.cells cs t fz)):KeepsFrom B W W':=
 ⟨h.1.size,fun k o _ hk ho=>h.2 k o hk (fun e=>by cases e;rw[hb]at hk;cases hk;cases ho) (fun c f e=>by subst e;cases ho)⟩
theorem TxK.kept {H b:Nat} {W W':World} (h:TxK H b W W') (Bs:List Nat) (hB:∀B∈Bs,B≠b∧∃cs,W.heap[B]? =some (.cells cs 68)):Kept H Bs W W':=
 ⟨h.1,fun B hm=>by
  obtain⟨h1,cs,h2⟩:=hB B hm;rw[h2]
  exact h.2 B _ h2 (fun e=>h1 (Option.some.inj e)) (fun c f e=>by injection e with e1 e2;revert e2;decide)⟩
theorem IsTx.block {B b:Nat} {l:List UInt8} {w:World} (h:IsTx B b l w):∃cs,w.heap[b]? =some (.cells cs 165):=by
 rcases h with⟨-,v,h,-⟩| ⟨-,v,h,-⟩<;>exact⟨_,h⟩
theorem IsTx.grown {B b:Nat} {l:List UInt8} {W W':World} {row:Option Nat} (h:IsTx B b l W) (hg:W.grownBy W' row) (hr:∀r,row=some r→∃o:Obj,W.heap[r]? =some o∧o.isCells=false):IsTx B b l W':=by
 have key:∀p,Lib.BuilderAtF 165 5 B b p (Lib.byteCells l) W→Lib.BuilderAtF 165 5 B b p (Lib.byteCells l) W':=fun p ⟨hB,v,hb,hown,hne⟩=>by
  have hn:some b≠row:=fun e=>by
   obtain⟨o,h1,h2⟩:=hr b e.symm;rw[hb]at h1
   cases h1
   cases h2
  refine⟨hB,v,(hg.block b (gsl hb) hn).trans hb,hown.kept hg ?_,hne⟩
  rcases hown.2 with⟨rfl,-⟩| ⟨g,cap,cur,fz,rfl,-,hh,-⟩
  ·exact .inl rfl
  ·refine .inr fun e=>?_;obtain⟨o,h1,h2⟩:=hr g e.symm;rw[hh]at h1
   cases h1
   cases h2
 exact h.elim (fun x=> .inl (key _ x)) (fun x=> .inr (key _ x))
theorem IsTx.le {B b:Nat} {l:List UInt8} {W W':World} (h:IsTx B b l W) (k:Le W W'):IsTx B b l W':=
 have key:∀p,Lib.BuilderAtF 165 5 B b p (Lib.byteCells l) W→Lib.BuilderAtF 165 5 B b p (Lib.byteCells l) W':=fun p ⟨hB,v,hb,hown,hne⟩=>by
  refine⟨hB,v,(k.block b (gsl hb)).trans hb,?_,hne⟩;refine⟨hown.1,?_⟩
  rcases hown.2 with h1| ⟨g,cap,cur,fz,h1,h2,hh,h3⟩
  ·exact .inl h1
  ·exact .inr ⟨g,cap,cur,fz,h1,h2,(k.block g (gsl hh)).trans hh,h3⟩
 h.elim (fun x=> .inl (key _ x)) (fun x=> .inr (key _ x))
structure TxI (W0:World) (n₀ b:Nat) (Bs:List Nat) (a:Nat) (pre:List (Fin (dg a).length)) (W:World):Prop where
 kept:Kept n₀ Bs W0 W
 size:W0.heap.size≤W.heap.size
 ex:∃acc:List UInt8,IsTx n₀ b acc W∧acc.length≤9*pre.length∧(pre<+:List.finRange (dg a).length →acc=txG ((dg a).drop ((dg a).length - pre.length)))
theorem TxI.from (W0:World) (n₀ b:Nat) (Bs:List Nat) (a N0:Nat) (h:W0.heap.size≤N0) (hn:n₀≤W0.heap.size) (hBs:∀B∈Bs,B<W0.heap.size):OwnFrom N0 (TxI W0 n₀ b Bs a):=by
 rintro s X Y row ⟨h1,hs,acc,h2,h3,h4⟩ hg hrow;exact⟨h1.trans ⟨(Below.refl _ _).grown hg (by omega) fun k e=>by have:=(hrow k e).1;omega,fun B hB=>hg.block B (by have:=hBs B hB;omega) (fun e=>by have:=(hrow _ e.symm).1;have:=hBs B hB;omega)⟩,Nat.le_trans hs hg.size,acc,h2.grown hg (fun r e=>(hrow r e).2),h3,h4⟩
theorem qOx {l acc:List UInt8} {xs:List Nat} {m k:Nat} (hm:m<xs.length) (hk:xs.length - k=m+1) (ha:acc=txG (xs.drop (xs.length - k))) (hl:if m+1<xs.length then l=padK 9 xs[m]else l=Lib.decDigits xs[m]):acc++l=txG (xs.drop m):=by
 rw[hk]at ha;rw[qNW hm,ha]
 by_cases h:m+1<xs.length
 ·rw[if_pos h]at hl ⊢;rw[hl]
 ·rw[if_neg h]at hl ⊢;rw[hl,List.drop_eq_nil_of_le (by omega)]
  rfl
theorem qKv (L:Nat→Prop) (a:Nat) (va:Value) (w:World) (ha:NumL L .u32 w va a) (hw:TxW w) (hma:(dg a).length ≤100000):
  Calls Tryz.prog 101 #[va] w fun e w'=>e= .returned (.string (baL (txN a)))∧Le w w':=by
 have ha0:=ha.arr;obtain⟨Aa,ca,rfl,a1,a2,aN,a3⟩:=ha;unfold maxLen at a2;have hB:=qAO;have⟨ha0',a3',aN',hB',hw'⟩:=hyd5 ha0 a3 aN hB hw;clear hw hB aN a3 ha0;refine(callsIn_wide (n:=5)).1 ?_;refine callsIn_of_wp_marks Tryz.func101 rfl trivial ?_ rfl;simp only[Tryz.ntmps101,List.size_toArray,List.length_cons,List.length_nil,Nat.reduceAdd,Nat.reduceSub,Array.replicate_succ,Array.replicate_zero,List.push_toArray,List.append_toArray,List.nil_append,List.cons_append];refine wpIn_wide.2 ?_;go_wp2_with (go_at_call 69;((with_reducible refine(qBx _ _ _ _).mono ?_);rintro e w' ⟨rfl,rfl⟩));obtain⟨W0,hW0,hsz,hBW,h0,h1,h2⟩:=qEJ w (.cells #[.slice Aa (dg a).length ca] 68) (.cells #[.pointer none,.slice none 0 0] 165) (.cells #[.slice Aa (dg a).length ca] 68);rw[hW0];clear hW0;have hI0:IsTx w.heap.size (w.heap.size+1) [] W0:= .inl ⟨by omega,_,h1,World.ownsRowF_nil _ _ _ _,by simp[Value.ownBlock]⟩;have hyield:=qBV (dg a) _ w W0 (w.heap.size+1+1) w.heap.size ha0'.out (by omega) (by omega) (Nat.le_refl _) hBW (qAC h2);refine(wpIn_wide (n:=5)).1 ?_;refine wpIn_rangeFunc_ownG rfl (by omega) (gf:=122) (lb:=#[.pointer (some ⟨w.heap.size+1+1,0,none⟩)]) rfl trivial (enters_of Tryz.func122 (by kernel_rfl) rfl)
  hyield Kept.trans (Kept.put (by omega) (by simp;omega)) (Below.refl _ _) (fun _=>rfl)
  (TxI W0 w.heap.size (w.heap.size+1) [w.heap.size,w.heap.size+1+1] a) (fun _ _ _=>False) (TxI.from _ _ _ _ _ _ (Nat.le_refl _) (by omega) (by simp;omega)) (fun _ _ _ _ _ hs _ _=>hs)
  ⟨Kept.refl _ _ _,Nat.le_refl _,[],hI0,Nat.zero_le _,fun _=>by rw[List.length_nil,Nat.sub_zero,List.drop_eq_nil_of_le (Nat.le_refl _)];rfl⟩ ?_ ?_ ?_ ?_ ?_
 rotate_left
 ·intro l x W K hK;dsimp only[qDu];gi_wp2;exact hK
 ·rintro l pre x W ⟨k1,k2,acc,g1,g2,g3⟩ hlen2;have hx:=x.2;obtain⟨m,hm⟩:∃m,(dg a).length - 1 - x.1=m:=⟨_,rfl⟩;have hml:m<(dg a).length :=by omega
  have hH0:=(k1.2 w.heap.size (by simp)).trans h0;have hH2:=(k1.2 (w.heap.size+1+1) (by simp)).trans h2;have hH:=qAC hH0;have hHlt:w.heap.size<W.heap.size:=by omega
  obtain⟨g,hg⟩:∃g,(dg a)[m]?.getD 0=g:=⟨_,rfl⟩;have hga:(dg a)[m]=g:=by rw[←hg];simp[hml]
  have hgB:g<B9:=by rw[←hga];exact qBQ _ _ _
  have hg9:g<1000000000:=by rw[←hB'.out];exact hgB
  have hTW:TxW W:=hw'.out.le (hBW.trans k1.1);obtain⟨ln,hln⟩:∃ln,(Lib.decDigits g).length =ln:=⟨_,rfl⟩;have hln9:ln≤9:=by rw[←hln];exact qKc g 8 (by omega)
  have hito:=fun(W:World) (h:TxW W)=>qOe g W hgB h;obtain⟨ds,hds⟩:∃ds,Lib.decDigits g=ds:=⟨_,rfl⟩;rw[hds]at hln hito;have hls:=qBz ds;rw[hln]at hls;obtain⟨cs,hblk⟩:=g1.block
  have hKB:∀B∈[w.heap.size,w.heap.size+1+1],B≠w.heap.size+1∧∃cs,W.heap[B]? =some (.cells cs 68):=fun B hB=>by
   rw[List.mem_cons,List.mem_singleton]at hB
   rcases hB with rfl|rfl
   ·exact⟨by omega,_,hH0⟩
   ·exact⟨by omega,_,hH2⟩
  have hKB2:∀B∈[w.heap.size+1+1],B≠w.heap.size+1∧∃cs,W.heap[B]? =some (.cells cs 68):=fun B hB=>hKB B (List.mem_cons_of_mem _ hB)
  have hend:∀(l2:List UInt8) (W2:World) (aa:Act),TxK w.heap.size (w.heap.size+1) W W2→IsTx w.heap.size (w.heap.size+1) (acc++l2) W2→l2.length≤9→(if m+1<(dg a).length then l2=padK 9 g else l2=ds)→ownPostG W0.heap.size (Kept w.heap.size [w.heap.size+1+1]) (TxI W0 w.heap.size (w.heap.size+1) [w.heap.size,w.heap.size+1+1] a) (fun _ _ _=>False) (pre++[x]) W .normal aa W2:=fun l2 W2 aa kk kI kl kv=>by
   refine⟨kk.from _ hblk,kk.kept _ hKB2,k1.trans (kk.kept _ hKB),Nat.le_trans k2 kk.1.size,acc++l2,kI,by rw[List.length_append,List.length_append,List.length_singleton];omega,fun hp=>?_⟩;obtain⟨p1,p2⟩:=qCt hp;rw[List.length_append,List.length_singleton,show(dg a).length - (pre.length+1)=m by omega];refine qOx hml (by omega) (g3 p1) ?_;rw[hga,hds];exact kv
  have hpl:acc.length≤9*100000:=by omega
  rw[hm,hg];clear hyield k1 g2 g3 h0 h1 h2 hga hI0 hKB hKB2 hblk hH0 hH2 cs
  by_cases hc:m+1<(dg a).length
  ·obtain⟨c,hcc⟩:∃c,9 - ln=c:=⟨_,rfl⟩;have hcI:(9:Int) - (ln:Int)=(c:Int):=by omega
   have hc9:c≤9:=by omega
   have hrep:=fun W=>qM3 c W hc9;obtain⟨rp,hrp⟩:∃rp,List.replicate c (48:UInt8)=rp:=⟨_,rfl⟩;have hrl:rp.length=c:=by rw[←hrp,List.length_replicate]
   have hpad:rp++ds=padK 9 g:=by
    have h:=qK8 9 g (by decide) (by omega);rw[hds,hln,hcc,hrp]at h;exact h
   rw[hrp]at hrep;have jc:(m:Int)+1<((dg a).length :Int):=by omega
   have hlA:acc.length+rp.length≤1000000000:=by omega
   have hlB:(acc++rp).length +ds.length≤1000000000:=by rw[List.length_append];omega
   have hend2:=fun W2 aa k1 k2=>hend (rp++ds) W2 aa k1 k2 (by rw[List.length_append];omega) (by rw[if_pos hc];exact hpad);have⟨hg',hend',hgB',hTW',hln',hcc',hpad',hito'⟩:=hyd8 hg hend hgB hTW hln hcc hpad hito;have⟨hrep',hrp',hrl',hds',hpl',hlA',hlB',hm'⟩:=hyd8 hrep hrp hrl hds hpl hlA hlB hm;have⟨g1',hc',hc9',hend2',hHlt'⟩:=hyd5 g1 hc hc9 hend2 hHlt;clear hHlt hend2 hc9 hc g1 hm hlB hlA hpl hds hrl hrp hrep hito hpad hcc hln hTW hgB hend hg;gi_wp2_with (first | (refine⟨trivial,?_⟩;gi_at_call 145;refine(callsIn_wide.2 (hito'.out _ hTW'.out)).mono ?_;rintro e w' ⟨rfl,hle1⟩;have hI1:=g1'.out.le hle1;have kA:=TxK.of_le (b:=w.heap.size+1) (Nat.le_of_lt hHlt'.out) hle1;have hH1:=(Below.cell hle1 (p:=⟨w.heap.size,0,none⟩) hHlt'.out).trans hH;have hle1':=Lib.hid hle1;have hI1':=Lib.hid hI1;have kA':=Lib.hid kA;clear kA hI1 hle1)| (refine⟨trivial,?_⟩;gi_at_call 147;refine(callsIn_wide.2 (hrep'.out _)).mono ?_;rintro e w' ⟨rfl,hle2⟩;have hI2:=hI1'.out.le hle2;have kB:=kA'.out.trans (TxK.of_le (Nat.le_trans (Nat.le_of_lt hHlt'.out) hle1'.out.size) hle2);have hle2':=Lib.hid hle2;have hI2':=Lib.hid hI2;have kB':=Lib.hid kB;clear kB hI2 hle2)| (refine⟨trivial,?_⟩;gi_at_call 146;have qq:=qGe w.heap.size (w.heap.size+1) acc rp _ hI2'.out hlA'.out (Nat.le_trans (Nat.le_trans (Nat.le_of_lt hHlt'.out) hle1'.out.size) hle2'.out.size);with_reducible refine(qEF qq).mono ?_;clear qq;rintro e w' ⟨⟨v1,rfl⟩,hI3,hb3,ho3⟩;have kC:=kB'.out.trans (TxK.mk hb3 ho3);have hI3':=Lib.hid hI3;have hb3':=Lib.hid hb3;have ho3':=Lib.hid ho3;have kC':=Lib.hid kC;clear kC ho3 hb3 hI3)| (refine⟨trivial,?_⟩;gi_at_call 146;have qq:=qGe w.heap.size (w.heap.size+1) (acc++rp) ds _ hI3'.out hlB'.out (Nat.le_trans (Nat.le_trans (Nat.le_trans (Nat.le_of_lt hHlt'.out) hle1'.out.size) hle2'.out.size) hb3'.out.size);with_reducible refine(qEF qq).mono ?_;clear qq;rintro e w' ⟨⟨v2,rfl⟩,hI4,hb4,ho4⟩;have kD:=kC'.out.trans (TxK.mk hb4 ho4);have hI4':=Lib.hid hI4;have hb4':=Lib.hid hb4;have ho4':=Lib.hid ho4;have kD':=Lib.hid kD;clear kD ho4 hb4 hI4))
   refine hend2'.out _ _ kD'.out ?_;rw[←List.append_assoc];exact hI4'.out
  ·have jc:¬(m:Int)+1<((dg a).length :Int):=by omega
   have hlB:acc.length+ds.length≤1000000000:=by omega
   have hend2:=fun W2 aa k1 k2=>hend ds W2 aa k1 k2 (by omega) (by rw[if_neg hc]);have⟨hg',hend',hgB',hTW',hln',hpl',hito',hds'⟩:=hyd8 hg hend hgB hTW hln hpl hito hds;have⟨hlB',hm',g1',hc',hend2',hHlt'⟩:=hyd6 hlB hm g1 hc hend2 hHlt;clear hHlt hend2 hc g1 hm hlB hds hito hpl hln hTW hgB hend hg;gi_wp2_with (first | (refine⟨trivial,?_⟩;gi_at_call 145;refine(callsIn_wide.2 (hito'.out _ hTW'.out)).mono ?_;rintro e w' ⟨rfl,hle1⟩;have hI1:=g1'.out.le hle1;have kA:=TxK.of_le (b:=w.heap.size+1) (Nat.le_of_lt hHlt'.out) hle1;have hH1:=(Below.cell hle1 (p:=⟨w.heap.size,0,none⟩) hHlt'.out).trans hH;have hle1':=Lib.hid hle1;have hI1':=Lib.hid hI1;have kA':=Lib.hid kA;clear kA hI1 hle1)| (refine⟨trivial,?_⟩;gi_at_call 146;have qq:=qGe w.heap.size (w.heap.size+1) acc ds _ hI1'.out hlB'.out (Nat.le_trans (Nat.le_of_lt hHlt'.out) hle1'.out.size);with_reducible refine(qEF qq).mono ?_;clear qq;rintro e w' ⟨⟨v2,rfl⟩,hI4,hb4,ho4⟩;have kD:=kA'.out.trans (TxK.mk hb4 ho4);have hI4':=Lib.hid hI4;have hb4':=Lib.hid hb4;have ho4':=Lib.hid ho4;have kD':=Lib.hid kD;clear kD ho4 hb4 hI4));exact hend2'.out _ _ kD'.out hI4'.out
 ·rintro D ys W hD rfl ⟨k1,k2,acc,g1,g2,g3⟩ hDK;have co:=qAC ((k1.2 w.heap.size (by simp)).trans h0);have hacc:=g3 (qBg _);rw[List.length_finRange,Nat.sub_self,List.drop_zero]at hacc;have hLe:Below w.heap.size w W:=hBW.trans k1.1;have hHle:w.heap.size≤W.heap.size:=hLe.size;clear hyield k1 h0 h1 h2 g3 hI0
  by_cases hz:a=0
  ·have hl0:(dg a).length =0:=by rw[hz,qA4];rfl
   have hl1:(((dg a).length :Int)==0)=true:=by rw[hl0];rfl
   have hl2:((dg a).length :Int)=0:=by omega
   have htx:txN a=[48]:=by rw[hz];rfl
   clear hz;have⟨hLe',hDK',g1',g2',hacc',htx',hHle'⟩:=hyd7 hLe hDK g1 g2 hacc htx hHle;clear hHle htx hacc g2 g1 hDK hLe;go_wp2;refine qBJ w.heap.size [{target:= .collected D,args:=#[]}] _ ⟨⟨D,rfl,by omega,hDK'.out,by simp⟩,trivial⟩ fun w9 hb hkeep=>?_;refine⟨_,results_tmp rfl _ _ _,?_,hLe'.out.trans hb⟩;rw[htx'.out]
   rfl
  ·have hl0:0<(dg a).length :=dg_length_pos.2 hz;have hl1:(((dg a).length :Int)==0)=false:=beq_eq_false_iff_ne.2 (by omega);have hl2:¬((dg a).length :Int)=0:=by omega
   have hl3:¬(dg a).length =0:=by omega
   have htx:txN a=acc:=by rw[hacc,qJK,qMM a hz]
   have q1:=qM4 w.heap.size (w.heap.size+1) acc W g1 hHle;have⟨hLe',hDK',g2',hacc',htx',hHle',hz',g1'⟩:=hyd8 hLe hDK g2 hacc htx hHle hz g1;have q1':=hyd1 q1;clear q1 g1 hz hHle htx hacc g2 hDK hLe;go_wp2_with (fail);go_at_call 148;refine q1'.out.mono ?_;rintro e W2 ⟨rfl,hb2,ho2⟩;obtain⟨cs,hblk⟩:=g1'.out.block;have hDK2:W2.heap[D]? =some (.deferred (some [])):=ho2 D _ hDK'.out (fun e=>by cases e;rw[hblk]at hDK';cases hDK'.out) (fun c fz e=>by cases e);have hLe2:=hLe'.out.trans hb2;have⟨hb2',ho2',hblk',hDK2',hLe2'⟩:=hyd5 hb2 ho2 hblk hDK2 hLe2;clear hLe2 hDK2 hblk ho2 hb2;go_wp2;refine qBJ w.heap.size [{target:= .collected D,args:=#[]}] _ ⟨⟨D,rfl,by omega,hDK2'.out,by simp⟩,trivial⟩ fun w9 hb hkeep=>?_;refine⟨_,results_tmp rfl _ _ _,?_,hLe2'.out.trans hb⟩;rw[htx'.out]
   rfl
 ·rintro D cc pre W _ _ h _;exact h.elim
end Go.Proofs.YtenjpccpldajoaaGreatDoor

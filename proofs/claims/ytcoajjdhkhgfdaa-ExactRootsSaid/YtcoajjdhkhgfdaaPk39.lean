/- Roots, program side: chain. -/
import Derived.Test.YtcoajjdhkhgfdaaPk38
namespace Go.Proofs.Ytcoajjdhkhgfdaa
set_option maxRecDepth 100000
set_option maxHeartbeats 2000000
open Go.RowKit Go.Shelf
set_option linter.unusedVariables false
set_option linter.unusedSimpArgs false
def negI (l:List Int):List Int:=l.map λc=> -c
theorem qE9 (l:List Int):(negI l).length =l.length:=by unfold negI;rw[List.length_map]
theorem qHV (l:List Int) (j:Nat):(negI l).getD j 0= - l.getD j 0:=by
 unfold negI;rw[List.getD_eq_getElem?_getD,List.getD_eq_getElem?_getD,List.getElem?_map]
 cases l[j]? <;>simp
theorem qIN {l:List Int} (h:TopI l):TopI (negI l):=λh0=>by
 rw[qE9]at h0 ⊢;rw[qHV];have:=h h0;omega
theorem qLl {l:List Int} {M:Nat} (h:∀x∈l,Isz x M):∀x∈negI l,Isz x M:=λx hx=>by
 unfold negI at hx;rw[List.mem_map]at hx;obtain⟨y,hy,rfl⟩:=hx;have:=h y hy;unfold Isz at this ⊢
 rwa[Int.natAbs_neg]
def chF:Nat->List Int->List Int->List (List Int)->List (List Int)
 | 0,_,_,l=>l
 | f+1,a,b,l=>if b.length=0 then l else chF f b (negI (qAY a b)) (l++[b])
def qCZ (a:List Int):List (List Int):=chF a.length a (derI a) [a]
def gcdD (p:List Rat):List Rat:=qAv (qBI (qAG p) (derI (qAG p)))
def qBR (p:List Rat):List (List Int):=qCZ (qAG (qAj p (gcdD p)))
inductive ChRoom:Nat->List Int->List Int->Prop where
 | zero (a b:List Int):ChRoom 0 a b
 | fin (f:Nat) (a b:List Int) (h:b.length=0):ChRoom (f+1) a b
 | step (f:Nat) (a b:List Int) (M:Nat) (ha:∀x∈a,Isz x M) (hb:∀x∈b,Isz x M) (hM:M+(a.length+1 - b.length)*(M+1)<=4000000) (h:ChRoom f b (negI (qAY a b))):ChRoom (f+1) a b
theorem ChRoom.split {f:Nat} {a b:List Int} (h:ChRoom (f+1) a b):b.length=0∨((∃M,(∀x∈a,Isz x M)/\(∀x∈b,Isz x M)/\M+(a.length+1 - b.length)*(M+1)<=4000000)/\ChRoom f b (negI (qAY a b))):=by
 cases h with
 | fin _ _ _ h=>exact .inl h
 | step _ _ _ M ha hb hM h=>exact .inr ⟨⟨M,ha,hb,hM⟩,h⟩
structure ChainOk (p:List Rat):Prop where
 l66:p.length<=66
 pos:p.length≠0
 top:qAD p=true
 sz:∀r∈p,Rsz r 40
 one:∃M,(∀x∈qAG p,Isz x M)/\(∀x∈derI (qAG p),Isz x M)/\Room (qAG p) (derI (qAG p)) M<=4000000
 gsz:∀r∈gcdD p,Rsz r 500000
 dsz:∀s,s<=p.length - (gcdD p).length +1->∀r∈divS p (gcdD p) (p.length - (gcdD p).length) s,Rsz r 500000
 qsz:∃M,1<=M/\70*M<=4000000/\∀r∈qAj p (gcdD p),Rsz r M
 ch:ChRoom (qAG (qAj p (gcdD p))).length (qAG (qAj p (gcdD p))) (derI (qAG (qAj p (gcdD p))))
theorem qEA:∀(f:Nat) (a b:List Int),a.length≠0->b.length<=f->(qAi f a b).length ≠0
 | 0,a,b,h,_=>h
 | f+1,a,b,h,hf=>by
  unfold qAi
  by_cases h0:b.length=0
  ·rw[if_pos h0];exact h
  ·rw[if_neg h0];have:=qBg (a:=a) h0;exact qEA f b _ h0 (by omega)
theorem qEB:∀(f:Nat) (a b:List Int),TopI a->TopI b->TopI (qAi f a b)
 | 0,a,b,h,_=>h
 | f+1,a,b,h,hb=>by
  unfold qAi
  by_cases h0:b.length=0
  ·rw[if_pos h0];exact h
  ·rw[if_neg h0];exact qEB f b _ hb (qBn h)
theorem qG6 {xs:List Rat} {M:Nat} (h66:xs.length<=66) (hs:∀r∈xs,Rsz r M) (hM:1<=M):∀z∈qAG xs,Isz z (M+(1+66*M)):=by
 unfold qAG;refine qE5 λz b=>?_;rw[List.mem_map]at b;obtain⟨r,c,rfl⟩:=b;have d:=qFV hs hM xs.length;have f:=Nat.mul_le_mul_right M h66;exact qFA (hs r c) (by unfold denI;omega)
theorem qIO (p:List Int):(derS p).length =p.length - 1:=by unfold derS;rw[List.length_map,List.length_range]
theorem qC7 (p:List Int):(derI p).length <=p.length - 1:=by
 unfold derI;rw[qFB];have:=qDg (derS p) (derS p).length;rw[qIO]at this ⊢;exact this
theorem qBq (p:List Int):TopI (derI p):=qAc _
theorem qDG (l:List Int):(qAv l).length =l.length:=by unfold qAv;rw[List.length_map]
theorem qFJ {l:List Int} (h:TopI l) (h0:l.length≠0):(qAv l).getD ((qAv l).length - 1) 0=1:=by
 have b:qAC l≠0:=h h0;rw[qDG];unfold qAv;rw[List.getD_eq_getElem?_getD,List.getElem?_map,List.getElem?_eq_getElem (by omega)];show ratC l l[l.length - 1]=1;have e:l[l.length - 1]'(by omega)=qAC l:=by unfold qAC;rw[List.getD_eq_getElem?_getD,List.getElem?_eq_getElem (by omega)];rfl
 rw[e,qIy b];have c:((qAC l:Int):Rat)≠0:=by exact_mod_cast b
 rw[Rat.div_def,Rat.mul_inv_cancel _ c]
theorem qBr {p:List Rat} (h:qAD p=true):(qAG p).length =p.length:=(qCi p).len (qAc _) h
theorem qC8 {p:List Rat} (h:qAD p=true) (h0:p.length≠0):(gcdD p).length ≠0/\(gcdD p).getD ((gcdD p).length - 1) 0≠0:=by
 have d:=qBr h;have b:(qBI (qAG p) (derI (qAG p))).length ≠0:=qEA _ _ _ (by omega) (Nat.le_refl _);have c:TopI (qBI (qAG p) (derI (qAG p))):=qEB _ _ _ (qAc _) (qBq _);refine⟨by unfold gcdD;rw[qDG];exact b,?_⟩;unfold gcdD;rw[qFJ c b]
 decide
structure ChW (w:World) (base:Nat) (vP:Value) (W:World):Prop where
 below:Below base w W
 kp:Kp .u32 w W
 oth:∀b,b<w.heap.size->vP.ownBlock≠some b->W.heap[b]? =w.heap[b]?
theorem ChW.refl (w:World) (base:Nat) (vP:Value):ChW w base vP w:=⟨Below.refl _ _,Kp.refl _,λ_ _ _=>rfl⟩
theorem ChW.le {w W V:World} {base:Nat} {vP:Value} (h:ChW w base vP W) (hw:base<=w.heap.size) (hb:Le W V):ChW w base vP V:=
 ⟨h.below.trans (hb.mono (Nat.le_trans hw h.below.size)),h.kp.trans (Kp.of_le hb),λb h1 h2=>(hb.block b (Nat.lt_of_lt_of_le h1 h.below.size)).trans (h.oth b h1 h2)⟩
theorem ChW.app {w W V:World} {base:Nat} {vP:Value} (h:ChW w base vP W) (hw:base<=w.heap.size) (hb:Below w.heap.size W V) (hk:Kp .u32 W V):ChW w base vP V:=
 ⟨h.below.trans (hb.mono hw),h.kp.trans hk,λb h1 h2=>(hb.block b h1).trans (h.oth b h1 h2)⟩
theorem RowE.stays {α:Type} {K:EK α} (hik:K.ik= .u32) {e:TypeId} {w w':World} {base:Nat} {v:Value} {xs:List α} (h:RowE K e base w v xs) (hk:Kp .u32 w w') (hst:∀(g:Nat) (cur:Array Value),w.heap[g]? =some (Obj.cells cur e)->w'.heap[g]? =w.heap[g]?):RowE K e base w' v xs:=
 h.keep (by rw[hik];exact hk) λg hg=>by
  obtain⟨cur,h8⟩:=h.tag hg;exact hst g cur h8
structure ChSt (L0:List (List Int)) (a b:List Int) (L:List (List Int)) (f:Nat):Prop where
 la:a.length<=66
 lb:b.length<=66
 ta:TopI a
 tb:TopI b
 fuel:b.length<=f
 room:ChRoom f a b
 go:chF f a b L=L0
 len:L.length+b.length<=67
theorem qLm {f:Nat} {a b:List Int} {L:List (List Int)} (h:b.length=0):chF f a b L=L:=by
 cases f with
 | zero=>rfl
 | succ f=>unfold chF;rw[if_pos h]
theorem ChSt.next {L0:List (List Int)} {a b:List Int} {L:List (List Int)} {f:Nat} (h:ChSt L0 a b L f) (h0:b.length≠0):
  ∃g,ChSt L0 b (negI (qAY a b)) (L++[b]) g/\(negI (qAY a b)).length <b.length/\∃M,(∀x∈a,Isz x M)/\(∀x∈b,Isz x M)/\M+(a.length+1 - b.length)*(M+1)<=4000000:=by
 obtain⟨p,k,l,m,n,c,d,o⟩:=h
 cases f with
 | zero=>omega
 | succ g=>
  rcases c.split with c| ⟨hM,c⟩
  ·exact absurd c h0
  ·have i:=qBg (a:=a) h0;have j:=qE9 (qAY a b);refine⟨g,⟨k,by omega,m,qIN (qBn l),by omega,c,?_,by rw[List.length_append,List.length_singleton];omega⟩,by omega,hM⟩;rw[<-d,chF,if_neg h0]
theorem qIP (base:Nat) (v:Value) (p:List Rat) (w:World) (hv:RowE (ratK .u32) 57 base w v p) (hbase:base<=w.heap.size) (hp:ChainOk p):
  Calls Try.prog 17 #[v] w λe w'=>∃v',e= .returned v'/\ChW w base v w'/\RowsE intK 84 75 w.heap.size w' v' (qBR p):=by
 have ag:(Try.prog.info? 75).map (λi=>(i.zero,i.size,i.bytes))=some (some (.slice none 0 0),1,24):=by kernel_rfl
 have cY:(84:TypeId)≠75:=by decide
 obtain⟨M1,m1,m2,m3⟩:=hp.one;obtain⟨M2,q0,q1,q2⟩:=hp.qsz;have a8:=qC8 hp.top hp.pos;have bm:=qBr hp.top;have b8:=hp.l66;have a7:=qC7 (qAG p);have k1:=qLN base v p w hv hp.l66 hp.sz;obtain⟨A,Z⟩:∃l,qAG p=l:=⟨_,rfl⟩;obtain⟨D,aa⟩:∃l,derI A=l:=⟨_,rfl⟩;obtain⟨G,U⟩:∃l,gcdD p=l:=⟨_,rfl⟩;obtain⟨S,ab⟩:∃l,qAj p G=l:=⟨_,rfl⟩;have bD:qAv (qBI A D)=G:=by rw[<-U,<-aa,<-Z];rfl
 have af:=hp.gsz;have ae:=hp.dsz;have a5:=hp.ch;have be:qBR p=qCZ (qAG S):=by unfold qBR;rw[U,ab]
 have ac:S.length<=66:=by
  rw[<-ab];unfold qAj
  split
  ·exact Nat.zero_le _
  ·rw[List.length_map,List.length_range];have:=a8.1;rw[U]at this;omega
 rw[Z]at m1 m2 m3 k1 bm a7;rw[aa]at m2 m3 a7;rw[U]at af ae a5 a8 q2;rw[ab]at a5 q2;have bx:TopI A:=by rw[<-Z];exact qAc _
 have bz:TopI D:=by rw[<-aa];exact qBq _
 obtain⟨s1,s2,s3⟩:=qFC D.length A D M1 bx bz m1 m2 m3 (by omega) (by omega);change TopI (qBI A D)at s1;change ∀x∈qBI A D,_ at s2;change (qBI A D).length <=_ at s3
 have ej:M1<=4000000:=by
  have h1:M1+2<=Room A D M1:=by
   unfold Room;exact Nat.le_trans (Nat.le_mul_of_pos_left _ (Nat.pow_pos (by decide))) (Nat.le_mul_of_pos_left _ (by omega))
  omega
 have bU:=qG6 ac q2 q0;rw[be];obtain⟨v0,b0⟩:∃x,v=x:=⟨_,rfl⟩;rw[b0]at hv k1 ⊢;have bN:=hp.l66;obtain⟨va,vc,rfl⟩:=hv.slice;have⟨cg,ek,cq,dp,dq,c1,aO,ao⟩:=hyd8 hv hp m1 m2 m3 q2 a8 bm;have⟨dB,bH,da,dE,bB,dF,bC,aM⟩:=hyd8 b8 a7 k1 Z aa U ab bD;have⟨bg,bf,bG,dI,ad,ce,cf,du⟩:=hyd8 af ae a5 be ac bx bz s1;have⟨dw,c3,bV,a9,dT,R⟩:=hyd6 s2 s3 bU ag b0 bN;clear bN b0 ag bU s3 s2 s1 bz bx ac be a5 ae af bD ab U aa Z k1 a7 b8 bm a8 q2 m3 m2 m1 hp hv;go_enter Try.func17,Try.ntmps17;go_wp2_with (fail);go_at_call 35;refine da.out.mono ?_;rintro e W1 ⟨v1,rfl,aP,bo⟩;have k2:=qG1 w.heap.size M1 v1 A W1 bo (by have:=ao.out;have:=R.out;omega) cq.out (by omega);rw[bB.out]at k2;have⟨ah,bW,dc⟩:=hyd3 aP bo k2;clear k2 bo aP;go_wp2_with (fail);go_at_call 39;refine dc.out.mono ?_;rintro e W2 ⟨v2,rfl,ai,bp⟩;have k3:=qKV v1 v2 A D M1 W2 ((bW.out.le ai).base (Nat.zero_le _)) (bp.base (Nat.zero_le _)) (by have:=ao.out;have:=R.out;omega) (by have:=bH.out;have:=ao.out;have:=R.out;omega) ce.out cf.out cq.out dp.out dq.out;have⟨aj,dN,dd⟩:=hyd3 ai bp k3;clear k3 bp ai;go_wp2_with (fail);go_at_call 38;refine dd.out.mono ?_;rintro e W3 ⟨v3,rfl,aQ,bq⟩;have k4:=qKW (qBI A D) v3 W3 bq c3.out du.out (λx hx=>(dw.out x hx).up (by decide))
 rw[aM.out]at k4;have⟨ak,dO,df⟩:=hyd3 aQ bq k4;clear k4 bq aQ;go_wp2_with (fail);go_at_call 37;refine df.out.mono ?_;rintro e W4 ⟨v4,rfl,al,aB⟩;have s:Le w W4:=(show Le w W1 from ah.out).trans (aj.out.trans (ak.out.trans al));have em:w.heap.size<=W3.heap.size:=((show Le w W1 from ah.out).trans (aj.out.trans ak.out)).size;have b1:=cg.out.le s;have k5:=qJ2 base 0 _ v4 p G W4 b1 (aB.base (Nat.zero_le _)) (λb h1 h2=>by have e1:=(cg.out.nib h1).2.1;have e2:=(aB.nib h2).1;omega) (Nat.le_trans hbase s.size) (by have:=aO.out.1;omega) aO.out.2 (by have:=R.out;omega) (by have:=c3.out;rw[<-aM.out,qDG];omega) bg.out bf.out;have⟨cS,dP,Q,dU,dh⟩:=hyd5 al aB s b1 k5;clear k5 b1 s aB al;go_wp2_with (fail);go_at_call 36;refine dh.out.mono ?_;rintro e W5 ⟨vq,vr,rfl,bd,bh,bl,aC,-,-⟩;rw[bC.out]at aC
 have ci:ChW w base (.slice va p.length vc) W5:=by
  have h1:=(ChW.refl w base (.slice va p.length vc)).le hbase Q.out;exact⟨h1.below.trans bd,h1.kp.trans bh,λb h2 h3=>(bl b (Nat.lt_of_lt_of_le h2 Q.out.size) h3).trans (h1.oth b h2 h3)⟩
 have k6:=qHQ W4.heap.size M2 vq S W5 aC ad.out c1.out q0 (by omega);have⟨dG,dJ,dM,dQ,cj,di⟩:=hyd6 bd bh bl aC ci k6;clear k6 ci aC bl bh bd;go_wp2_with (fail);go_at_call 35;refine di.out.mono ?_;rintro e W6 ⟨v6,rfl,am,ar⟩;obtain⟨r,X⟩:∃l,qAG S=l:=⟨_,rfl⟩;have Y:r.length<=66:=by rw[<-X];exact Nat.le_trans (qE7 S) ad.out
 have ba:TopI r:=by rw[<-X];exact qAc _
 have a2:=bV.out;have P:=bG.out;rw[X]at ar a2 P;have aK:=cj.out.le hbase am;obtain⟨a6,c6,rfl⟩:=ar.slice;obtain⟨W7,bE,a3,k7⟩:=enew W6 (.cells #[.slice a6 r.length c6] 75);have ck:=aK.le hbase a3;have cZ:w.heap.size<=W6.heap.size:=aK.below.size;have au:=(ar.le a3).base (base':=0) (Nat.zero_le _);have bJ:RowsE intK 84 75 w.heap.size W7 (.slice (some ⟨W6.heap.size,0,none⟩) 1 1) [r]:=RowsE.mk1 k7 cZ au;have k8:=qG1 0 (M2+(1+66*M2)) _ r W7 au (by omega) a2 (by omega);obtain⟨nA,bk⟩:∃n,r.length=n:=⟨_,rfl⟩;have ax:qCZ r=chF r.length r (derI r) [r]:=by unfold qCZ;rfl
 obtain⟨L0,bb⟩:∃l,qCZ r=l:=⟨_,rfl⟩;have aV:ChSt L0 r (derI r) [r] r.length:=⟨Y,by have:=qC7 r;omega,ba,qBq _,by have:=qC7 r;omega,P,by rw[<-bb,ax],by have:=qC7 r;simp;omega⟩;rw[bk]at au k8 bE k7 ⊢;have⟨cT,dR,dW,dH,ep,cm,bX,bK⟩:=hyd8 am ar aK a3 k7 ck au bJ;have⟨dk,b9,cM,dC,dD,cP,bw,dL⟩:=hyd8 k8 X Y ba a2 P aV bk;have⟨cX,bA⟩:=hyd2 ax bb;clear bb ax bk aV P a2 ba Y X k8 bJ au ck k7 a3 aK ar am;go_wp2_with (fail);clear bE;go_at_call 39;refine dk.out.mono ?_;rintro e W8 ⟨v8,rfl,t,bs⟩;have cn:=cm.out.le hbase t;have bL:=bK.out.le t;have aT:=bX.out.le t;have aU:=bs.base (base':=0) (Nat.zero_le _);have⟨cU,dS,co,bM,br,bt⟩:=hyd6 t bs cn bL aT aU;clear aU aT bL cn bs t;go_wp2_with (fail);go_loopw [3,6,7] (λsa sl sb wr=>∃(a b:List Int) (L:List (List Int)) (f:Nat),Hid (ChW w base (.slice va p.length vc) wr)/\Hid (RowE intK 84 0 wr sa a)/\Hid (RowE intK 84 0 wr sb b)/\Hid (RowsE intK 84 75 w.heap.size wr sl L)/\Hid (ChSt L0 a b L f)) (λ_ _ sb _=>qBa sb)
 case atStart=>exact⟨_,_,_,_,co,br,bt,bM,bw⟩
 case round=>
  obtain⟨a,b,L,f,hw,bY,bZ,cc,cd⟩:=hrel;have V:=hw.out;have k:=bY.out;have m:=bZ.out;have o:=cc.out;have d:=cd.out;clear hw bY bZ cc cd;obtain⟨Aa,ca,rfl⟩:=k.slice;obtain⟨Ab,cb,rfl⟩:=m.slice;obtain⟨Al,cl,rfl⟩:=o.slice;obtain⟨na,B⟩:∃n,a.length=n:=⟨_,rfl⟩;obtain⟨nb,y⟩:∃n,b.length=n:=⟨_,rfl⟩;obtain⟨nl,C⟩:∃n,L.length=n:=⟨_,rfl⟩;have bI:=d.len;have cQ:=d.la;have cR:=d.lb;rw[C,y]at bI;rw[B]at cQ;rw[y]at cR
  by_cases h0:nb=0
  ·have e9:L0=L:=by rw[<-d.go];exact qLm (by omega)
   rw[B]at k ⊢;rw[y]at m ⊢;rw[C]at o ⊢;have j1:¬(0:Int)<(nb:Int):=by omega
   subst h0;have⟨aZ,bu,bv,a0,O,cL,aR,an⟩:=hyd8 V k m o d e9 B y;have aS:=hyd1 C;clear C y B e9 d o m k V;go_wp2;go_ret;exact⟨_,rfl,aZ.out,by rw[b9.out,bA.out,cL.out];exact a0.out⟩
  ·have bc:b.length≠0:=by omega
   obtain⟨g,bS,bj,M,ct,cw,cy⟩:=d.next bc;have en:=V.below.size;obtain⟨W9,bF,q,k9⟩:=enew wr (.cells #[.slice Ab b.length cb] 75);have a1:=V.le hbase q;have F:=k.le q;have I:=m.le q;have N:=o.le q;have cp:=a1.below.size;have z:W9.cell? ⟨wr.heap.size,0,none⟩=some (.slice Ab b.length cb):=cell_of_row W9 wr.heap.size 0 _ _ _ k9;rw[B]at F ⊢;rw[y]at I bF k9 z bj ⊢;rw[C]at N ⊢;have j1:(0:Int)<(nb:Int):=by omega
   have j2:0<nb:=by omega
   have⟨aZ,bu,bv,a0,O,aR,an,aS⟩:=hyd8 V k m o d B y C;have⟨bT,bO,cu,cx,cz,cO,er,b2⟩:=hyd8 bS bj ct cw cy q k9 a1;have⟨aD,T,aH,a4,aN⟩:=hyd5 F I N z bc;clear bc z N I F a1 k9 q cy cw ct bj bS C y B d o m k V;go_wp2_with (first | (at_builtin;go_must (refine RowsE.append (K:=intK) rfl cY aH.out rfl _ _ 47 rfl Try.underlying47 a9.out rfl wr.heap.size rfl T.out a4.out (by rw[aS.out];omega) cp ?_)));intro ew cH q1 q2 q3 q4;have aW:=b2.out.app hbase q2 q3;have H:=aD.out.stays rfl q3 q4;have J:=T.out.stays rfl q3 q4;have kl:=qIw _ _ a b M cH H J (by rw[aR.out];omega) (by rw[an.out];omega) aN.out O.out.ta O.out.tb cu.out cx.out cz.out;have⟨ds,c1,es,et,b3,c9,aE,dl⟩:=hyd8 q1 q2 q3 q4 aW H J kl;clear kl J H aW q4 q3 q2 q1;clear bF;go_wp2_with (fail);go_at_call 40;refine dl.out.mono ?_;rintro e cI ⟨dz,rfl,h,ap⟩;have aX:=b3.out.le hbase h;have av:=aE.out.le h;have ay:=ds.out.le h;have bi:(qAY a b).length <=1000000:=by have h1:=qBg (a:=a) aN.out;rw[an.out]at h1;omega
   have km:=qDo (λc=> .ok (-c)) 42 #[] #[] dz (qAY a b) cI ap.seq bi qIK λW _ x _=>qKZ W x;have bP:mapE (λc:Int=>(.ok (-c):Except Int Int)) (qAY a b)= .ok (negI (qAY a b)):=qC6 (g:=λc=> -c) λx _=>rfl;rw[bP]at km;clear bP;have⟨c7,cV,b4,aF,aI,dn,dK⟩:=hyd7 h ap aX av ay km bi;clear bi km ay av aX ap h;go_wp2_with (fail);go_at_call 41;refine dn.out.mono ?_;intro e ed hE;obtain⟨d0,rfl,j,aq⟩:=hE.ok;have aY:=b4.out.le hbase j;have aw:=aF.out.le j;have az:=aI.out.le j;have E:=aq.base (base':=0) (Nat.zero_le _)
   have bQ:qBa d0<nb:=by
    obtain⟨A4,c4,q4⟩:=E.slice;rw[q4];exact bO.out
   have⟨ei,c8,cW,b5,aG,aJ,aA,bR⟩:=hyd8 hE j aq aY aw az E bQ;clear bQ E az aw aY aq j hE;go_wp2;go_roundw
   case rel=>exact⟨b,negI (qAY a b),L++[b],g,b5,aG,aA,aJ,bT⟩
   case measure=>exact bR.out
end Go.Proofs.Ytcoajjdhkhgfdaa

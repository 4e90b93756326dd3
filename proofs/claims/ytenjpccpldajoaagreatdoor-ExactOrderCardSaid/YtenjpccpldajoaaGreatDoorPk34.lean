/- Roots, program side: chain. -/
import Derived.Test.YtenjpccpldajoaaGreatDoorPk33
namespace Go.Proofs.YtenjpccpldajoaaGreatDoor
set_option maxRecDepth 100000
set_option maxHeartbeats 2000000
open Go.RowKit Go.Shelf
set_option linter.unusedVariables false
set_option linter.unusedSimpArgs false
def negI (l:List Int):List Int:=l.map fun c=> -c
theorem qFT (l:List Int):(negI l).length =l.length:=by unfold negI;rw[List.length_map]
theorem qMv (l:List Int) (j:Nat):(negI l).getD j 0= - l.getD j 0:=by
 unfold negI;rw[List.getD_eq_getElem?_getD,List.getD_eq_getElem?_getD,List.getElem?_map]
 cases l[j]? <;>simp
theorem qNv {l:List Int} (h:TopI l):TopI (negI l):=fun h0=>by
 rw[qFT]at h0 ⊢;rw[qMv];have:=h h0;omega
theorem qOo {l:List Int} {M:Nat} (h:∀x∈l,Isz x M):∀x∈negI l,Isz x M:=fun x hx=>by
 unfold negI at hx;rw[List.mem_map]at hx;obtain⟨y,hy,rfl⟩:=hx;have:=h y hy;unfold Isz at this ⊢
 rwa[Int.natAbs_neg]
def chF:Nat→List Int→List Int→List (List Int)→List (List Int)
 | 0,_,_,l=>l
 | f+1,a,b,l=>if b.length=0 then l else chF f b (negI (qA3 a b)) (l++[b])
def qEA (a:List Int):List (List Int):=chF a.length a (derI a) [a]
def gcdD (p:List Rat):List Rat:=qAz (qAt (qAG p) (derI (qAG p)))
def qBU (p:List Rat):List (List Int):=qEA (qAG (qBS p (gcdD p)))
inductive ChRoom:Nat→List Int→List Int→Prop where
 | zero (a b:List Int):ChRoom 0 a b
 | fin (f:Nat) (a b:List Int) (h:b.length=0):ChRoom (f+1) a b
 | step (f:Nat) (a b:List Int) (M:Nat) (ha:∀x∈a,Isz x M) (hb:∀x∈b,Isz x M) (hM:M+(a.length+1 - b.length)*(M+1)≤4000000) (h:ChRoom f b (negI (qA3 a b))):ChRoom (f+1) a b
theorem ChRoom.split {f:Nat} {a b:List Int} (h:ChRoom (f+1) a b):b.length=0∨((∃M,(∀x∈a,Isz x M)∧(∀x∈b,Isz x M)∧M+(a.length+1 - b.length)*(M+1)≤4000000)∧ChRoom f b (negI (qA3 a b))):=by
 cases h with
 | fin _ _ _ h=>exact .inl h
 | step _ _ _ M ha hb hM h=>exact .inr ⟨⟨M,ha,hb,hM⟩,h⟩
structure ChainOk (p:List Rat):Prop where
 l66:p.length≤66
 pos:p.length≠0
 top:qAZ p=true
 sz:∀r∈p,Rsz r 40
 one:∃M,(∀x∈qAG p,Isz x M)∧(∀x∈derI (qAG p),Isz x M)∧Room (qAG p) (derI (qAG p)) M≤4000000
 gsz:∀r∈gcdD p,Rsz r 500000
 dsz:∀s,s≤p.length - (gcdD p).length +1→∀r∈divS p (gcdD p) (p.length - (gcdD p).length) s,Rsz r 500000
 qsz:∃M,1≤M∧70*M≤4000000∧∀r∈qBS p (gcdD p),Rsz r M
 ch:ChRoom (qAG (qBS p (gcdD p))).length (qAG (qBS p (gcdD p))) (derI (qAG (qBS p (gcdD p))))
theorem qEr:∀(f:Nat) (a b:List Int),a.length≠0→b.length≤f→(qAv f a b).length ≠0
 | 0,a,b,h,_=>h
 | f+1,a,b,h,hf=>by
  unfold qAv
  by_cases h0:b.length=0
  ·rw[if_pos h0];exact h
  ·rw[if_neg h0];have:=qCA (a:=a) h0;exact qEr f b _ h0 (by omega)
theorem qEs:∀(f:Nat) (a b:List Int),TopI a→TopI b→TopI (qAv f a b)
 | 0,a,b,h,_=>h
 | f+1,a,b,h,hb=>by
  unfold qAv
  by_cases h0:b.length=0
  ·rw[if_pos h0];exact h
  ·rw[if_neg h0];exact qEs f b _ hb (qCe h)
theorem qHe {xs:List Rat} {M:Nat} (h66:xs.length≤66) (hs:∀r∈xs,Rsz r M) (hM:1≤M):∀z∈qAG xs,Isz z (M+(1+66*M)):=by
 unfold qAG;refine qFP fun z hz=>?_;rw[List.mem_map]at hz;obtain⟨r,hr,rfl⟩:=hz;have h1:=qGL hs hM xs.length;have h2:=Nat.mul_le_mul_right M h66;exact qFn (hs r hr) (by unfold denI;omega)
theorem qJr (p:List Int):(derS p).length =p.length - 1:=by unfold derS;rw[List.length_map,List.length_range]
theorem qDE (p:List Int):(derI p).length ≤p.length - 1:=by
 unfold derI;rw[qFo];have:=qE2 (derS p) (derS p).length;rw[qJr]at this ⊢;exact this
theorem qCf (p:List Int):TopI (derI p):=qAn _
theorem qDq (l:List Int):(qAz l).length =l.length:=by unfold qAz;rw[List.length_map]
theorem qFr {l:List Int} (h:TopI l) (h0:l.length≠0):(qAz l).getD ((qAz l).length - 1) 0=1:=by
 have hz:qAH l≠0:=h h0;rw[qDq];unfold qAz;rw[List.getD_eq_getElem?_getD,List.getElem?_map,List.getElem?_eq_getElem (by omega)];show ratC l l[l.length - 1]=1;have e:l[l.length - 1]'(by omega)=qAH l:=by unfold qAH;rw[List.getD_eq_getElem?_getD,List.getElem?_eq_getElem (by omega)];rfl
 rw[e,qKq hz];have hr:((qAH l:Int):Rat)≠0:=by exact_mod_cast hz
 rw[Rat.div_def,Rat.mul_inv_cancel _ hr]
theorem qCp {p:List Rat} (h:qAZ p=true):(qAG p).length =p.length:=(qDN p).len (qAn _) h
theorem qFU {p:List Rat} (h:qAZ p=true) (h0:p.length≠0):(gcdD p).length ≠0∧(gcdD p).getD ((gcdD p).length - 1) 0≠0:=by
 have hl:=qCp h;have h1:(qAt (qAG p) (derI (qAG p))).length ≠0:=qEr _ _ _ (by omega) (Nat.le_refl _);have h2:TopI (qAt (qAG p) (derI (qAG p))):=qEs _ _ _ (qAn _) (qCf _);refine⟨by unfold gcdD;rw[qDq];exact h1,?_⟩;unfold gcdD;rw[qFr h2 h1]
 decide
structure ChW (w:World) (base:Nat) (vP:Value) (W:World):Prop where
 below:Below base w W
 kp:Kp .u32 w W
 oth:∀b,b<w.heap.size→vP.ownBlock≠some b→W.heap[b]? =w.heap[b]?
theorem ChW.refl (w:World) (base:Nat) (vP:Value):ChW w base vP w:=⟨Below.refl _ _,Kp.refl _,fun _ _ _=>rfl⟩
theorem ChW.le {w W V:World} {base:Nat} {vP:Value} (h:ChW w base vP W) (hw:base≤w.heap.size) (hb:Le W V):ChW w base vP V:=
 ⟨h.below.trans (hb.mono (Nat.le_trans hw h.below.size)),h.kp.trans (Kp.of_le hb),fun b h1 h2=>(hb.block b (Nat.lt_of_lt_of_le h1 h.below.size)).trans (h.oth b h1 h2)⟩
theorem ChW.app {w W V:World} {base:Nat} {vP:Value} (h:ChW w base vP W) (hw:base≤w.heap.size) (hb:Below w.heap.size W V) (hk:Kp .u32 W V):ChW w base vP V:=
 ⟨h.below.trans (hb.mono hw),h.kp.trans hk,fun b h1 h2=>(hb.block b h1).trans (h.oth b h1 h2)⟩
theorem RowE.stays {α:Type} {K:EK α} (hik:K.ik= .u32) {e:TypeId} {w w':World} {base:Nat} {v:Value} {xs:List α} (h:RowE K e base w v xs) (hk:Kp .u32 w w') (hst:∀(g:Nat) (cur:Array Value),w.heap[g]? =some (Obj.cells cur e)→w'.heap[g]? =w.heap[g]?):RowE K e base w' v xs:=
 h.keep (by rw[hik];exact hk) fun g hg=>by
  obtain⟨cur,h8⟩:=h.tag hg;exact hst g cur h8
structure ChSt (L0:List (List Int)) (a b:List Int) (L:List (List Int)) (f:Nat):Prop where
 la:a.length≤66
 lb:b.length≤66
 ta:TopI a
 tb:TopI b
 fuel:b.length≤f
 room:ChRoom f a b
 go:chF f a b L=L0
 len:L.length+b.length≤67
theorem qOp {f:Nat} {a b:List Int} {L:List (List Int)} (h:b.length=0):chF f a b L=L:=by
 cases f with
 | zero=>rfl
 | succ f=>unfold chF;rw[if_pos h]
theorem ChSt.next {L0:List (List Int)} {a b:List Int} {L:List (List Int)} {f:Nat} (h:ChSt L0 a b L f) (h0:b.length≠0):
  ∃g,ChSt L0 b (negI (qA3 a b)) (L++[b]) g∧(negI (qA3 a b)).length <b.length∧∃M,(∀x∈a,Isz x M)∧(∀x∈b,Isz x M)∧M+(a.length+1 - b.length)*(M+1)≤4000000:=by
 obtain⟨la,lb,ta,tb,hf,hr,hg,hl⟩:=h
 cases f with
 | zero=>omega
 | succ g=>
  rcases hr.split with hr| ⟨hM,hr⟩
  ·exact absurd hr h0
  ·have hlt:=qCA (a:=a) h0;have hnl:=qFT (qA3 a b);refine⟨g,⟨lb,by omega,tb,qNv (qCe ta),by omega,hr,?_,by rw[List.length_append,List.length_singleton];omega⟩,by omega,hM⟩;rw[←hg,chF,if_neg h0]
theorem qJs (base:Nat) (v:Value) (p:List Rat) (w:World) (hv:RowE (ratK .u32) 70 base w v p) (hbase:base≤w.heap.size) (hp:ChainOk p):
  Calls Tryz.prog 91 #[v] w fun e w'=>∃v',e= .returned v'∧ChW w base v w'∧RowsE intK 156 132 w.heap.size w' v' (qBU p):=by
 have hinfo:(Tryz.prog.info? 132).map (fun i=>(i.zero,i.size,i.bytes))=some (some (.slice none 0 0),1,24):=by kernel_rfl
 have hte:(156:TypeId)≠132:=by decide
 obtain⟨M1,m1,m2,m3⟩:=hp.one;obtain⟨M2,q0,q1,q2⟩:=hp.qsz;have hgl:=qFU hp.top hp.pos;have hpl:=qCp hp.top;have h66:=hp.l66;have hdl:=qDE (qAG p);have k1:=qGu base v p w hv hp.l66 hp.sz;obtain⟨A,hPA⟩:∃l,qAG p=l:=⟨_,rfl⟩;obtain⟨D,hPD⟩:∃l,derI A=l:=⟨_,rfl⟩;obtain⟨G,hPG⟩:∃l,gcdD p=l:=⟨_,rfl⟩;obtain⟨S,hPS⟩:∃l,qBS p G=l:=⟨_,rfl⟩;have hSG:qAz (qAt A D)=G:=by rw[←hPG,←hPD,←hPA];rfl
 have hgsz:=hp.gsz;have hdsz:=hp.dsz;have hch:=hp.ch;have hcp:qBU p=qEA (qAG S):=by unfold qBU;rw[hPG,hPS]
 have hS66:S.length≤66:=by
  rw[←hPS];unfold qBS
  split
  ·exact Nat.zero_le _
  ·rw[List.length_map,List.length_range];have:=hgl.1;rw[hPG]at this;omega
 rw[hPA]at m1 m2 m3 k1 hpl hdl;rw[hPD]at m2 m3 hdl;rw[hPG]at hgsz hdsz hch hgl q2;rw[hPS]at hch q2;have hta:TopI A:=by rw[←hPA];exact qAn _
 have htd:TopI D:=by rw[←hPD];exact qCf _
 obtain⟨s1,s2,s3⟩:=qE4 D.length A D M1 hta htd m1 m2 m3 (by omega) (by omega);change TopI (qAt A D)at s1;change ∀x∈qAt A D,_ at s2;change (qAt A D).length ≤_ at s3
 have hM1:M1≤4000000:=by
  have h1:M1+2≤Room A D M1:=by
   unfold Room;exact Nat.le_trans (Nat.le_mul_of_pos_left _ (Nat.pow_pos (by decide))) (Nat.le_mul_of_pos_left _ (by omega))
  omega
 have hqz:=qHe hS66 q2 q0;rw[hcp];obtain⟨v0,hv0⟩:∃x,v=x:=⟨_,rfl⟩;rw[hv0]at hv k1 ⊢;have hlp:=hp.l66;obtain⟨va,vc,rfl⟩:=hv.slice;have⟨hv',hp',m1',m2',m3',q2',hgl',hpl'⟩:=hyd8 hv hp m1 m2 m3 q2 hgl hpl;have⟨h66',hdl',k1',hPA',hPD',hPG',hPS',hSG'⟩:=hyd8 h66 hdl k1 hPA hPD hPG hPS hSG;have⟨hgsz',hdsz',hch',hcp',hS66',hta',htd',s1'⟩:=hyd8 hgsz hdsz hch hcp hS66 hta htd s1;have⟨s2',s3',hqz',hinfo',hv0',hlp'⟩:=hyd6 s2 s3 hqz hinfo hv0 hlp;clear hlp hv0 hinfo hqz s3 s2 s1 htd hta hS66 hcp hch hdsz hgsz hSG hPS hPG hPD hPA k1 hdl h66 hpl hgl q2 m3 m2 m1 hp hv;go_enter Tryz.func91,Tryz.ntmps91;go_wp2_with (fail);go_at_call 97;refine k1'.out.mono ?_;rintro e W1 ⟨v1,rfl,hle1,hr1⟩;have k2:=qHa w.heap.size M1 v1 A W1 hr1 (by have:=hpl'.out;have:=hlp'.out;omega) m1'.out (by omega);rw[hPD'.out]at k2;have⟨hle1',hr1',k2'⟩:=hyd3 hle1 hr1 k2;clear k2 hr1 hle1;go_wp2_with (fail);go_at_call 132;refine k2'.out.mono ?_;rintro e W2 ⟨v2,rfl,hle2,hr2⟩;have k3:=qIa v1 v2 A D M1 W2 ((hr1'.out.le hle2).base (Nat.zero_le _)) (hr2.base (Nat.zero_le _)) (by have:=hpl'.out;have:=hlp'.out;omega) (by have:=hdl'.out;have:=hpl'.out;have:=hlp'.out;omega) hta'.out htd'.out m1'.out m2'.out m3'.out;have⟨hle2',hr2',k3'⟩:=hyd3 hle2 hr2 k3;clear k3 hr2 hle2;go_wp2_with (fail);go_at_call 96;refine k3'.out.mono ?_;rintro e W3 ⟨v3,rfl,hle3,hr3⟩;have k4:=qIb (qAt A D) v3 W3 hr3 s3'.out s1'.out (fun x hx=>(s2'.out x hx).up (by decide))
 rw[hSG'.out]at k4;have⟨hle3',hr3',k4'⟩:=hyd3 hle3 hr3 k4;clear k4 hr3 hle3;go_wp2_with (fail);go_at_call 95;refine k4'.out.mono ?_;rintro e W4 ⟨v4,rfl,hle4,hr4⟩;have hle04:Le w W4:=(show Le w W1 from hle1'.out).trans (hle2'.out.trans (hle3'.out.trans hle4));have hz3:w.heap.size≤W3.heap.size:=((show Le w W1 from hle1'.out).trans (hle2'.out.trans hle3'.out)).size;have hv4:=hv'.out.le hle04;have k5:=qL2 base 0 _ v4 p G W4 hv4 (hr4.base (Nat.zero_le _)) (fun b h1 h2=>by have e1:=(hv'.out.nib h1).2.1;have e2:=(hr4.nib h2).1;omega) (Nat.le_trans hbase hle04.size) (by have:=hgl'.out.1;omega) hgl'.out.2 (by have:=hlp'.out;omega) (by have:=s3'.out;rw[←hSG'.out,qDq];omega) hgsz'.out hdsz'.out;have⟨hle4',hr4',hle04',hv4',k5'⟩:=hyd5 hle4 hr4 hle04 hv4 k5;clear k5 hv4 hle04 hr4 hle4;go_wp2_with (fail);go_at_call 74;refine k5'.out.mono ?_;rintro e W5 ⟨vq,vr,rfl,hb5,hk5,ho5,hr5,-,-⟩;rw[hPS'.out]at hr5
 have hw5:ChW w base (.slice va p.length vc) W5:=by
  have h1:=(ChW.refl w base (.slice va p.length vc)).le hbase hle04'.out;exact⟨h1.below.trans hb5,h1.kp.trans hk5,fun b h2 h3=>(ho5 b (Nat.lt_of_lt_of_le h2 hle04'.out.size) h3).trans (h1.oth b h2 h3)⟩
 have k6:=qI7 W4.heap.size M2 vq S W5 hr5 hS66'.out q2'.out q0 (by omega);have⟨hb5',hk5',ho5',hr5',hw5',k6'⟩:=hyd6 hb5 hk5 ho5 hr5 hw5 k6;clear k6 hw5 hr5 ho5 hk5 hb5;go_wp2_with (fail);go_at_call 97;refine k6'.out.mono ?_;rintro e W6 ⟨v6,rfl,hle6,hr6⟩;obtain⟨A0,hA0⟩:∃l,qAG S=l:=⟨_,rfl⟩;have hA66:A0.length≤66:=by rw[←hA0];exact Nat.le_trans (qCS S) hS66'.out
 have hAt:TopI A0:=by rw[←hA0];exact qAn _
 have hAz:=hqz'.out;have hch6:=hch'.out;rw[hA0]at hr6 hAz hch6;have hw6:=hw5'.out.le hbase hle6;obtain⟨a6,c6,rfl⟩:=hr6.slice;obtain⟨W7,hW7,hb7,k7⟩:=enew W6 (.cells #[.slice a6 A0.length c6] 132);have hw7:=hw6.le hbase hb7;have hz6:w.heap.size≤W6.heap.size:=hw6.below.size;have hr7:=(hr6.le hb7).base (base':=0) (Nat.zero_le _);have hl7:RowsE intK 156 132 w.heap.size W7 (.slice (some ⟨W6.heap.size,0,none⟩) 1 1) [A0]:=RowsE.mk1 k7 hz6 hr7;have k8:=qHa 0 (M2+(1+66*M2)) _ A0 W7 hr7 (by omega) hAz (by omega);obtain⟨nA,hnA⟩:∃n,A0.length=n:=⟨_,rfl⟩;have hres:qEA A0=chF A0.length A0 (derI A0) [A0]:=by unfold qEA;rfl
 obtain⟨L0,hL0⟩:∃l,qEA A0=l:=⟨_,rfl⟩;have hst0:ChSt L0 A0 (derI A0) [A0] A0.length:=⟨hA66,by have:=qDE A0;omega,hAt,qCf _,by have:=qDE A0;omega,hch6,by rw[←hL0,hres],by have:=qDE A0;simp;omega⟩;rw[hnA]at hr7 k8 hW7 k7 ⊢;have⟨hle6',hr6',hw6',hb7',k7',hw7',hr7',hl7'⟩:=hyd8 hle6 hr6 hw6 hb7 k7 hw7 hr7 hl7;have⟨k8',hA0',hA66',hAt',hAz',hch6',hst0',hnA'⟩:=hyd8 k8 hA0 hA66 hAt hAz hch6 hst0 hnA;have⟨hres',hL0'⟩:=hyd2 hres hL0;clear hL0 hres hnA hst0 hch6 hAz hAt hA66 hA0 k8 hl7 hr7 hw7 k7 hb7 hw6 hr6 hle6;go_wp2_with (fail);clear hW7;go_at_call 132;refine k8'.out.mono ?_;rintro e W8 ⟨v8,rfl,hle8,hr8⟩;have hw8:=hw7'.out.le hbase hle8;have hl8:=hl7'.out.le hle8;have hr78:=hr7'.out.le hle8;have hr88:=hr8.base (base':=0) (Nat.zero_le _);have⟨hle8',hr8',hw8',hl8',hr78',hr88'⟩:=hyd6 hle8 hr8 hw8 hl8 hr78 hr88;clear hr88 hr78 hl8 hw8 hr8 hle8;go_wp2_with (fail);go_loopw [3,6,7] (fun sa sl sb wr=>∃(a b:List Int) (L:List (List Int)) (f:Nat),Hid (ChW w base (.slice va p.length vc) wr)∧Hid (RowE intK 156 0 wr sa a)∧Hid (RowE intK 156 0 wr sb b)∧Hid (RowsE intK 156 132 w.heap.size wr sl L)∧Hid (ChSt L0 a b L f)) (fun _ _ sb _=>qC3 sb)
 case atStart=>exact⟨_,_,_,_,hw8',hr78',hr88',hl8',hst0'⟩
 case round=>
  obtain⟨a,b,L,f,hw,hra,hrb,hrl,hst⟩:=hrel;have hw9:=hw.out;have hra9:=hra.out;have hrb9:=hrb.out;have hrl9:=hrl.out;have hst9:=hst.out;clear hw hra hrb hrl hst;obtain⟨Aa,ca,rfl⟩:=hra9.slice;obtain⟨Ab,cb,rfl⟩:=hrb9.slice;obtain⟨Al,cl,rfl⟩:=hrl9.slice;obtain⟨na,hna⟩:∃n,a.length=n:=⟨_,rfl⟩;obtain⟨nb,hnb⟩:∃n,b.length=n:=⟨_,rfl⟩;obtain⟨nl,hnl⟩:∃n,L.length=n:=⟨_,rfl⟩;have hl67:=hst9.len;have hla:=hst9.la;have hlb:=hst9.lb;rw[hnl,hnb]at hl67;rw[hna]at hla;rw[hnb]at hlb
  by_cases h0:nb=0
  ·have e9:L0=L:=by rw[←hst9.go];exact qOp (by omega)
   rw[hna]at hra9 ⊢;rw[hnb]at hrb9 ⊢;rw[hnl]at hrl9 ⊢;have j1:¬(0:Int)<(nb:Int):=by omega
   subst h0;have⟨hw9',hra9',hrb9',hrl9',hst9',e9',hna',hnb'⟩:=hyd8 hw9 hra9 hrb9 hrl9 hst9 e9 hna hnb;have hnl':=hyd1 hnl;clear hnl hnb hna e9 hst9 hrl9 hrb9 hra9 hw9;go_wp2;go_ret;exact⟨_,rfl,hw9'.out,by rw[hA0'.out,hL0'.out,e9'.out];exact hrl9'.out⟩
  ·have hb0:b.length≠0:=by omega
   obtain⟨g,hnx,hlt,M,mm1,mm2,mm3⟩:=hst9.next hb0;have hz9:=hw9.below.size;obtain⟨W9,hW9,hb99,k9⟩:=enew wr (.cells #[.slice Ab b.length cb] 132);have hw10:=hw9.le hbase hb99;have hra10:=hra9.le hb99;have hrb10:=hrb9.le hb99;have hrl10:=hrl9.le hb99;have hz10:=hw10.below.size;have hcell:W9.cell? ⟨wr.heap.size,0,none⟩=some (.slice Ab b.length cb):=cell_of_row W9 wr.heap.size 0 _ _ _ k9;rw[hna]at hra10 ⊢;rw[hnb]at hrb10 hW9 k9 hcell hlt ⊢;rw[hnl]at hrl10 ⊢;have j1:(0:Int)<(nb:Int):=by omega
   have j2:0<nb:=by omega
   have⟨hw9',hra9',hrb9',hrl9',hst9',hna',hnb',hnl'⟩:=hyd8 hw9 hra9 hrb9 hrl9 hst9 hna hnb hnl;have⟨hnx',hlt',mm1',mm2',mm3',hb99',k9',hw10'⟩:=hyd8 hnx hlt mm1 mm2 mm3 hb99 k9 hw10;have⟨hra10',hrb10',hrl10',hcell',hb0'⟩:=hyd5 hra10 hrb10 hrl10 hcell hb0;clear hb0 hcell hrl10 hrb10 hra10 hw10 k9 hb99 mm3 mm2 mm1 hlt hnx hnl hnb hna hst9 hrl9 hrb9 hra9 hw9;go_wp2_with (first | (at_builtin;go_must (refine RowsE.append (K:=intK) rfl hte hrl10'.out rfl _ _ 127 rfl Tryz.underlying127 hinfo'.out rfl wr.heap.size rfl hrb10'.out hcell'.out (by rw[hnl'.out];omega) hz10 ?_)));intro v11 W11 q1 q2 q3 q4;have hw11:=hw10'.out.app hbase q2 q3;have hra11:=hra10'.out.stays rfl q3 q4;have hrb11:=hrb10'.out.stays rfl q3 q4;have kl:=qKo _ _ a b M W11 hra11 hrb11 (by rw[hna'.out];omega) (by rw[hnb'.out];omega) hb0'.out hst9'.out.ta hst9'.out.tb mm1'.out mm2'.out mm3'.out;have⟨q1',q2',q3',q4',hw11',hra11',hrb11',kl'⟩:=hyd8 q1 q2 q3 q4 hw11 hra11 hrb11 kl;clear kl hrb11 hra11 hw11 q4 q3 q2 q1;clear hW9;go_wp2_with (fail);go_at_call 133;refine kl'.out.mono ?_;rintro e W12 ⟨v12,rfl,hle12,hr12⟩;have hw12:=hw11'.out.le hbase hle12;have hrb12:=hrb11'.out.le hle12;have hrl12:=q1'.out.le hle12;have hll:(qA3 a b).length ≤1000000:=by have h1:=qCA (a:=a) hb0'.out;rw[hnb'.out]at h1;omega
   have km:=qEc (fun c=> .ok (-c)) 135 #[] #[] v12 (qA3 a b) W12 hr12.seq hll qJn fun W _ x _=>qMu W x;have hme:mapE (fun c:Int=>(.ok (-c):Except Int Int)) (qA3 a b)= .ok (negI (qA3 a b)):=qDD (g:=fun c=> -c) fun x _=>rfl;rw[hme]at km;clear hme;have⟨hle12',hr12',hw12',hrb12',hrl12',km',hll'⟩:=hyd7 hle12 hr12 hw12 hrb12 hrl12 km hll;clear hll km hrl12 hrb12 hw12 hr12 hle12;go_wp2_with (fail);go_at_call 134;refine km'.out.mono ?_;intro e W13 hE;obtain⟨v13,rfl,hle13,hr13⟩:=hE.ok;have hw13:=hw12'.out.le hbase hle13;have hrb13:=hrb12'.out.le hle13;have hrl13:=hrl12'.out.le hle13;have hr133:=hr13.base (base':=0) (Nat.zero_le _)
   have hmz:qC3 v13<nb:=by
    obtain⟨A4,c4,q4⟩:=hr133.slice;rw[q4];exact hlt'.out
   have⟨hE',hle13',hr13',hw13',hrb13',hrl13',hr133',hmz'⟩:=hyd8 hE hle13 hr13 hw13 hrb13 hrl13 hr133 hmz;clear hmz hr133 hrl13 hrb13 hw13 hr13 hle13 hE;go_wp2;go_roundw
   case rel=>exact⟨b,negI (qA3 a b),L++[b],g,hw13',hrb13',hr133',hrl13',hnx'⟩
   case measure=>exact hmz'.out
end Go.Proofs.YtenjpccpldajoaaGreatDoor

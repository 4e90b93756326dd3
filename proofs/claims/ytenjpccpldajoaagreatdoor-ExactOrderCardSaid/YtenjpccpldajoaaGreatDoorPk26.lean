/- Whole polynomials: primitive. (Printed by gen_polyk.py.) -/
import Derived.Test.YtenjpccpldajoaaGreatDoorPk25
namespace Go.Proofs.YtenjpccpldajoaaGreatDoor
set_option maxRecDepth 100000
set_option maxHeartbeats 1000000
open Go.RowKit Go.Shelf
set_option linter.unusedVariables false
set_option linter.unusedSimpArgs false
def qBk (l:List Int):Nat→Nat
 | 0=>0
 | n+1=>if l.getD n 0=0 then qBk l n else n+1
theorem qE2 (l:List Int):∀n,qBk l n≤n
 | 0=>Nat.le_refl _
 | n+1=>by
  unfold qBk
  split
  ·exact Nat.le_succ_of_le (qE2 l n)
  ·exact Nat.le_refl _
theorem qH7 (l:List Int):∀n,qBk l n=0∨l.getD (qBk l n - 1) 0≠0
 | 0=> .inl rfl
 | n+1=>by
  unfold qBk
  split
  ·exact qH7 l n
  ·rename_i h;exact .inr (by simpa using h)
def qAI (l:List Int):List Int:=l.take (qBk l l.length)
def gcdK (l:List Int):Nat→Nat
 | 0=>0
 | k+1=>Nat.gcd (l.getD k 0).natAbs (gcdK l k)
def gcdI (l:List Int):Nat:=gcdK l l.length
def qA7 (l:List Int):List Int:=(qAI l).map fun c=>c.tdiv ((gcdI (qAI l):Nat):Int)
theorem qGr (l:List Int):∀k j,j<k→gcdK l k∣(l.getD j 0).natAbs
 | k+1,j,h=>by
  unfold gcdK
  by_cases e:j=k
  ·subst e;exact Nat.gcd_dvd_left _ _
  ·exact Nat.dvd_trans (Nat.gcd_dvd_right _ _) (qGr l k j (by omega))
theorem qFM {l:List Int} {x:Int} (h:x∈l):gcdI l∣x.natAbs:=by
 obtain⟨j,hj,rfl⟩:=List.getElem_of_mem h;have:=qGr l l.length j hj;rw[List.getD_eq_getElem?_getD,List.getElem?_eq_getElem hj]at this;exact this
theorem qIM {l:List Int} {M:Nat} (h:∀x∈l,Isz x M):∀k,(dg (gcdK l k)).length ≤M
 | 0=>by unfold gcdK;rw[qA4];exact Nat.zero_le _
 | k+1=>by
  have ih:=qIM h k
  have hc:(dg (l.getD k 0).natAbs).length ≤M:=by
   rw[List.getD_eq_getElem?_getD]
   by_cases hk:k<l.length
   ·rw[List.getElem?_eq_getElem hk];exact h _ (List.getElem_mem hk)
   ·rw[List.getElem?_eq_none (by omega)];show(dg 0).length ≤M;rw[qA4];exact Nat.zero_le _
  unfold gcdK
  by_cases h0:(l.getD k 0).natAbs =0
  ·rw[h0,Nat.gcd_zero_left];exact ih
  ·exact Nat.le_trans (qAJ (Nat.le_of_dvd (by omega) (Nat.gcd_dvd_left _ _))) hc
theorem qI6 (l:List Int):(qAI l).length =qBk l l.length:=by
 have:=qE2 l l.length;unfold qAI;rw[List.length_take];omega
theorem qH8 {l:List Int} (h:(qAI l).length ≠0):(qAI l).getD ((qAI l).length - 1) 0≠0:=by
 have h1:=qI6 l;have h2:=qH7 l l.length;rw[h1]at h ⊢
 rcases h2 with h2|h2
 ·exact absurd h2 h
 ·unfold qAI;rw[List.getD_eq_getElem?_getD,List.getElem?_take,if_pos (by omega),←List.getD_eq_getElem?_getD];exact h2
theorem qFm {l:List Int} {x:Int} (h:x∈qAI l):x∈l:=List.mem_of_mem_take h
theorem qEO {l:List Int} {x:Int} (h:x∈qAI l):gcdI (qAI l)≠0:=fun h0=>by
 have hp:0<(qAI l).length :=List.length_pos_of_mem h;have h1:=qH8 (l:=l) (by omega);have h2:=qGr (qAI l) (qAI l).length ((qAI l).length - 1) (by omega);change gcdI (qAI l)∣_ at h2;rw[h0,Nat.zero_dvd]at h2;omega
theorem qDD {α β:Type} {f:α→Except Int β} {g:α→β}:∀{l:List α},(∀x∈l,f x= .ok (g x))→mapE f l= .ok (l.map g)
 | [],_=>rfl
 | a::l,h=>by
  show(match f a with | .error z=>_| .ok y=>match mapE f l with | .error z=>_| .ok ys=>_)=_
  rw[h a (by simp),qDD fun x hx=>h x (by simp[hx])]
  rfl
theorem MapPost.ok {β:Type} {K:EK β} {t:TypeId} {w w':World} {ys:List β} {e:Ending} (h:MapPost K t w (.ok ys) e w'):∃v,e= .returned v∧Le w w'∧RowE K t w.heap.size w' v ys:=by
 obtain⟨h1,⟨ys',v,h2,h3,h4⟩| ⟨z,h2,-⟩⟩:=h
 ·injection h2 with h2;subst h2;exact⟨v,h3,h1,h4⟩
 ·cases h2
theorem qGs (z:Int) (g:Nat):(z.tdiv (g:Int)).natAbs =z.natAbs / g:=by rw[Int.natAbs_tdiv,Int.natAbs_natCast];rfl
theorem qNp {z:Int} {g:Nat} (hg:g≠0) (hd:g∣z.natAbs):decide (z.tdiv (g:Int)<0)=decide (z<0):=by
 obtain⟨q,hq⟩:=hd;have hd2:(g:Int)∣z:=Int.ofNat_dvd_left.2 ⟨q,hq⟩;obtain⟨y,rfl⟩:=hd2;have hgp:(0:Int)<(g:Int):=by omega
 rw[Int.mul_tdiv_cancel_left _ (by omega),decide_eq_decide];constructor
 ·intro h;exact Int.mul_neg_of_pos_of_neg hgp h
 ·intro h;exact Int.neg_of_mul_neg_right h (by omega)
theorem qNq (z:Int) (g Bg:Nat) (tg:TypeId) (v vg:Value) (w:World) (kg:w.heap[Bg]? =some (.cells #[vg] tg)) (hg:NumL (fun _=>True) .u32 w vg g) (hz:IntL w v z) (hsz:Isz z 10000000) (hsg:(dg g).length ≤10000000) (hg0:g≠0) (hgd:g∣z.natAbs):
  Calls Tryz.prog 161 #[v,.pointer (some ⟨Bg,0,none⟩)] w fun e w'=>∃v',e= .returned v'∧Le w w'∧IntL w' v' (z.tdiv (g:Int)):=by
 obtain⟨A1,n1,c1,rfl,hn⟩:=hz;obtain⟨W1,hW1,hb1,k1⟩:=enew w (.cells #[.bool (decide (z<0)),.slice A1 n1 c1] 156);obtain⟨W2,hW2,hb2,k2⟩:=enew W1 (.cells #[.bool false,.slice none 0 0] 156);obtain⟨sg,hsg0⟩:∃s,decide (z<0)=s:=⟨_,rfl⟩;have hsgn:=qNp hg0 hgd;rw[hsg0]at k1 hsgn hW1 ⊢;have hle2:Le w W2:=hb1.trans (hb2.mono hb1.size);have k12:=(hb2.block _ (gsl k1)).trans k1;obtain⟨x0,hx0⟩:∃x,w.heap.size=x:=⟨_,rfl⟩;obtain⟨x1,hx1⟩:∃x,W1.heap.size=x:=⟨_,rfl⟩;rw[hx0]at k12;rw[hx1]at k2;have hB:w.heap.size≤x1:=by have:=hb1.size;omega
 have p0:W2.cell? ⟨x0,0,none⟩=some (.bool sg):=cell_of_row W2 x0 0 _ _ _ k12;have p1:W2.cell? ⟨x0,1,none⟩=some (.slice A1 n1 c1):=cell_of_row W2 x0 1 _ _ _ k12;have kg2:=(hle2.block _ (gsl kg)).trans kg;have q0:W2.cell? ⟨Bg,0,none⟩=some vg:=cell_of_row W2 Bg 0 _ _ _ kg2;have ko:=qBl (fun _=>True) z.natAbs g _ _ W2 (Up.any _) (hn.le hle2) (hg.le hle2) hsz hsg hg0;rw[←qGs]at ko;obtain⟨y,hy⟩:∃y,z.tdiv (g:Int)=y:=⟨_,rfl⟩;rw[hy]at ko hsgn ⊢;have⟨kg',hg',hn',hb1',k1',hb2',k2',hsgn'⟩:=hyd8 kg hg hn hb1 k1 hb2 k2 hsgn;have⟨hle2',k12',kg2',ko',hy',hsg0',hgd'⟩:=hyd7 hle2 k12 kg2 ko hy hsg0 hgd;clear hgd hsg0 hy ko kg2 k12 hle2 hsgn k2 hb2 k1 hb1 hn hg kg;go_enter Tryz.func161,Tryz.ntmps161;go_wp2_with (fail);clear hW1 hW2;go_at_call 65;refine ko'.out.mono ?_;rintro e W4 ⟨v1,v2,rfl,hle4,hn4,-⟩;have k14:=(hle4.block _ (gsl k12'.out)).trans k12'.out;have k24:=(hle4.block _ (gsl k2'.out)).trans k2'.out;have p0:W4.cell? ⟨x0,0,none⟩=some (.bool sg):=cell_of_row W4 x0 0 _ _ _ k14;have r0:W4.cell? ⟨x1,0,none⟩=some (.bool false):=cell_of_row W4 x1 0 _ _ _ k24;have r1:W4.cell? ⟨x1,1,none⟩=some (.slice none 0 0):=cell_of_row W4 x1 1 _ _ _ k24;have⟨f0,f1⟩:=frz2 k24;obtain⟨A4,c4,rfl⟩:=hn4.slice;obtain⟨P,hP⟩:∃P,(dg y.natAbs).length =P:=⟨_,rfl⟩;rw[hP]at hn4 ⊢;have hle04:Le w W4:=(show Le w W2 from hle2'.out).trans hle4;obtain⟨g1,g2,d0,d1⟩:=qCn (b:=sg) (z:=y) hle04 hB k24 (qAV _) (qAK _ _ _) hn4 hsgn'.out.symm
 have⟨hle4',k14',k24',hn4',hP',hle04',g1',g2'⟩:=hyd8 hle4 k14 k24 hn4 hP hle04 g1 g2;have⟨d0',d1'⟩:=hyd2 d0 d1;clear d1 d0 g2 g1 hle04 hP hn4 k24 k14 hle4;go_wp2;have d0:=d0'.out;have d1:=d1'.out;exact bodyPost_ret (v:= .agg #[.bool sg,.slice A4 P c4]) (by simp[results,Tryz.results161,go_sem,d0,d1]) rfl ⟨_,rfl,g1'.out,g2'.out⟩
theorem qG0:qAF Tryz.prog 161:=fun _ _=>by kernel_rfl
theorem qJb (z:Int) (g Bg:Nat) (tg:TypeId) (vg:Value) (w:World) (kg:w.heap[Bg]? =some (.cells #[vg] tg)) (hg:NumL (fun _=>True) .u32 w vg g) (hsz:Isz z 10000000) (hsg:(dg g).length ≤10000000) (hg0:g≠0) (hgd:g∣z.natAbs):
  ElOk Tryz.prog intK intK (fun c=> .ok (c.tdiv (g:Int))) 161 #[] #[.pointer (some ⟨Bg,0,none⟩)] w z:=by
 rintro cs ⟨A,n,c,rfl,hx⟩;refine(qNq z g Bg tg _ vg w kg hg ⟨A,n,c,rfl,hx⟩ hsz hsg hg0 hgd).mono ?_;rintro e W' ⟨v',rfl,hle,A2,n2,c2,rfl,hv⟩;exact⟨hle,.inl ⟨_,_,rfl,rfl,A2,n2,c2,rfl,hv⟩⟩
theorem NumL.zero0 (L:Nat→Prop) (k:IntKind) (w:World):NumL L k w (.slice none 0 0) 0:=by
 unfold NumL;rw[qA4];exact ArrL.nil _ _ _
theorem qE3 (base:Nat) (v:Value) (xs:List Int) (w:World) (hv:RowE intK 156 base w v xs) (hl:xs.length≤1000000) (hs:∀x∈xs,Isz x 10000000):
  Calls Tryz.prog 139 #[v] w fun e w'=>∃v',e= .returned v'∧Le w w'∧RowE intK 156 w.heap.size w' v' (qA7 xs):=by
 obtain⟨A,c,rfl⟩:=hv.slice;obtain⟨n,hn⟩:∃n,xs.length=n:=⟨_,rfl⟩;rw[hn]at hl;have⟨hv',hn',hs'⟩:=hyd3 hv hn hs;clear hs hn hv;rw[hn'.out];rw[hn'.out]at hv';go_enter Tryz.func139,Tryz.ntmps139;go_wp2_with (fail);go_loopw [0] (fun s wr=>∃m:Nat,s= .slice A m c∧m≤n∧Hid (qBk xs n=qBk xs m)∧Hid (Below w.heap.size w wr)) (fun s _=>qC3 s)
 case atStart=>exact⟨n,rfl,Nat.le_refl _,Lib.hid rfl,Lib.hid (Below.refl _ _)⟩
 case round=>
  obtain⟨m,rfl,hm,ht,hb⟩:=hrel
  by_cases h0:m=0
  ·have hb9:=hb.out;have htr:qAI xs=xs.take m:=by unfold qAI;rw[hn'.out,ht.out,h0];rfl
   have hrow9:RowE intK 156 base wr (.slice A m c) (qAI xs):=by
    rw[htr];exact RowE.take (xs:=xs) (m:=m) (A:=A) (c:=c) (by rw[hn'.out];exact hv'.out.le hb9) (by omega)
   have hm9:(qAI xs).length =m:=by rw[htr,List.length_take,hn'.out];omega
   have w1:¬(0:Int)<(m:Int):=by omega
   have w2:¬0<m:=by omega
   clear ht hb;have htr':=hyd1 htr;clear htr;have⟨hb9',hrow9',hm9'⟩:=hyd3 hb9 hrow9 hm9;clear hm9 hrow9 hb9;obtain⟨W1,hW1,hb1,k1⟩:=enew wr (.cells #[.slice none 0 0] 68);obtain⟨bg,hbg⟩:∃b,wr.heap.size=b:=⟨_,rfl⟩;rw[hbg]at k1;have hb01:Below w.heap.size w W1:=hb9'.out.trans (hb1.mono hb9'.out.size);have hrow1:=hrow9'.out.le hb1;have hgl:∀b,(Value.slice A m c).ownBlock =some b→b≠bg:=fun b hb e=>by have:=(hrow9'.out.nib hb).2.1;omega
   have hwg:w.heap.size≤bg:=by have:=hb9'.out.size;omega
   obtain⟨ys,hys⟩:∃ys,qAI xs=ys:=⟨_,rfl⟩;rw[hys]at hrow1 hm9';have hg0:NumL (fun _=>True) .u32 W1 (.slice none 0 0) (gcdK ys 0):=NumL.zero0 _ _ W1;have hszy:∀x∈ys,Isz x 10000000:=fun x hx=>hs'.out x (qFm (by rw[hys];exact hx));have hgz:=qIM hszy;have⟨hb1',k1',hb01',hrow1',hgl',hys',hg0',hszy'⟩:=hyd8 hb1 k1 hb01 hrow1 hgl hys hg0 hszy;have hgz':=hyd1 hgz;clear hgz hszy hg0 hys hgl hrow1 hb01 k1 hb1;go_wp2_with (fail);clear hW1;go_loopw [27] (fun i wr=>∃(k:Nat) (G n0 c0:_),i= .int .i64 (k:Int)∧k≤m∧Hid (Below w.heap.size w wr)∧Hid (RowE intK 156 base wr (.slice A m c) ys)∧Hid (wr.heap[bg]? =some (.cells #[.slice G n0 c0] 68))∧Hid (NumL (fun _=>True) .u32 wr (.slice G n0 c0) (gcdK ys k))) (fun i _=>m - (intOf i).toNat)
   case atStart=>exact⟨0,none,0,0,rfl,Nat.zero_le _,hb01',hrow1',k1',hg0'⟩
   case round=>
    obtain⟨k,G,n0,c0,rfl,hk,hb,hrow,kg,hgw⟩:=hrel
    by_cases hlt:k<m
    ·exact absurd hlt (by omega)
    ·obtain rfl:k=m:=by omega
     have j1:¬(k:Int)<(k:Int):=by omega
     have hgI:gcdK ys k=gcdI ys:=by unfold gcdI;rw[hm9'.out]
     have hgw2:=hgw.out;rw[hgI]at hgw2;have hgy:=hgz'.out k;rw[hgI]at hgy
     have hmp:=qEc (fun c=> .ok (c.tdiv ((gcdI ys:Nat):Int))) 161 #[] #[.pointer (some ⟨bg,0,none⟩)] _ ys wr hrow.out.seq (by rw[hm9'.out];omega) qG0 fun W hW x hx=>
      qJb x (gcdI ys) bg 68 (.slice G n0 c0) W ((hW.block _ (gsl kg.out)).trans kg.out) (hgw2.le hW) (hszy'.out x hx) hgy (by rw[←hys'.out]at hx ⊢;exact qEO hx) (qFM hx)
     have hme:mapE (fun c:Int=>(.ok (c.tdiv ((gcdI ys:Nat):Int)):Except Int Int)) ys= .ok (ys.map fun c:Int=>c.tdiv ((gcdI ys:Nat):Int)):=qDD (g:=fun c:Int=>c.tdiv ((gcdI ys:Nat):Int)) fun x _=>rfl;rw[hme]at hmp;clear hme;have hpr:qA7 xs=ys.map fun c=>c.tdiv ((gcdI ys:Nat):Int):=by unfold qA7;rw[hys'.out]
     have⟨hb',hrow',kg',hgw',hgI',hgw2',hgy',hmp'⟩:=hyd8 hb hrow kg hgw hgI hgw2 hgy hmp;have hpr':=hyd1 hpr;clear hpr hmp hgy hgw2 hgI hgw kg hrow hb;subst h0;go_wp2_with (fail);go_at_call 134;refine hmp'.out.mono ?_;intro e W5 hE;obtain⟨v5,rfl,hle5,hr5⟩:=hE.ok;have hw5:Le w W5:=(show Below w.heap.size w wr from hb'.out.out).trans (hle5.mono hb'.out.out.size);have hr6:=hr5.base (base':=w.heap.size) hb'.out.out.size;rw[←hpr'.out]at hr6;have⟨hE',hle5',hr5',hw5',hr6'⟩:=hyd5 hE hle5 hr5 hw5 hr6;clear hr6 hw5 hr5 hle5 hE;go_wp2;go_ret;exact⟨_,rfl,hw5'.out,hr6'.out⟩
  ·obtain⟨k,rfl⟩:∃k,m=k+1:=⟨m - 1,by omega⟩;have hkx:k<xs.length:=by rw[hn'.out];omega
   obtain⟨g,c',e1,hbg,hgl,hnc,hcm,cs,hrd,hc⟩:=(hv'.out.le hb.out).at hkx;rw[hn'.out]at e1 hnc;unfold maxLen at hcm;injection e1 with e1 e2 e3;subst e1 e3;clear e2;have hgd:xs.getD k 0=xs[k]:=by rw[List.getD_eq_getElem?_getD,List.getElem?_eq_getElem hkx];rfl
   have hts:qBk xs (k+1)=if xs.getD k 0=0 then qBk xs k else k+1:=rfl;rw[hgd]at hts;generalize xs[k]=x at hrd hgd hts;obtain⟨A1,n1,c1,rfl,hxa⟩:=hrd;have q1:wr.cell? ⟨g,k*2+1,none⟩=some (.slice A1 n1 c1):=hc 1 _ rfl;obtain⟨A7,c7,e7⟩:=hxa.slice;injection e7 with e71 e72 e73;have hn1:n1=0↔x=0:=by have:=dg_length_pos (n:=x.natAbs);omega
   clear e71 e73
   by_cases hx:x=0
   ·have hz:=hn1.2 hx;subst hz;rw[if_pos hx,←ht.out]at hts;have⟨hxa',hts',hb',hc',hgd',hn1',e72'⟩:=hyd7 hxa hts hb hc hgd hn1 e72;clear e72 hn1 hgd hc hb hts hxa;clear ht;go_wp2;go_roundw
    case rel=>exact⟨k,by go_num,by omega,hts',hb'.out⟩
    case measure=>simp[qC3]
   ·have hz:¬n1=0:=fun h=>hx (hn1.1 h);have hz2:((n1:Int)==0)=false:=by simpa using hz
    have hz3:¬(n1:Int)=0:=by omega
    rw[if_neg hx,←ht.out]at hts;have hb9:=hb.out;have htr:qAI xs=xs.take (k+1):=by unfold qAI;rw[hn'.out,hts]
    have hrow9:RowE intK 156 base wr (.slice (some ⟨g,0,none⟩) (k+1) c) (qAI xs):=by
     rw[htr];exact RowE.take (xs:=xs) (m:=k+1) (A:=some ⟨g,0,none⟩) (c:=c) (by rw[hn'.out];exact hv'.out.le hb9) (by rw[hn'.out];exact hm)
    have hm9:(qAI xs).length =k+1:=by rw[htr,List.length_take,hn'.out];omega
    clear ht hb;have⟨hxa',hts',hc',hgd',hn1',e72',htr'⟩:=hyd7 hxa hts hc hgd hn1 e72 htr;clear htr e72 hn1 hgd hc hts hxa;obtain⟨m,hm0⟩:∃m,k+1=m:=⟨_,rfl⟩;rw[hm0]at hrow9 hm9 hm ⊢;have w1:(m:Int) - 1=(k:Int):=by omega
    have w2:(0:Int)<(m:Int):=by omega
    have w3:(k:Int)<(m:Int):=by omega
    have w4:(0:Int)≤(k:Int):=by omega
    have w5:0<m:=by omega
    have w6:k<m:=by omega
    have⟨hb9',hrow9',hm9'⟩:=hyd3 hb9 hrow9 hm9;clear hm9 hrow9 hb9;obtain⟨W1,hW1,hb1,k1⟩:=enew wr (.cells #[.slice none 0 0] 68);obtain⟨bg,hbg⟩:∃b,wr.heap.size=b:=⟨_,rfl⟩;rw[hbg]at k1;have hb01:Below w.heap.size w W1:=hb9'.out.trans (hb1.mono hb9'.out.size);have hrow1:=hrow9'.out.le hb1;have hgl:∀b,(Value.slice (some ⟨g,0,none⟩) m c).ownBlock =some b→b≠bg:=fun b hb e=>by have:=(hrow9'.out.nib hb).2.1;omega
    have hwg:w.heap.size≤bg:=by have:=hb9'.out.size;omega
    obtain⟨ys,hys⟩:∃ys,qAI xs=ys:=⟨_,rfl⟩;rw[hys]at hrow1 hm9';have hg0:NumL (fun _=>True) .u32 W1 (.slice none 0 0) (gcdK ys 0):=NumL.zero0 _ _ W1;have hszy:∀x∈ys,Isz x 10000000:=fun x hx=>hs'.out x (qFm (by rw[hys];exact hx));have hgz:=qIM hszy;have⟨hb1',k1',hb01',hrow1',hgl',hys',hg0',hszy'⟩:=hyd8 hb1 k1 hb01 hrow1 hgl hys hg0 hszy;have hgz':=hyd1 hgz;clear hgz hszy hg0 hys hgl hrow1 hb01 k1 hb1;go_wp2_with (fail);clear hW1;go_loopw [27] (fun i wr=>∃(k:Nat) (G n0 c0:_),i= .int .i64 (k:Int)∧k≤m∧Hid (Below w.heap.size w wr)∧Hid (RowE intK 156 base wr (.slice (some ⟨g,0,none⟩) m c) ys)∧Hid (wr.heap[bg]? =some (.cells #[.slice G n0 c0] 68))∧Hid (NumL (fun _=>True) .u32 wr (.slice G n0 c0) (gcdK ys k))) (fun i _=>m - (intOf i).toNat)
    case atStart=>exact⟨0,none,0,0,rfl,Nat.zero_le _,hb01',hrow1',k1',hg0'⟩
    case round=>
     obtain⟨k,G,n0,c0,rfl,hk,hb,hrow,kg,hgw⟩:=hrel
     by_cases hlt:k<m
     ·have hkx:k<ys.length:=by rw[hm9'.out];exact hlt
      obtain⟨gx,cx,e1,-,hgx,-,-,cs,hrd,hc⟩:=hrow.out.at hkx;rw[hm9'.out]at e1;injection e1 with e1 e2 e3;injection e1 with e1;injection e1 with e1;subst e1 e3;clear e2;have hsc:=hszy'.out _ (List.getElem_mem hkx);have hnx:gcdK ys (k+1)=Nat.gcd (ys.getD k 0).natAbs (gcdK ys k):=rfl;have hyd:ys.getD k 0=ys[k]:=by rw[List.getD_eq_getElem?_getD,List.getElem?_eq_getElem hkx];rfl
      rw[hyd]at hnx;generalize ys[k]=z9 at hrd hyd hsc hnx;obtain⟨A6,n6,c6,rfl,hcv⟩:=hrd;obtain⟨s6,hs6⟩:∃s,decide (z9<0)=s:=⟨_,rfl⟩;have x0:=hc 0 _ rfl;rw[hs6]at x0;replace x0:wr.cell? ⟨g,k*2,none⟩=some (.bool s6):=x0;have x1:wr.cell? ⟨g,k*2+1,none⟩=some (.slice A6 n6 c6):=hc 1 _ rfl;obtain⟨W3,hW3,hb3,k3⟩:=enew wr (.cells #[.bool s6,.slice A6 n6 c6] 156);obtain⟨bx,hbx⟩:∃b,wr.heap.size=b:=⟨_,rfl⟩;rw[hbx]at k3;have hb03:Below w.heap.size w W3:=hb.out.trans (hb3.mono hb.out.size);have kg3:=(hb3.block _ (gsl kg.out)).trans kg.out;have hrow3:=hrow.out.le hb3;have t0:W3.cell? ⟨bx,0,none⟩=some (.bool s6):=cell_of_row W3 bx 0 _ _ _ k3;have t1:W3.cell? ⟨bx,1,none⟩=some (.slice A6 n6 c6):=cell_of_row W3 bx 1 _ _ _ k3;have t2:W3.cell? ⟨bg,0,none⟩=some (.slice G n0 c0):=cell_of_row W3 bg 0 _ _ _ kg3;have kc:=qDv (fun _=>True) z9.natAbs (gcdK ys k) _ _ W3 (Up.any _) (hcv.le hb3) (hgw.out.le hb3) hsc (hgz'.out k);rw[←hnx]at kc;have j1:(k:Int)<(m:Int):=by omega
      have j2:(0:Int)≤(k:Int):=by omega
      have⟨hb',hrow',kg',hgw',hc',hsc',hnx',hyd'⟩:=hyd8 hb hrow kg hgw hc hsc hnx hyd;have⟨hcv',hb3',k3',hb03',kg3',hrow3',kc',hs6'⟩:=hyd8 hcv hb3 k3 hb03 kg3 hrow3 kc hs6;clear hs6 kc hrow3 kg3 hb03 k3 hb3 hcv hyd hnx hsc hc hgw kg hrow hb;go_wp2_with (fail);clear hW3;go_at_call 104;refine kc'.out.mono ?_;rintro e W4 ⟨v4,rfl,hle4,hn4⟩;obtain⟨A4,c4,rfl⟩:=hn4.slice;obtain⟨P,hP⟩:∃P,(dg (gcdK ys (k+1))).length =P:=⟨_,rfl⟩;rw[hP]at hn4 ⊢;have hb04:Below w.heap.size w W4:=hb03'.out.trans (hle4.mono hb03'.out.size);have kg4:=(hle4.block _ (gsl kg3'.out)).trans kg3'.out;have hrow4:=hrow3'.out.le hle4;have t2:W4.cell? ⟨bg,0,none⟩=some (.slice G n0 c0):=cell_of_row W4 bg 0 _ _ _ kg4;have f0:=fz0 kg4 0;have nb:=nib1 kg4 (qAK _ _ _);have hk5:Kp .u32 W4 (W4.setCell ⟨bg,0,none⟩ (.slice A4 P c4)):=(Kp.refl W4).set nb (qAK _ _ _);have r1:Below w.heap.size w (W4.setCell ⟨bg,0,none⟩ (.slice A4 P c4)):=Below.setCell hb04 (p:=⟨bg,0,none⟩) hwg _;have r2:RowE intK 156 base (W4.setCell ⟨bg,0,none⟩ (.slice A4 P c4)) (.slice (some ⟨g,0,none⟩) m c) ys:=hrow4.keep hk5 fun b hb=>Below.heap_setCell _ ⟨bg,0,none⟩ _ b (hgl'.out b hb);have r3:(W4.setCell ⟨bg,0,none⟩ (.slice A4 P c4)).heap[bg]? =some (.cells #[.slice A4 P c4] 68):=qEd kg4 0 _;have r4:=hn4.kp hk5;have⟨hle4',hn4',hP',hb04',kg4',hrow4',nb',hk5'⟩:=hyd8 hle4 hn4 hP hb04 kg4 hrow4 nb hk5;have⟨r1',r2',r3',r4'⟩:=hyd4 r1 r2 r3 r4;clear r4 r3 r2 r1 hk5 nb hrow4 kg4 hb04 hP hn4 hle4
      go_wp2;go_roundw
      case rel=>exact⟨k+1,_,_,_,by go_num,by omega,r1',r2',r3',r4'⟩
      case measure=>simp[intOf];omega
     ·obtain rfl:k=m:=by omega
      have j1:¬(k:Int)<(k:Int):=by omega
      have hgI:gcdK ys k=gcdI ys:=by unfold gcdI;rw[hm9'.out]
      have hgw2:=hgw.out;rw[hgI]at hgw2;have hgy:=hgz'.out k;rw[hgI]at hgy
      have hmp:=qEc (fun c=> .ok (c.tdiv ((gcdI ys:Nat):Int))) 161 #[] #[.pointer (some ⟨bg,0,none⟩)] _ ys wr hrow.out.seq (by rw[hm9'.out];omega) qG0 fun W hW x hx=>
       qJb x (gcdI ys) bg 68 (.slice G n0 c0) W ((hW.block _ (gsl kg.out)).trans kg.out) (hgw2.le hW) (hszy'.out x hx) hgy (by rw[←hys'.out]at hx ⊢;exact qEO hx) (qFM hx)
      have hme:mapE (fun c:Int=>(.ok (c.tdiv ((gcdI ys:Nat):Int)):Except Int Int)) ys= .ok (ys.map fun c:Int=>c.tdiv ((gcdI ys:Nat):Int)):=qDD (g:=fun c:Int=>c.tdiv ((gcdI ys:Nat):Int)) fun x _=>rfl;rw[hme]at hmp;clear hme;have hpr:qA7 xs=ys.map fun c=>c.tdiv ((gcdI ys:Nat):Int):=by unfold qA7;rw[hys'.out]
      have⟨hb',hrow',kg',hgw',hgI',hgw2',hgy',hmp'⟩:=hyd8 hb hrow kg hgw hgI hgw2 hgy hmp;have hpr':=hyd1 hpr;clear hpr hmp hgy hgw2 hgI hgw kg hrow hb;go_wp2_with (fail);go_at_call 134;refine hmp'.out.mono ?_;intro e W5 hE;obtain⟨v5,rfl,hle5,hr5⟩:=hE.ok;have hw5:Le w W5:=(show Below w.heap.size w wr from hb'.out.out).trans (hle5.mono hb'.out.out.size);have hr6:=hr5.base (base':=w.heap.size) hb'.out.out.size;rw[←hpr'.out]at hr6;have⟨hE',hle5',hr5',hw5',hr6'⟩:=hyd5 hE hle5 hr5 hw5 hr6;clear hr6 hw5 hr5 hle5 hE;go_wp2;go_ret;exact⟨_,rfl,hw5'.out,hr6'.out⟩
end Go.Proofs.YtenjpccpldajoaaGreatDoor

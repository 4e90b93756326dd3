/- Roots, program side: counter, signAt, Roots. (The region between --@ARM and --@END is printed by gen_roots.py.) -/
import Derived.Test.YtenjpccpldajoaaGreatDoorPk35
namespace Go.Proofs.YtenjpccpldajoaaGreatDoor
set_option maxRecDepth 100000
set_option maxHeartbeats 1000000
open Go.RowKit Go.Shelf
set_option linter.unusedVariables false
set_option linter.unusedSimpArgs false
theorem qHf (A:Option Addr) (n c:Nat) (w:World):Calls Tryz.prog 90 #[.slice A n c] w fun e w'=>e= .returned (.func (.func 131) #[] #[.pointer (some ⟨w.heap.size,0,none⟩)])∧Le w w'∧w'.heap[w.heap.size]? =some (.cells #[.slice A n c] 127):=by
 have hmf:=mkf;obtain⟨W1,hW1,hb1,k1⟩:=enew w (.cells #[.slice A n c] 127);have⟨hb1',k1'⟩:=hyd2 hb1 k1;clear k1 hb1;go_enter Tryz.func90,Tryz.ntmps90;go_wp2;go_ret;exact⟨rfl,hb1'.out,k1'.out⟩
theorem qEz:qAF Tryz.prog 131:=fun _ _=>by kernel_rfl
theorem RowsE.base0 {α:Type} {K:EK α} {e e2:TypeId} {base:Nat} {W:World} {vo:Value} {L:List (List α)} (h:RowsE K e e2 base W vo L):RowsE K e e2 0 W vo L:=by
 obtain⟨xs,h1,h2,h3⟩:=h;exact⟨xs,h1,h2.base (Nat.zero_le _),h3⟩
theorem qMw (W:World) (o1 o2:Obj):∃V,((W.alloc o1).alloc o2).drew =V∧Le W V∧V.heap[W.heap.size]? =some o1∧V.heap[W.heap.size+1]? =some o2:=by
 have h1:=heap_alloc_new W o1;have h2:=heap_alloc_new (W.alloc o1) o2;have hz:(W.alloc o1).heap.size =W.heap.size+1:=by simp
 rw[hz]at h2;have hl:Le W ((W.alloc o1).alloc o2):=(alc1 W o1).trans ((alc1 (W.alloc o1) o2).mono (by rw[hz];omega));exact⟨_,rfl,Below.drew hl,((alc1 (W.alloc o1) o2).block _ (by rw[hz];omega)).trans h1,h2⟩
def MPred.sgn (r:Rat):MPred:=⟨fun v W=>∃B1 B2,v= .func (.func 142) #[] #[.pointer (some ⟨B1,0,none⟩),.pointer (some ⟨B2,0,none⟩)]∧IBox W B1 r.num∧IBox W B2 (r.den:Int),fun _ _ _ hb ⟨B1,B2,e,h1,h2⟩=>⟨B1,B2,e,h1.le hb,h2.le hb⟩⟩
theorem qIy:qAF Tryz.prog 142:=fun _ _=>by kernel_rfl
theorem qIg (r:Rat) (v:Value) (w:World) (h:RatL (fun _=>True) .u32 w v r):Calls Tryz.prog 99 #[v] w fun e w'=>(∃v',e= .returned v'∧(MPred.sgn r).p v' w')∧Le w w':=by
 have hmf:=mkf;obtain⟨An,cn,Ad,cd,rfl,hnn,hdd⟩:=h.form;obtain⟨s,hs⟩:∃s,rneg r=s:=⟨_,rfl⟩;obtain⟨n1,hn1⟩:∃n,(dg (rnum r)).length =n:=⟨_,rfl⟩;obtain⟨n2,hn2⟩:∃n,(dg r.den).length =n:=⟨_,rfl⟩;rw[hn1]at hnn;rw[hn2]at hdd;rw[hs,hn1,hn2];obtain⟨W1,hW1,hb1,k1⟩:=enew w (.cells #[.bool s,.slice An n1 cn,.slice Ad n2 cd] 70);obtain⟨x0,hx0⟩:∃x,w.heap.size=x:=⟨_,rfl⟩;rw[hx0]at k1;have hl1:=gsl k1;have p0:W1.cell? ⟨x0,0,none⟩=some (.bool s):=cell_of_row W1 x0 0 _ _ _ k1;have p1:W1.cell? ⟨x0,1,none⟩=some (.slice An n1 cn):=cell_of_row W1 x0 1 _ _ _ k1;have p2:W1.cell? ⟨x0,2,none⟩=some (.slice Ad n2 cd):=cell_of_row W1 x0 2 _ _ _ k1;have hn9:=hnn.le hb1;have hd9:=hdd.le hb1;have⟨h',hnn',hdd',hs',hn1',hn2',hb1',k1'⟩:=hyd8 h hnn hdd hs hn1 hn2 hb1 k1;have⟨hn9',hd9',p0',p1',p2'⟩:=hyd5 hn9 hd9 p0 p1 p2;clear p2 p1 p0 hd9 hn9 k1 hb1 hn2 hn1 hs hdd hnn h;go_enter Tryz.func99,Tryz.ntmps99;go_wp2_with (fail);clear hW1;have p0:=p0'.out;have p1:=p1'.out;have p2:=p2'.out;go_region
 ·obtain⟨V,hV,hle1,q1,q2⟩:=qMw W1 (.cells #[.bool s,.slice An n1 cn] 156) (.cells #[.bool false,.slice Ad n2 cd] 156);rw[hV];have hle9:Le w V:=hb1'.out.trans (hle1.mono hb1'.out.size);have hsn:decide (r.num<0)=s:=hs'.out;have hB1:IBox V W1.heap.size r.num:=⟨s,An,n1,cn,q1,⟨An,n1,cn,by rw[hsn],hn9'.out.le hle1⟩⟩;have hB2:IBox V (W1.heap.size+1) (r.den:Int):=⟨false,Ad,n2,cd,q2,⟨Ad,n2,cd,by rw[decide_eq_false (by omega)],by rw[Int.natAbs_natCast];exact hd9'.out.le hle1⟩⟩;clear p0 p1 p2 hV;have⟨hle1',q1',q2',hle9',hsn',hB1',hB2'⟩:=hyd7 hle1 q1 q2 hle9 hsn hB1 hB2;clear hB2 hB1 hsn hle9 q2 q1 hle1;go_wp2;go_ret;exact⟨⟨_,rfl,W1.heap.size,W1.heap.size+1,rfl,hB1'.out,hB2'.out⟩,hle9'.out⟩
 ·obtain⟨V,hV,hle1,q1,q2⟩:=qMw W1 (.cells #[.bool false,.slice Ad n2 cd] 156) (.cells #[.bool s,.slice An n1 cn] 156);rw[hV];have hle9:Le w V:=hb1'.out.trans (hle1.mono hb1'.out.size);have hsn:decide (r.num<0)=s:=hs'.out;have hB1:IBox V (W1.heap.size+1) r.num:=⟨s,An,n1,cn,q2,⟨An,n1,cn,by rw[hsn],hn9'.out.le hle1⟩⟩;have hB2:IBox V W1.heap.size (r.den:Int):=⟨false,Ad,n2,cd,q1,⟨Ad,n2,cd,by rw[decide_eq_false (by omega)],by rw[Int.natAbs_natCast];exact hd9'.out.le hle1⟩⟩;clear p0 p1 p2 hV;have⟨hle1',q1',q2',hle9',hsn',hB1',hB2'⟩:=hyd7 hle1 q1 q2 hle9 hsn hB1 hB2;clear hB2 hB1 hsn hle9 q2 q1 hle1;go_wp2;go_ret;exact⟨⟨_,rfl,W1.heap.size+1,W1.heap.size,rfl,hB1'.out,hB2'.out⟩,hle9'.out⟩
theorem qFs {p g:List Rat} (h:g.length≤p.length):(qBS p g).length =p.length - g.length+1:=by
 unfold qBS;rw[if_neg (by omega),List.length_map,List.length_range]
theorem qG3 {p g:List Rat} (hp:qAZ p=true) (hg:g.getD (g.length - 1) 0≠0) (h:g.length≤p.length) (h0:g.length≠0):qAZ (qBS p g)=true:=by
 have hl:=qFs h;have ht:=qE1 hp (by omega);unfold qAZ
 have e:(qBS p g).getD ((qBS p g).length - 1) 0≠0:=by
  rw[hl,Nat.add_sub_cancel];unfold qBS;rw[if_neg (by omega),List.getD_eq_getElem?_getD,List.getElem?_map,List.getElem?_range (by omega)];show divC (divS p g (p.length - g.length) (p.length - g.length - (p.length - g.length))) g (p.length - g.length)≠0;rw[Nat.sub_self];show p.getD (p.length - g.length+g.length - 1) 0 / g.getD (g.length - 1) 0≠0;rw[show p.length - g.length+g.length - 1=p.length - 1 by omega];intro h9;rw[Rat.div_def]at h9
  rcases Rat.mul_eq_zero.1 h9 with h9|h9
  ·exact ht h9
  ·exact hg (by rw[←Rat.inv_inv (g.getD (g.length - 1) 0),h9];exact Rat.inv_zero)
 rw[decide_eq_false e];simp
def ChEl (l:List Int):Prop:=l.length≠0∧l.length≤66∧∀x∈l,Isz x 4000000
theorem qMx:∀(f:Nat) (a b:List Int) (L:List (List Int)),(∀l∈L,ChEl l)→b.length≤66→ChRoom f a b→∀l∈chF f a b L,ChEl l
 | 0,a,b,L,h,_,_=>h
 | f+1,a,b,L,h,hb,hr=>by
  unfold chF
  by_cases h0:b.length=0
  ·rw[if_pos h0];exact h
  ·rw[if_neg h0]
   rcases hr.split with h9| ⟨⟨M,m1,m2,m3⟩,h9⟩
   ·exact absurd h9 h0
   ·have hlt:=qCA (a:=a) h0;refine qMx f b _ _ (fun l hl=>?_) (by rw[qFT];omega) h9;rw[List.mem_append]at hl
    rcases hl with hl|hl
    ·exact h l hl
    ·obtain rfl:l=b:=by simpa using hl
     exact⟨h0,hb,fun x hx=>(m2 x hx).up (by omega)⟩
theorem qKs:∀(f:Nat) (a b:List Int) (L:List (List Int)),(chF f a b L).length ≤L.length+f
 | 0,a,b,L=>Nat.le_refl _
 | f+1,a,b,L=>by
  unfold chF
  split
  ·omega
  ·have:=qKs f b (negI (qA3 a b)) (L++[b]);rw[List.length_append,List.length_singleton]at this;omega
theorem qOr {p:List Rat} (h:qAZ p=true):(gcdD p).length ≤p.length:=by
 unfold gcdD;rw[qDq];have hl:=qCp h;have hd:=qDE (qAG p)
 have key:∀(f:Nat) (a b:List Int),b.length≤a.length→(qAv f a b).length ≤a.length:=by
  intro f
  induction f with
  | zero=>intro a b h;exact Nat.le_refl _
  | succ f ih=>
   intro a b h;unfold qAv
   by_cases h0:b.length=0
   ·rw[if_pos h0];exact Nat.le_refl _
   ·rw[if_neg h0];have h1:=qCA (a:=a) h0;exact Nat.le_trans (ih b _ (by omega)) h
 have:=key (derI (qAG p)).length (qAG p) (derI (qAG p)) (by omega);unfold qAt;omega
theorem qMy {A:List Int} (h0:A.length≠0) (h66:A.length≤66) (hz:∀x∈A,Isz x 4000000) (hr:ChRoom A.length A (derI A)):(∀l∈qEA A,ChEl l)∧(qEA A).length ≤1000:=by
 have hd:=qDE A;obtain⟨n,hn⟩:∃n,A.length=n:=⟨_,rfl⟩;unfold qEA;rw[hn]at hr ⊢;constructor
 ·refine qMx n A (derI A) [A] (fun l hl9=>?_) (by omega) hr
  obtain rfl:l=A:=by simpa using hl9
  exact⟨h0,h66,hz⟩
 ·have:=qKs n A (derI A) [A];rw[List.length_singleton]at this;omega
theorem qIh {p:List Rat} (h:ChainOk p):(∀l∈qBU p,ChEl l)∧(qBU p).length ≤1000:=by
 obtain⟨g1,g2⟩:=qFU h.top h.pos;have g3:=qOr h.top;obtain⟨M,q0,q1,q2⟩:=h.qsz;have hch:=h.ch;have h66:=h.l66;have hp:=h.top;unfold qBU;generalize gcdD p=G at g1 g2 g3 q2 hch ⊢;have hq:=qFs g3;have ht:=qG3 hp g2 g3 g1;generalize qBS p G=S at hq ht q2 hch ⊢;have hl:(qAG S).length =S.length:=qCp ht;have hz:=qHe (by omega) q2 q0;generalize qAG S=A at hl hz hch ⊢;exact qMy (by omega) (by omega) (fun x hx=>(hz x hx).up (by omega)) hch
def cntL (L:List (List Int)):Int:=(chgN (L.map lowS):Int)
def cntH (L:List (List Int)):Int:=(chgN (L.map qDp):Int)
def qGO (r:Rat) (l:List Int):Int:=(qCq l r.num (r.den:Int) l.length).sign
def cntA (r:Rat) (L:List (List Int)):Int:=(chgN (L.map (qGO r)):Int)
noncomputable def qCx (p:List FracA):Except Int Int:=
 match qAc p with
 | .error z=> .error z
 | .ok x=>if x.length=0 then .error 6 else if x.length=1 then .ok 0 else .ok (cntL (qBU x) - cntH (qBU x))
def qEB (p:List FracA):Prop:=∀x,qAc p= .ok x→2≤x.length→ChainOk x
def IntR (w:World) (res:Except Int Int) (e:Ending) (w':World):Prop:=Le w w'∧((∃z,res= .ok z∧e= .returned (.int .i64 z))∨(∃z,res= .error z∧e= .panicked (flt z)))
theorem qGP (ss:List Int):chgN ss≤ss.length:=qIO _ _
theorem qMz:qAF Tryz.prog 92:=fun _ _=>by kernel_rfl
theorem qLf:qAF Tryz.prog 93:=fun _ _=>by kernel_rfl
theorem qJv:qAF Tryz.prog 89:=fun _ _=>by kernel_rfl
theorem qNA (p:List FracA) (vp:Value) (Bp:Nat) (tp:TypeId) (w:World) (kp:w.heap[Bp]? =some (.cells #[vp] tp)) (hp:SeqE inK w vp p) (hroom:qEB p):
  Calls Tryz.prog 89 #[.pointer (some ⟨Bp,0,none⟩)] w (IntR w (qCx p)):=by
 obtain⟨res,hres⟩:∃r,qCx p=r:=⟨_,rfl⟩;rw[hres];have hres0:=hres;unfold qCx at hres0;have c0:w.cell? ⟨Bp,0,none⟩=some vp:=cell_of_row w Bp 0 _ _ _ kp;have kc:=qEe vp p w hp;have hpl:=qEz;unfold qAF at hpl;have⟨kp',hp',kc',hres',hres0',hroom'⟩:=hyd6 kp hp kc hres hres0 hroom;clear hroom hres0 hres kc hp kp;go_enter Tryz.func89,Tryz.ntmps89;go_wp2_with (fail);go_at_call 73;refine kc'.out.mono ?_;rintro e W1 ⟨hle,⟨X,v1,hx,rfl,hrow⟩| ⟨z,hz,rfl⟩⟩
 ·obtain⟨x65,xsz,xt⟩:=qCD hx;have hres1:=hres0'.out;rw[hx]at hres1;dsimp only at hres1;obtain⟨A,c,rfl⟩:=hrow.slice;obtain⟨n,hn⟩:∃n,X.length=n:=⟨_,rfl⟩;rw[hn]at hres1 hrow ⊢
  by_cases h0:n=0
  ·rw[if_pos h0]at hres1;subst h0;have⟨hle',hx',hrow',xsz',xt',hres1',hn'⟩:=hyd7 hle hx hrow xsz xt hres1 hn;clear hn hres1 xt xsz hrow hx hle;go_wp2_with (fail);go_at_call 48;refine(qAY _ _).mono ?_;rintro e W3 ⟨rfl,rfl⟩;go_wp2_with (fail);exact⟨rfl,hle'.out,.inr ⟨6,hres1'.out.symm,rfl⟩⟩
  ·rw[if_neg h0]at hres1;have j1:(0:Int)<(n:Int):=by omega
   have j2:0<n:=by omega
   by_cases h1:n=1
   ·rw[if_pos h1]at hres1;subst h1;have⟨hle',hx',hrow',xsz',xt',hres1',hn'⟩:=hyd7 hle hx hrow xsz xt hres1 hn;clear hn hres1 xt xsz hrow hx hle;go_wp2_with (fail);go_at_call 48;refine(qAX _ _).mono ?_;rintro e W3 ⟨rfl,rfl⟩;go_wp2;go_ret;exact⟨hle'.out,.inl ⟨0,hres1'.out.symm,rfl⟩⟩
   ·rw[if_neg h1]at hres1;have j3:((n:Int)==1)=false:=by simp;omega
    have hch:=hroom'.out X hx (by omega);obtain⟨hel,hll⟩:=qIh hch;have kh:=qJs w.heap.size _ X W1 (by rw[←hn]at hrow;exact hrow) hle.size hch;rw[hn]at kh;obtain⟨L,hL⟩:∃L,qBU X=L:=⟨_,rfl⟩;rw[hL]at kh hel hll hres1;have⟨hle',hx',hrow',xsz',xt',hres1',hn',hch'⟩:=hyd8 hle hx hrow xsz xt hres1 hn hch;have⟨kh',hL',hel'⟩:=hyd3 kh hL hel;clear hel hL kh hch hn hres1 xt xsz hrow hx hle;go_wp2_with (fail);go_at_call 48;refine(qAX _ _).mono ?_;rintro e W3 ⟨rfl,rfl⟩;go_wp2_with (fail);go_at_call 91;refine kh'.out.mono ?_;rintro e W4 ⟨v4,rfl,hw4,hr4⟩;have hle4:Le w W4:=(show Below w.heap.size w W1 from hle'.out).trans hw4.below;obtain⟨LA,lc,rfl⟩:=hr4.slice;have kk:=qHf LA L.length lc W4;have⟨hw4',hle4',hr4',kk'⟩:=hyd4 hw4 hle4 hr4 kk;clear kk hr4 hle4 hw4;go_wp2_with (fail);go_at_call 90;refine kk'.out.mono ?_;rintro e W5 ⟨rfl,hle5,kB⟩;have hr5:=(hr4'.out.le hle5).base0;have hle05:=hle4'.out.trans hle5
    have kl:=qEq 92 #[] lowS L _ W4.heap.size _ W5 kB hr5 hll qMz (fun l hl=>by unfold lowS qDp;have:=qGN (qAH l);split<;>omega) fun W hW l hl A n c hrl=>by
     have h9:=qPW 0 (.slice A n c) l W hrl (hel'.out l hl).1 (Nat.le_trans (hel'.out l hl).2.1 (by decide));simpa using h9
    obtain⟨cL,hcL⟩:∃c,chgN (L.map lowS)=c:=⟨_,rfl⟩;obtain⟨cH,hcH⟩:∃c,chgN (L.map qDp)=c:=⟨_,rfl⟩;have bL:cL≤1000:=by rw[←hcL];exact Nat.le_trans (qGP _) (by rw[List.length_map];exact hll)
    have bH:cH≤1000:=by rw[←hcH];exact Nat.le_trans (qGP _) (by rw[List.length_map];exact hll)
    have hres2:=hres1'.out;unfold cntL cntH at hres2;rw[hcL,hcH]at hres2;rw[hcL]at kl;have⟨hle5',kB',hr5',hle05',kl',hcL',hcH',hres2'⟩:=hyd8 hle5 kB hr5 hle05 kl hcL hcH hres2;clear hres2 hcH hcL kl hle05 hr5 kB hle5;go_wp2_with (fail);go_at_call 131;refine kl'.out.mono ?_;rintro e W6 ⟨rfl,hle6⟩;have kB6:=(hle6.block _ (gsl kB'.out)).trans kB'.out;have hle06:=hle05'.out.trans hle6
    have km:=qEq 93 #[] qDp L _ W4.heap.size _ W6 kB6 (hr5'.out.le hle6) hll qLf (fun l hl=>by unfold qDp;exact qGN (qAH l)) fun W hW l hl A n c hrl=>by
     have h9:=qKp 0 (.slice A n c) l W hrl (hel'.out l hl).1 (Nat.le_trans (hel'.out l hl).2.1 (by decide));simpa using h9
    rw[hcH'.out]at km;have⟨hle6',kB6',hle06',km'⟩:=hyd4 hle6 kB6 hle06 km;clear km hle06 kB6 hle6;go_wp2_with (fail);go_at_call 131;refine km'.out.mono ?_;rintro e W7 ⟨rfl,hle7⟩;have hle07:=hle06'.out.trans hle7;obtain⟨d,hd⟩:∃d,(cL:Int) - (cH:Int)=d:=⟨_,rfl⟩;have hd2:=hres2'.out;rw[hd]at hd2;have⟨hle7',hle07',hd2'⟩:=hyd3 hle7 hle07 hd2;clear hd2 hle07 hle7;go_wp2;go_ret;exact⟨hle07'.out,.inl ⟨d,hd2'.out.symm,by rw[←hd];rfl⟩⟩
 ·have hres1:=hres0'.out;rw[hz]at hres1;have⟨hle',hz',hres1'⟩:=hyd3 hle hz hres1;clear hres1 hz hle;go_wp2_with (fail);exact⟨rfl,hle'.out,.inr ⟨z,hres1'.out.symm,rfl⟩⟩
end Go.Proofs.YtenjpccpldajoaaGreatDoor

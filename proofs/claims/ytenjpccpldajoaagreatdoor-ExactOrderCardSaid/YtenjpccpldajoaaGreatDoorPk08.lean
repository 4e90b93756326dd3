/- exact: numbers of 0 or more: takeOff. -/
import Derived.Test.YtenjpccpldajoaaGreatDoorPk07
namespace Go.Proofs.YtenjpccpldajoaaGreatDoor
set_option maxRecDepth 100000
set_option maxHeartbeats 4000000
open Go.RowKit Go.Shelf
set_option linter.unusedVariables false
set_option linter.unusedSimpArgs false
def qEV (w:World) (V n N c g base j:Nat) (ul us:List Nat) (e:Ending) (w':World):Prop:=
 ∃(q:Nat) (us':List Nat),e= .returned (.int .u32 (q:Int))∧us'.length=n+1∧Low us'∧q<4294967296∧
  (nv us<V*B9→q=nv us / V∧nv us'=nv us%V)∧w.grownBy w' (some g)∧
  w'.ownsRow base 92 1 (.slice (some ⟨g,0,none⟩) N c) N ((qA9 ul j us').map (gv .u32))
def GRel (us vs:List Nat) (m g j c2 bv ov cv:Nat) (hu:us.length=m+3) (hv:vs.length=m+2) (w:World) (a:Act) (W:World):Prop:=
 ∃(t:Array Value) (G l k:Nat),a={tmps:=t,defers:=[]}∧(∃u:Nat→Value,t=#[.slice (some ⟨g,j,none⟩) (m+2+1) c2,.slice (some ⟨bv,ov,none⟩) (m+2) cv,(u 2),(u 3),(u 4),.int .i64 ((m:Nat)+2),(u 6),.int .u64 (G:Nat),.int .u64 (l:Nat),(u 9),(u 10),(u 11),(u 12),(u 13),(u 14),(u 15),(u 16),(u 17),(u 18),(u 19),(u 20),(u 21),(u 22),(u 23),(u 24),(u 25),(u 26),(u 27),(u 28),(u 29),(u 30),(u 31),(u 32),(u 33),(u 34),(u 35),(u 36),(u 37),(u 38),(u 39),(u 40),(u 41),(u 42),(u 43),(u 44),(u 45),(u 46),(u 47),(u 48),(u 49),(u 50),(u 51),(u 52),(u 53),(u 54),(u 55),(u 56),(u 57),(u 58),(u 59),(u 60),(u 61),(u 62),(u 63),(u 64),(u 65),(u 66),(u 67),(u 68),(u 69),(u 70),(u 71),(u 72),(u 73),(u 74),(u 75),(u 76),(u 77),(u 78),(u 79),(u 80),(u 81),(u 82),(u 83),(u 84),(u 85),(u 86),(u 87),(u 88),(u 89),(u 90),(u 91),(u 92),(u 93),(u 94),(u 95),(u 96),(u 97),(u 98),(u 99),(u 100),(u 101),(u 102),(u 103),(u 104),(u 105),(u 106),(u 107),(u 108),(u 109),(u 110),(u 111),(u 112),(u 113),(u 114),(u 115),(u 116),(u 117),(u 118),(u 119),(u 120),(u 121),(u 122),(u 123),(u 124),(u 125),(u 126),(u 127),(u 128),(u 129),(u 130),(u 131),(u 132),(u 133),(u 134),(u 135),(u 136),(u 137),(u 138),(u 139),(u 140),(u 141),(u 142),(u 143),(u 144),(u 145),(u 146),(u 147),(u 148),(u 149),(u 150),(u 151),(u 152),(u 153),(u 154),(u 155),(u 156),(u 157),(u 158),(u 159),(u 160),(u 161)])∧G≤4000000000∧l<1000000000∧Guess us vs m G l hu hv∧W=w.drewN k
def qP7 (us vs ul:List Nat) (G m g j c N c2 bv ov cv base:Nat) (W0:World) (a:Act) (W:World):Prop:=
 ∃(t:Array Value) (k ca bo:Nat) (pre:List Nat),a={tmps:=t,defers:=[]}∧(∃u:Nat→Value,t=#[.slice (some ⟨g,j,none⟩) (m+2+1) c2,.slice (some ⟨bv,ov,none⟩) (m+2) cv,(u 2),(u 3),(u 4),.int .i64 ((m:Nat)+2),(u 6),.int .u64 (G:Nat),(u 8),.int .u64 (bo:Nat),.int .u64 (ca:Nat),(u 11),(u 12),(u 13),(u 14),(u 15),(u 16),(u 17),(u 18),(u 19),(u 20),(u 21),(u 22),(u 23),(u 24),(u 25),(u 26),(u 27),(u 28),(u 29),(u 30),(u 31),(u 32),(u 33),(u 34),(u 35),(u 36),(u 37),(u 38),(u 39),(u 40),(u 41),(u 42),(u 43),(u 44),(u 45),(u 46),(u 47),(u 48),(u 49),(u 50),(u 51),(u 52),(u 53),(u 54),(u 55),(u 56),(u 57),(u 58),(u 59),(u 60),(u 61),(u 62),(u 63),(u 64),(u 65),(u 66),(u 67),(u 68),(u 69),(u 70),(u 71),(u 72),(u 73),(u 74),(u 75),(u 76),(u 77),(u 78),(u 79),(u 80),(u 81),(u 82),.int .i64 ((m:Nat)+2+1),.int .i64 (k:Nat),(u 85),(u 86),(u 87),(u 88),(u 89),(u 90),(u 91),(u 92),(u 93),(u 94),(u 95),(u 96),(u 97),(u 98),(u 99),(u 100),(u 101),(u 102),(u 103),(u 104),(u 105),(u 106),(u 107),(u 108),(u 109),(u 110),(u 111),(u 112),(u 113),(u 114),(u 115),(u 116),(u 117),(u 118),(u 119),(u 120),(u 121),(u 122),(u 123),(u 124),(u 125),(u 126),(u 127),(u 128),(u 129),(u 130),(u 131),(u 132),(u 133),(u 134),(u 135),(u 136),(u 137),(u 138),(u 139),(u 140),(u 141),(u 142),(u 143),(u 144),(u 145),(u 146),(u 147),(u 148),(u 149),(u 150),(u 151),(u 152),(u 153),(u 154),(u 155),(u 156),(u 157),(u 158),(u 159),(u 160),(u 161)])∧k≤m+3∧bo≤1∧Taking us vs G k (ca+bo) pre∧W0.grownBy W (some g)∧
  W.ownsRow base 92 1 (.slice (some ⟨g,0,none⟩) N c) N ((qA9 ul j pre).map (gv .u32))
def qP8 (pre vs ul:List Nat) (G m g j c N c2 bv ov cv base:Nat) (W0:World) (a:Act) (W:World):Prop:=
 ∃(t:Array Value) (k mo:Nat) (pre2:List Nat),a={tmps:=t,defers:=[]}∧(∃u:Nat→Value,t=#[.slice (some ⟨g,j,none⟩) (m+2+1) c2,.slice (some ⟨bv,ov,none⟩) (m+2) cv,(u 2),(u 3),(u 4),.int .i64 ((m:Nat)+2),(u 6),.int .u64 (G:Nat),(u 8),(u 9),(u 10),(u 11),(u 12),(u 13),.int .u64 (mo:Nat),(u 15),(u 16),(u 17),(u 18),(u 19),(u 20),(u 21),(u 22),(u 23),(u 24),(u 25),(u 26),(u 27),(u 28),(u 29),(u 30),(u 31),(u 32),(u 33),(u 34),(u 35),(u 36),(u 37),(u 38),(u 39),(u 40),(u 41),(u 42),(u 43),(u 44),(u 45),(u 46),(u 47),(u 48),(u 49),(u 50),(u 51),(u 52),(u 53),(u 54),(u 55),(u 56),(u 57),(u 58),(u 59),(u 60),(u 61),(u 62),(u 63),(u 64),(u 65),(u 66),(u 67),(u 68),(u 69),(u 70),(u 71),(u 72),(u 73),(u 74),(u 75),(u 76),(u 77),(u 78),(u 79),(u 80),(u 81),(u 82),(u 83),(u 84),(u 85),(u 86),(u 87),(u 88),(u 89),(u 90),(u 91),(u 92),(u 93),(u 94),(u 95),(u 96),(u 97),(u 98),(u 99),(u 100),(u 101),(u 102),(u 103),(u 104),(u 105),(u 106),(u 107),(u 108),(u 109),(u 110),(u 111),(u 112),(u 113),(u 114),(u 115),(u 116),(u 117),(u 118),(u 119),(u 120),(u 121),(u 122),(u 123),(u 124),(u 125),(u 126),(u 127),(u 128),.int .i64 ((m:Nat)+2+1),.int .i64 (k:Nat),(u 131),(u 132),(u 133),(u 134),(u 135),(u 136),(u 137),(u 138),(u 139),(u 140),(u 141),(u 142),(u 143),(u 144),(u 145),(u 146),(u 147),(u 148),(u 149),(u 150),(u 151),(u 152),(u 153),(u 154),(u 155),(u 156),(u 157),(u 158),(u 159),(u 160),(u 161)])∧k≤m+3∧Adding pre vs k mo pre2∧W0.grownBy W (some g)∧
  W.ownsRow base 92 1 (.slice (some ⟨g,0,none⟩) N c) N ((qA9 ul j (pre2++pre.drop k)).map (gv .u32))
theorem qC0 {W0 W:World} {g i:Nat} (h:W0.grownBy W (some g)) (v:Value):W0.grownBy (W.setCell ⟨g,i,none⟩ v) (some g):=
 ⟨h.os,h.tape,h.output,by simpa[World.setCell]using h.size,fun k hk hne=>(Below.heap_setCell _ _ _ _ (fun e=>hne (by rw[e]))).trans (h.block k hk hne)⟩
def qP9:Code→Code
 | .seq a _=>a
 | c=>c
def qPa:Code→Code
 | .seq _ b=>b
 | c=>c
noncomputable def qMQ:Code:=(qBX 8 ((Tryz.f121).body.getD .skip)).getD 0 .skip
noncomputable def tkHead:Code:=qP9 qMQ
noncomputable def tkRest:Code:=qPa qMQ
theorem qMR (w:World) (V m N j g c c2 base bv ov cv G:Nat) (ul us vs:List Nat) (t:Array Value) (W:World) (ht:∃u:Nat→Value,t=#[.slice (some ⟨g,j,none⟩) (m+2+1) c2,.slice (some ⟨bv,ov,none⟩) (m+2) cv,(u 2),(u 3),(u 4),.int .i64 ((m:Nat)+2),(u 6),.int .u64 (G:Nat),(u 8),(u 9),(u 10),(u 11),(u 12),(u 13),(u 14),(u 15),(u 16),(u 17),(u 18),(u 19),(u 20),(u 21),(u 22),(u 23),(u 24),(u 25),(u 26),(u 27),(u 28),(u 29),(u 30),(u 31),(u 32),(u 33),(u 34),(u 35),(u 36),(u 37),(u 38),(u 39),(u 40),(u 41),(u 42),(u 43),(u 44),(u 45),(u 46),(u 47),(u 48),(u 49),(u 50),(u 51),(u 52),(u 53),(u 54),(u 55),(u 56),(u 57),(u 58),(u 59),(u 60),(u 61),(u 62),(u 63),(u 64),(u 65),(u 66),(u 67),(u 68),(u 69),(u 70),(u 71),(u 72),(u 73),(u 74),(u 75),(u 76),(u 77),(u 78),(u 79),(u 80),(u 81),(u 82),(u 83),(u 84),(u 85),(u 86),(u 87),(u 88),(u 89),(u 90),(u 91),(u 92),(u 93),(u 94),(u 95),(u 96),(u 97),(u 98),(u 99),(u 100),(u 101),(u 102),(u 103),(u 104),(u 105),(u 106),(u 107),(u 108),(u 109),(u 110),(u 111),(u 112),(u 113),(u 114),(u 115),(u 116),(u 117),(u 118),(u 119),(u 120),(u 121),(u 122),(u 123),(u 124),(u 125),(u 126),(u 127),(u 128),(u 129),(u 130),(u 131),(u 132),(u 133),(u 134),(u 135),(u 136),(u 137),(u 138),(u 139),(u 140),(u 141),(u 142),(u 143),(u 144),(u 145),(u 146),(u 147),(u 148),(u 149),(u 150),(u 151),(u 152),(u 153),(u 154),(u 155),(u 156),(u 157),(u 158),(u 159),(u 160),(u 161)]) (hnv:nv vs=V)
  (hul:ul.length=N) (hul3:us.length=m+3) (hvl:vs.length=m+2) (lus:Low us) (lvs:Low vs) (husg:∀k (h:k<us.length),ul[j+k]? =some us[k]) (hj:j+m+3≤N) (hN:N≤1000000000) (hc2a:m+3≤c2) (hcv:m+2≤cv)
  (hown:W.ownsRow base 92 1 (.slice (some ⟨g,0,none⟩) N c) N (ul.map (gv .u32))) (hvc:∀k (h:k<vs.length),W.cell? ⟨bv,ov+k,none⟩=some (.int .u32 (vs[k]:Int))) (hbg:bv≠g) (hbv:bv<W.heap.size) (hg:w.grownBy W (some g))
  (hGb:G≤4000000000) (hq:nv us<nv vs*B9→nv us / nv vs≤G∧G≤nv us / nv vs+1):
  ∀(K:Act→World→Prop),(∀a w1,tkRest.wp Tryz.prog (bodyPost Tryz.prog Tryz.f121 (qEV w V (m+2) N c g base j ul us)) a w1→K a w1)→
   tkHead.wp Tryz.prog (Exit.then K (bodyPost Tryz.prog Tryz.f121 (qEV w V (m+2) N c g base j ul us))) {tmps:=t,defers:=[]} W:=by
 intro K hK;obtain⟨u,rfl⟩:=ht
 conv=>arg 2;whnf
 have hB:=qAO;have hgd2:=fun W2 (h:W.grownBy W2 (some g))=>hg.trans h
 have vcell:∀(W2:World) (k y:Nat),W.grownBy W2 (some g)→vs[k]? =some y→W2.cell? ⟨bv,ov+k,none⟩=some (.int .u32 (y:Int)):=fun W2 k y h hy=>by
  obtain⟨h1,h2⟩:=List.getElem?_eq_some_iff.1 hy;rw[←h2];exact(World.cell?_of_block (h.block bv hbv (fun e=>by injection e;omega))).trans (hvc k h1)
 have hTR:=fun pre c=>qFD (us:=us) (vs:=vs) (g:=G) (c:=c) (pre:=pre);have⟨hown',hg',hvc',lus',lvs',husg',hq',hgd2'⟩:=hyd8 hown hg hvc lus lvs husg hq hgd2;have⟨vcell',hnv',hB',hul3',hvl',hTR'⟩:=hyd6 vcell hnv hB hul3 hvl hTR;clear hTR hvl hul3 hB hnv vcell hgd2 hq husg lvs lus hvc hg hown;go_wp2
 conv=>arg 2;whnf
 go_wp2;refine wp_loop (qP7 us vs ul G m g j c N c2 bv ov cv base W) (fun a _=>m+3 - (intOf (a.tmps.getD 84 undef)).toNat) ?start ?round
 case start=>exact⟨_,0,0,0,[],rfl,qBA _ _ (by kernel_rfl),by omega,by omega,Taking.start _ _ _,World.grownBy.refl _ _,by rw[qLG];exact hown'.out⟩
 case round=>
  rintro a W2 ⟨t,k,ca,bo,pre,rfl,⟨u,rfl⟩,hk,hbo,hT,hg2,hown2⟩;have hpl:=hT.len;have hcb:=hT.bound;have hul3:=hul3'.out;have hvl:=hvl'.out;have⟨hg2',hown2'⟩:=hyd2 hg2 hown2;clear hg2 hown2
  by_cases hlt:k<m+3
  ·have hl1:(k:Int)<(m:Int)+2+1:=by omega
   have hl2:k<m+2+1:=by omega
   obtain⟨uk,huk⟩:∃uk,us[k]? =some uk:=⟨_,List.getElem?_eq_getElem (by omega)⟩;have hukB:uk<1000000000:=by rw[←hB'.out];exact lus'.out _ (List.mem_of_getElem? huk)
   have hck:=qBo (f:=gv .u32) hown2'.out (by rw[qFE (by omega)];exact hul) (k:=j+k) (x:=uk) (by
    rw[qLH (by omega) (by omega)];have h1:=husg'.out k (by omega);rw[List.getElem?_eq_getElem (by omega)]at h1 huk
    rw[h1];exact huk)
   unfold gv at hck;have hfr:=hown2'.out.frozenAt (j+k);obtain⟨C,hC⟩:∃C,ca+bo=C:=⟨_,rfl⟩;have hCi:(ca:Int)+(bo:Int)=(C:Int):=by omega
   have hCi2:(bo:Int)+(ca:Int)=(C:Int):=by omega
   rw[hC]at hT hcb;have⟨hC',huk'⟩:=hyd2 hC huk;clear huk hC
   by_cases hlt2:k<m+2
   ·have hl3:(k:Int)<(m:Int)+2:=by omega
    obtain⟨vk,hvk⟩:∃vk,vs[k]? =some vk:=⟨_,List.getElem?_eq_getElem (by omega)⟩;have hvkB:vk<1000000000:=by rw[←hB'.out];exact lvs'.out _ (List.mem_of_getElem? hvk)
    have hckv:=vcell'.out W2 k vk hg2'.out hvk;have hvD:vs.getD k 0=vk:=by simp[hvk]
    obtain⟨Pm,hPm⟩:∃Pm,G*vk=Pm:=⟨_,rfl⟩;have hPmi:(G:Int)*(vk:Int)=(Pm:Int):=by rw[←hPm];simp
    obtain⟨p,hp⟩:∃p,C+Pm=p:=⟨_,rfl⟩;have hpi:(C:Int)+(Pm:Int)=(p:Int):=by omega
    have hPmB:Pm≤4000000000000000000:=by rw[←hPm];exact Nat.mul_le_mul hGb (show vk≤1000000000 by omega)
    obtain⟨hT2,hpB⟩:=hT.next (show k<us.length by omega) lus'.out lvs'.out (by omega) hGb p (by rw[hvD,hPm];exact hp.symm);have hukk:us[k]'(by omega)=uk:=by have:=huk'.out;rw[List.getElem?_eq_getElem (by omega)]at this;simpa using this
    rw[hukk,hB'.out]at hT2;have hp3:((p:Nat):Int) / 1000000000=((p / 1000000000:Nat):Int):=by simp
    obtain⟨q1,hq1⟩:∃q1,p / 1000000000=q1:=⟨_,rfl⟩;obtain⟨r1,hr1⟩:∃r1,p%1000000000=r1:=⟨_,rfl⟩;have hq1i:(p:Int) / 1000000000=(q1:Int):=by omega
    have hr1i:(p:Int)%1000000000=(r1:Int):=by omega
    have hr1b:r1<1000000000:=by omega
    obtain⟨d,hd⟩:∃d,uk+1000000000 - r1=d:=⟨_,rfl⟩;have hdi:(uk:Int)+1000000000 - (r1:Int)=(d:Int):=by omega
    obtain⟨e1,he1⟩:∃e1,d%1000000000=e1:=⟨_,rfl⟩;have he1i:(d:Int)%1000000000=(e1:Int):=by omega
    have he1b:e1<1000000000:=by omega
    have hdb:d≤2000000000:=by omega
    rw[hq1,hr1,hd,he1]at hT2;clear hp3
    have hrow:∀W2:World,W2.ownsRow base 92 1 (.slice (some ⟨g,0,none⟩) N c) N ((qA9 ul j pre).map (gv .u32))→(W2.setCell ⟨g,j+k,none⟩ (.int .u32 (e1:Int))).ownsRow base 92 1 (.slice (some ⟨g,0,none⟩) N c) N ((qA9 ul j (pre++[e1])).map (gv .u32)):=fun W2 h=>by
     have h2:=qC6 (f:=gv .u32) h (j+k) e1;have h3:=qHE (ul:=ul) (pre:=pre) (j:=j) (by omega) e1;rw[hpl]at h3;rw[h3]at h2;exact h2
    have⟨hvk',hvD',hPm',hp',hq1',hr1',hd',he1'⟩:=hyd8 hvk hvD hPm hp hq1 hr1 hd he1;have⟨hrow',hT',hukk'⟩:=hyd3 hrow hT hukk;clear hukk hT hrow he1 hd hr1 hq1 hp hPm hvD hvk
    by_cases hD:d<1000000000
    ·rw[if_pos hD]at hT2;have hD2:decide (d<1000000000)=true:=decide_eq_true hD;have hD3:(d:Int)<1000000000:=by omega
     have⟨hT2',hD2'⟩:=hyd2 hT2 hD2;clear hD2 hT2;go_wp2;exact⟨⟨_,k+1,q1,1,pre++[e1],rfl,qBA _ _ (by kernel_rfl),by omega,by omega,by simpa using hT2'.out,qC0 hg2'.out _,hrow'.out _ hown2'.out⟩,by simp[intOf];omega⟩
    ·rw[if_neg hD]at hT2;have hD2:decide (d<1000000000)=false:=decide_eq_false hD;have hD3:¬(d:Int)<1000000000:=by omega
     have⟨hT2',hD2'⟩:=hyd2 hT2 hD2;clear hD2 hT2;go_wp2;exact⟨⟨_,k+1,q1,0,pre++[e1],rfl,qBA _ _ (by kernel_rfl),by omega,by omega,by simpa using hT2'.out,qC0 hg2'.out _,hrow'.out _ hown2'.out⟩,by simp[intOf];omega⟩
   ·have hkm:k=m+2:=by omega
    have hl3:¬(k:Int)<(m:Int)+2:=by omega
    have hvD:vs.getD k 0=0:=qDY (by omega);obtain⟨p,hp⟩:∃p,C=p:=⟨_,rfl⟩;subst hp;obtain⟨hT2,hpB⟩:=hT.next (show k<us.length by omega) lus'.out lvs'.out (by omega) hGb C (by rw[hvD,Nat.mul_zero,Nat.add_zero]);have hukk:us[k]'(by omega)=uk:=by have:=huk'.out;rw[List.getElem?_eq_getElem (by omega)]at this;simpa using this
    rw[hukk,hB'.out]at hT2;have hp3:((C:Nat):Int) / 1000000000=((C / 1000000000:Nat):Int):=by simp
    obtain⟨q1,hq1⟩:∃q1,C / 1000000000=q1:=⟨_,rfl⟩;obtain⟨r1,hr1⟩:∃r1,C%1000000000=r1:=⟨_,rfl⟩;have hq1i:(C:Int) / 1000000000=(q1:Int):=by omega
    have hr1i:(C:Int)%1000000000=(r1:Int):=by omega
    have hr1b:r1<1000000000:=by omega
    obtain⟨d,hd⟩:∃d,uk+1000000000 - r1=d:=⟨_,rfl⟩;have hdi:(uk:Int)+1000000000 - (r1:Int)=(d:Int):=by omega
    obtain⟨e1,he1⟩:∃e1,d%1000000000=e1:=⟨_,rfl⟩;have he1i:(d:Int)%1000000000=(e1:Int):=by omega
    have he1b:e1<1000000000:=by omega
    have hdb:d≤2000000000:=by omega
    rw[hq1,hr1,hd,he1]at hT2;clear hp3
    have hrow:∀W2:World,W2.ownsRow base 92 1 (.slice (some ⟨g,0,none⟩) N c) N ((qA9 ul j pre).map (gv .u32))→(W2.setCell ⟨g,j+k,none⟩ (.int .u32 (e1:Int))).ownsRow base 92 1 (.slice (some ⟨g,0,none⟩) N c) N ((qA9 ul j (pre++[e1])).map (gv .u32)):=fun W2 h=>by
     have h2:=qC6 (f:=gv .u32) h (j+k) e1;have h3:=qHE (ul:=ul) (pre:=pre) (j:=j) (by omega) e1;rw[hpl]at h3;rw[h3]at h2;exact h2
    have⟨hvD',hkm',hq1',hr1',hd',he1',hrow',hT'⟩:=hyd8 hvD hkm hq1 hr1 hd he1 hrow hT;have hukk':=hyd1 hukk;clear hukk hT hrow he1 hd hr1 hq1 hkm hvD
    by_cases hD:d<1000000000
    ·rw[if_pos hD]at hT2;have hD2:decide (d<1000000000)=true:=decide_eq_true hD;have hD3:(d:Int)<1000000000:=by omega
     have⟨hT2',hD2'⟩:=hyd2 hT2 hD2;clear hD2 hT2;go_wp2;exact⟨⟨_,k+1,q1,1,pre++[e1],rfl,qBA _ _ (by kernel_rfl),by omega,by omega,by simpa using hT2'.out,qC0 hg2'.out _,hrow'.out _ hown2'.out⟩,by simp[intOf];omega⟩
    ·rw[if_neg hD]at hT2;have hD2:decide (d<1000000000)=false:=decide_eq_false hD;have hD3:¬(d:Int)<1000000000:=by omega
     have⟨hT2',hD2'⟩:=hyd2 hT2 hD2;clear hD2 hT2;go_wp2;exact⟨⟨_,k+1,q1,0,pre++[e1],rfl,qBA _ _ (by kernel_rfl),by omega,by omega,by simpa using hT2'.out,qC0 hg2'.out _,hrow'.out _ hown2'.out⟩,by simp[intOf];omega⟩
  ·obtain rfl:k=m+3:=by omega
   have lpre:=hT.low;have hTf:=hT;rw[show m+3=us.length by omega]at hTf;have hl4:¬(((m+3:Nat):Int)<(m:Int)+2+1):=by omega
   have hl5:¬(m+3<m+2+1):=by omega
   have hl6:¬((m:Int)+3<(m:Int)+2+1):=by omega
   have hlv:us.length=vs.length+1:=by omega
   by_cases hc0:ca+bo=0
   ·obtain rfl:ca=0:=by omega
    obtain rfl:bo=0:=by omega
    have hfin:qEV w V (m+2) N c g base j ul us (.returned (.int .u32 (G:Int))) W2:=by
     refine⟨G,pre,rfl,by omega,lpre,by omega,fun hlt9=>?_,hgd2'.out W2 hg2'.out,hown2'.out⟩;rw[←hnv'.out]at hlt9 ⊢;obtain⟨f1,f2⟩:=hq'.out hlt9;exact(qFD hTf hlv lus'.out lvs'.out hlt9 f1 f2).1 rfl
    have hGw:(G:Int)<4294967296:=by omega
    have⟨hfin',hT',hTf',lpre'⟩:=hyd4 hfin hT hTf lpre;clear lpre hTf hT hfin;go_wp2;go_ret;exact hfin'.out
   ·have hG1:1≤G:=by
     refine Nat.pos_of_ne_zero fun h0=>hc0 ?_;rw[h0]at hTf;exact hTf.zero lus'.out (Nat.le_refl _)
    have hci:¬((bo:Int)+(ca:Int)=0):=by omega
    have hci2:((bo:Int)+(ca:Int)==0)=false:=by simp;omega
    have hci3:¬(bo=0∧ca=0):=by omega
    have hfin:∀(pre2:List Nat) (mo:Nat) (W3:World),Adding pre vs (m+3) mo pre2→W.grownBy W3 (some g)→W3.ownsRow base 92 1 (.slice (some ⟨g,0,none⟩) N c) N ((qA9 ul j (pre2++pre.drop (m+3))).map (gv .u32))→qEV w V (m+2) N c g base j ul us (.returned (.int .u32 ((G - 1:Nat):Int))) W3:=by
     intro pre2 mo W3 hA hg3 hown3;rw[List.drop_eq_nil_of_le (by omega),List.append_nil]at hown3;refine⟨G - 1,pre2,rfl,by rw[hA.len],hA.low,by omega,fun hlt9=>?_,hgd2'.out W3 hg3,hown3⟩;rw[←hnv'.out]at hlt9 ⊢;obtain⟨f1,f2⟩:=hq'.out hlt9;have hbm:=hA.bound;rw[show m+3=us.length by omega]at hA
     have h9:=(qFD hTf hlv lus'.out lvs'.out hlt9 f1 f2).2 hc0 pre2 (by
      obtain rfl|rfl:mo=1∨mo=0:=by omega
      ·exact .inl hA
      ·exact .inr hA)
     exact⟨h9.1,h9.2.1⟩
    obtain⟨G1,hG1e⟩:∃G1,G - 1=G1:=⟨_,rfl⟩;have hG1i:(G:Int) - 1=(G1:Int):=by omega
    have hG1b:G1<4294967296:=by omega
    rw[hG1e]at hfin;have hown20:W2.ownsRow base 92 1 (.slice (some ⟨g,0,none⟩) N c) N ((qA9 ul j ([]++pre.drop 0)).map (gv .u32)):=by rw[List.drop_zero,List.nil_append];exact hown2'.out
    have⟨hfin',hT',hTf',lpre',hc0',hG1e',hown20'⟩:=hyd7 hfin hT hTf lpre hc0 hG1e hown20;clear hown20 hG1e hc0 lpre hTf hT hfin;go_wp2;refine wp_loop (qP8 pre vs ul G m g j c N c2 bv ov cv base W) (fun a _=>m+3 - (intOf (a.tmps.getD 130 undef)).toNat) ?start3 ?round3
    case start3=>exact⟨_,0,0,[],rfl,qBA _ _ (by kernel_rfl),by omega,Adding.start _ _,hg2'.out,hown20'.out⟩
    case round3=>
     clear hl4 hl5 hl6 hci hci2 hci3;rintro a W3 ⟨t,k,mo,pre2,rfl,⟨u3,rfl⟩,hk,hA,hg3,hown3⟩;have hpl2:=hA.len;have hmb:=hA.bound;have⟨hg3',hown3'⟩:=hyd2 hg3 hown3;clear hg3 hown3
     by_cases hlt:k<m+3
     ·have hl1:(k:Int)<(m:Int)+2+1:=by omega
      have hl2:k<m+2+1:=by omega
      obtain⟨xk,hxk⟩:∃xk,pre[k]? =some xk:=⟨_,List.getElem?_eq_getElem (by omega)⟩;have hxB:xk<1000000000:=by rw[←hB'.out];exact lpre'.out _ (List.mem_of_getElem? hxk)
      have hxD:pre.getD k 0=xk:=by simp[hxk]
      have hck:=qBo (f:=gv .u32) hown3'.out (by rw[qFE (by simp;omega)];exact hul) (k:=j+k) (x:=xk) (by
       have h1:=qMI (ul:=ul) (pre:=pre2++pre.drop k) (j:=j) (i:=k) (by simp;omega) (by simp;omega);have h2:=qO2 (pre:=pre) hpl2 (show k<pre.length by omega);rw[List.getElem?_eq_getElem (by simp;omega)]at h2;rw[List.getElem?_eq_getElem (by omega)]at hxk
       rw[h1,h2];exact hxk)
      unfold gv at hck;have hfr:=hown3'.out.frozenAt (j+k);obtain⟨s1,hs1⟩:∃s1,xk+mo=s1:=⟨_,rfl⟩;have hs1i:(xk:Int)+(mo:Int)=(s1:Int):=by omega
      by_cases hlt2:k<m+2
      ·have hl3:(k:Int)<(m:Int)+2:=by omega
       obtain⟨vk,hvk⟩:∃vk,vs[k]? =some vk:=⟨_,List.getElem?_eq_getElem (by omega)⟩;have hvkB:vk<1000000000:=by rw[←hB'.out];exact lvs'.out _ (List.mem_of_getElem? hvk)
       have hckv:=vcell'.out W3 k vk hg3'.out hvk;have hvD:vs.getD k 0=vk:=by simp[hvk]
       obtain⟨d,hd⟩:∃d,s1+vk=d:=⟨_,rfl⟩;have hdi:(s1:Int)+(vk:Int)=(d:Int):=by omega
       have hadd:=hA.next lpre'.out lvs'.out d (by rw[hxD,hvD];omega);obtain⟨hA2,hdb⟩:=hadd;rw[hB'.out]at hA2 hdb;obtain⟨q1,hq1⟩:∃q1,d / 1000000000=q1:=⟨_,rfl⟩;obtain⟨e1,he1⟩:∃e1,d%1000000000=e1:=⟨_,rfl⟩;rw[hq1,he1]at hA2;have hq1i:(d:Int) / 1000000000=(q1:Int):=by omega
       have he1i:(d:Int)%1000000000=(e1:Int):=by omega
       have he1b:e1<1000000000:=by omega
       have hq1b:q1≤1:=hA2.bound
       have hrow:∀W4:World,W4.ownsRow base 92 1 (.slice (some ⟨g,0,none⟩) N c) N ((qA9 ul j (pre2++pre.drop k)).map (gv .u32))→(W4.setCell ⟨g,j+k,none⟩ (.int .u32 (e1:Int))).ownsRow base 92 1 (.slice (some ⟨g,0,none⟩) N c) N ((qA9 ul j ((pre2++[e1])++pre.drop (k+1))).map (gv .u32)):=fun W4 h=>by
        have h2:=qC6 (f:=gv .u32) h (j+k) e1;rw[qHF (by simp;omega) (by simp;omega),qK6 hpl2 (by omega)]at h2;exact h2
       have⟨hq1',he1',hrow',hA',hxk',hxD',hvD',hA2'⟩:=hyd8 hq1 he1 hrow hA hxk hxD hvD hA2;have⟨hvk',hd',hs1'⟩:=hyd3 hvk hd hs1;clear hs1 hd hvk hA2 hvD hxD hxk hA hrow he1 hq1;go_wp2;exact⟨⟨_,k+1,q1,pre2++[e1],rfl,qBA _ _ (by kernel_rfl),by omega,hA2'.out,qC0 hg3'.out _,hrow'.out _ hown3'.out⟩,by simp[intOf];omega⟩
      ·have hl3:¬(k:Int)<(m:Int)+2:=by omega
       have hvD:vs.getD k 0=0:=qDY (by omega);have hadd:=hA.next lpre'.out lvs'.out s1 (by rw[hxD,hvD];omega);obtain⟨hA2,hdb⟩:=hadd;rw[hB'.out]at hA2 hdb;obtain⟨q1,hq1⟩:∃q1,s1 / 1000000000=q1:=⟨_,rfl⟩;obtain⟨e1,he1⟩:∃e1,s1%1000000000=e1:=⟨_,rfl⟩;rw[hq1,he1]at hA2;have hq1i:(s1:Int) / 1000000000=(q1:Int):=by omega
       have he1i:(s1:Int)%1000000000=(e1:Int):=by omega
       have he1b:e1<1000000000:=by omega
       have hq1b:q1≤1:=hA2.bound
       have hrow:∀W4:World,W4.ownsRow base 92 1 (.slice (some ⟨g,0,none⟩) N c) N ((qA9 ul j (pre2++pre.drop k)).map (gv .u32))→(W4.setCell ⟨g,j+k,none⟩ (.int .u32 (e1:Int))).ownsRow base 92 1 (.slice (some ⟨g,0,none⟩) N c) N ((qA9 ul j ((pre2++[e1])++pre.drop (k+1))).map (gv .u32)):=fun W4 h=>by
        have h2:=qC6 (f:=gv .u32) h (j+k) e1;rw[qHF (by simp;omega) (by simp;omega),qK6 hpl2 (by omega)]at h2;exact h2
       have⟨hq1',he1',hrow',hA',hxk',hxD',hvD',hA2'⟩:=hyd8 hq1 he1 hrow hA hxk hxD hvD hA2;have hs1':=hyd1 hs1;clear hs1 hA2 hvD hxD hxk hA hrow he1 hq1;go_wp2;exact⟨⟨_,k+1,q1,pre2++[e1],rfl,qBA _ _ (by kernel_rfl),by omega,hA2'.out,qC0 hg3'.out _,hrow'.out _ hown3'.out⟩,by simp[intOf];omega⟩
     ·obtain rfl:k=m+3:=by omega
      have hl4:¬(((m+3:Nat):Int)<(m:Int)+2+1):=by omega
      have hl5:¬(m+3<m+2+1):=by omega
      have hl6:¬((m:Int)+3<(m:Int)+2+1):=by omega
      have hG0i:(1:Int)≤(G:Int):=by omega
      have hA':=hyd1 hA;clear hA;go_wp2;go_ret;exact hfin'.out _ _ _ hA'.out hg3'.out hown3'.out
theorem qLQ (L:Nat→Prop) (V n m N j g c c2 base:Nat) (ul:List Nat) (vv:Value) (w:World) (hv:NumL L .u32 w vv V) (hLg:¬L g) (hn:(dg V).length =n) (hm:n=m+2)
  (htop:B9<4*((dg V)[m+1]'(by omega)+1)) (hown:w.ownsRow base 92 1 (.slice (some ⟨g,0,none⟩) N c) N (ul.map (gv .u32))) (hul:ul.length=N) (lu:Low ul) (hj:j+n+1≤N) (hN:N≤1000000000) (hc2:n+1≤c2∧c2≤maxLen):
  Calls Tryz.prog 121 #[.slice (some ⟨g,j,none⟩) (n+1) c2,vv] w (qEV w V n N c g base j ul ((ul.drop j).take (n+1))):=by
 obtain⟨Av,cv,rfl,b1,b2,bN,b3⟩:=hv;obtain⟨hc2a,hc2b⟩:=hc2;unfold maxLen at b2 hc2b;have hB:=qAO;obtain⟨bv,ov,rfl,hLb,hbv,hcv⟩:=b3 (by omega);have hbg:bv≠g:=fun e=>hLg (e▸hLb);have hbg2:¬bv=g:=hbg;have hgz:g<w.heap.size:=(hown.lt g rfl).2;obtain⟨us,hus⟩:∃us,(ul.drop j).take (n+1)=us:=⟨_,rfl⟩;obtain⟨vs,hvs⟩:∃vs,dg V=vs:=⟨_,rfl⟩;have hnv:nv vs=V:=by rw[←hvs,qAl]
 have hul3:us.length=m+3:=by rw[←hus];simp;omega
 have hvl:vs.length=m+2:=by rw[←hvs];omega
 have lus:Low us:=by rw[←hus];exact(lu.drop j).take _
 have lvs:Low vs:=by rw[←hvs];exact qAq V
 have husg:∀k (h:k<us.length),ul[j+k]? =some us[k]:=fun k h=>by
  subst hus;rw[List.getElem?_eq_getElem (by omega)];simp
 simp only[hvs]at htop hcv b1 ⊢;rw[hvl]at b1 ⊢;rw[hus];have htop':250000000≤vs[m+1]:=by omega
 have ucell:∀(W:World) (k y:Nat) (X:List Nat),W.ownsRow base 92 1 (.slice (some ⟨g,0,none⟩) N c) N (X.map (gv .u32))→X.length=N→X[j+k]? =some y→W.cell? ⟨g,j+k,none⟩=some (.int .u32 (y:Int)):=fun W k y X h1 h2 h3=>qBo (f:=gv .u32) h1 h2 h3;have vcell:∀(W:World) (k:Nat) (h:k<vs.length),w.grownBy W (some g)→W.cell? ⟨bv,ov+k,none⟩=some (.int .u32 (vs[k]:Int)):=fun W k h hg=>(World.cell?_of_block (hg.block bv hbv (fun e=>by injection e;omega))).trans (hcv k h);have x0:=vcell w (m+1) (by omega) (World.grownBy.refl _ _);have x1:=vcell w m (by omega) (World.grownBy.refl _ _);have y0:=ucell w (m+2) _ _ hown hul (husg (m+2) (by omega));have y1:=ucell w (m+1) _ _ hown hul (husg (m+1) (by omega));have y2:=ucell w m _ _ hown hul (husg m (by omega));have z0:=lus.get (m+2) (by omega);have z1:=lus.get (m+1) (by omega);have z2:=lus.get m (by omega);have z3:=lvs.get (m+1) (by omega);have z4:=lvs.get m (by omega);have hG0:=Guess.start (us:=us) (vs:=vs) hul3 hvl (by omega) lus;have hGl:=fun G l (h:Guess us vs m G l hul3 hvl)=>h.less lus (by omega);have hGh:=fun G l (h:Guess us vs m G l hul3 hvl) (hlt:nv us<nv vs*B9)=>h.high lus lvs (by omega) hlt;have hGe:=fun G l (h:Guess us vs m G l hul3 hvl)=>h.eq;obtain⟨U0,e0⟩:∃U0,us[m+2]=U0:=⟨_,rfl⟩;obtain⟨U1,e1⟩:∃U1,us[m+1]=U1:=⟨_,rfl⟩;obtain⟨U2,e2⟩:∃U2,us[m]=U2:=⟨_,rfl⟩;obtain⟨V1,e3⟩:∃V1,vs[m+1]=V1:=⟨_,rfl⟩
 obtain⟨V2,e4⟩:∃V2,vs[m]=V2:=⟨_,rfl⟩;simp only[e0,e1,e2,e3,e4]at x0 x1 y0 y1 y2 z0 z1 z2 z3 z4 hG0 hGl hGh hGe htop';rw[hB]at z0 z1 z2 z3 z4 hG0;simp only[hB]at hGl hGh hGe;obtain⟨T,hT⟩:∃T,U0*1000000000+U1=T:=⟨_,rfl⟩;have hTi:(U0:Int)*1000000000+(U1:Int)=(T:Int):=by omega
 rw[hT]at hG0;obtain⟨G0,hG0e⟩:∃G0,T / V1=G0:=⟨_,rfl⟩;obtain⟨l0,hl0e⟩:∃l0,T%V1=l0:=⟨_,rfl⟩;have f1:(T:Int) / (V1:Int)=(G0:Int):=by rw[←hG0e];simp
 have f2:(T:Int)%(V1:Int)=(l0:Int):=by rw[←hl0e];simp
 have f3:(T:Int).tdiv (V1:Int)=(G0:Int):=by rw[Int.tdiv_eq_ediv_of_nonneg (by omega)];exact f1
 have f4:(T:Int).tmod (V1:Int)=(l0:Int):=by rw[Int.tmod_eq_emod_of_nonneg (by omega)];exact f2
 have hG0b:G0≤4000000000:=by
  rw[←hG0e];refine Nat.le_of_lt_succ ((Nat.div_lt_iff_lt_mul (by omega)).2 ?_);have:=Nat.mul_le_mul_left 4000000001 htop';omega
 have hl0b:l0<1000000000:=by rw[←hl0e];exact Nat.lt_trans (Nat.mod_lt _ (by omega)) z3
 rw[hG0e,hl0e]at hG0;have hV1z:((V1:Int)==0)=false:=by simp;omega
 have hV1z2:¬(V1:Int)=0:=by omega
 have i1:((m+2:Nat):Int) - 1=((m+1:Nat):Int):=by omega
 have i2:((m+2:Nat):Int) - 2=((m:Nat):Int):=by omega
 subst hm;have⟨hB',hown',hLb',hcv',b3',bN',lu',husg'⟩:=hyd8 hB hown hLb hcv b3 bN lu husg;have⟨ucell',vcell',lus',lvs',e0',e1',e2',e3'⟩:=hyd8 ucell vcell lus lvs e0 e1 e2 e3;have⟨e4',hG0',hGl',hGh',hGe',hG0e',hl0e',hT'⟩:=hyd8 e4 hG0 hGl hGh hGe hG0e hl0e hT;have⟨htop',hnv'⟩:=hyd2 htop hnv;clear hnv htop hT hl0e hG0e hGe hGh hGl hG0 e4 e3 e2 e1 e0 lvs lus vcell ucell husg lu bN b3 hcv hLb hown hB;go_enter Tryz.func121,Tryz.ntmps121;go_wp2;go_quiet (fail);go_wp2;go_quiet (fail);go_wp2
 have hTail:∀(G k:Nat) (t:Array Value),(∃u:Nat→Value,t=#[.slice (some ⟨g,j,none⟩) (m+2+1) c2,.slice (some ⟨bv,ov,none⟩) (m+2) cv,(u 2),(u 3),(u 4),.int .i64 ((m:Nat)+2),(u 6),.int .u64 (G:Nat),(u 8),(u 9),(u 10),(u 11),(u 12),(u 13),(u 14),(u 15),(u 16),(u 17),(u 18),(u 19),(u 20),(u 21),(u 22),(u 23),(u 24),(u 25),(u 26),(u 27),(u 28),(u 29),(u 30),(u 31),(u 32),(u 33),(u 34),(u 35),(u 36),(u 37),(u 38),(u 39),(u 40),(u 41),(u 42),(u 43),(u 44),(u 45),(u 46),(u 47),(u 48),(u 49),(u 50),(u 51),(u 52),(u 53),(u 54),(u 55),(u 56),(u 57),(u 58),(u 59),(u 60),(u 61),(u 62),(u 63),(u 64),(u 65),(u 66),(u 67),(u 68),(u 69),(u 70),(u 71),(u 72),(u 73),(u 74),(u 75),(u 76),(u 77),(u 78),(u 79),(u 80),(u 81),(u 82),(u 83),(u 84),(u 85),(u 86),(u 87),(u 88),(u 89),(u 90),(u 91),(u 92),(u 93),(u 94),(u 95),(u 96),(u 97),(u 98),(u 99),(u 100),(u 101),(u 102),(u 103),(u 104),(u 105),(u 106),(u 107),(u 108),(u 109),(u 110),(u 111),(u 112),(u 113),(u 114),(u 115),(u 116),(u 117),(u 118),(u 119),(u 120),(u 121),(u 122),(u 123),(u 124),(u 125),(u 126),(u 127),(u 128),(u 129),(u 130),(u 131),(u 132),(u 133),(u 134),(u 135),(u 136),(u 137),(u 138),(u 139),(u 140),(u 141),(u 142),(u 143),(u 144),(u 145),(u 146),(u 147),(u 148),(u 149),(u 150),(u 151),(u 152),(u 153),(u 154),(u 155),(u 156),(u 157),(u 158),(u 159),(u 160),(u 161)])→G≤4000000000→(nv us<nv vs*B9→nv us / nv vs≤G∧G≤nv us / nv vs+1)→∀(K:Act→World→Prop),(∀a w1,tkRest.wp Tryz.prog (bodyPost Tryz.prog Tryz.f121 (qEV w V (m+2) N c g base j ul us)) a w1→K a w1)→tkHead.wp Tryz.prog (Exit.then K (bodyPost Tryz.prog Tryz.f121 (qEV w V (m+2) N c g base j ul us))) {tmps:=t,defers:=[]} (w.drewN k):=fun G k t h1 h2 h3=>
  qMR w V m N j g c c2 base bv ov cv G ul us vs t (w.drewN k) h1 hnv'.out hul hul3 hvl lus'.out lvs'.out (fun k h=>husg'.out k h) (by omega) hN (by omega) b1 hown'.out (fun k h=>hcv'.out k h) hbg hbv ⟨rfl,rfl,rfl,Nat.le_refl _,fun _ _ _=>rfl⟩ h2 h3
 have hTail':=hyd1 hTail;clear hTail;refine wp_loop (GRel us vs m g j c2 bv ov cv hul3 hvl w) (fun a _=>(intOf (a.tmps.getD 7 undef)).toNat) ?start ?round
 case start=>exact⟨_,G0,l0,_,rfl,qBA _ _ (by kernel_rfl),hG0b,hl0b,hG0'.out,qBu _ _ _⟩
 case round=>
  rintro a W ⟨t,G,l,kd,rfl,⟨u,rfl⟩,hGb,hlb,hGu,rfl⟩;have hGu':=hyd1 hGu;clear hG0' f1 f2 f3 f4 hG0b hl0b;obtain⟨P,hP⟩:∃P:Nat,G*V2=P:=⟨_,rfl⟩;have hPi:(G:Int)*(V2:Int)=(P:Int):=by rw[←hP];simp
  have hPB:P≤4000000000000000000:=by rw[←hP];exact Nat.mul_le_mul hGb (show V2≤1000000000 by omega)
  obtain⟨S,hS⟩:∃S:Nat,l*1000000000+U2=S:=⟨_,rfl⟩;have hSi:(l:Int)*1000000000+(U2:Int)=(S:Int):=by omega
  have hSB:S<1000000000000000000:=by omega
  have hHi:=hGh'.out G l hGu;have hLe:=hGl'.out G l hGu;rw[hP,hS]at hHi hLe;have⟨hP',hS',hHi',hLe'⟩:=hyd4 hP hS hHi hLe;clear hLe hHi hS hP;have hpath:((1000000000:Int)≤G∧(1000000000:Int)≤(l:Int)+V1)∨((1000000000:Int)≤G∧¬(1000000000:Int)≤(l:Int)+V1)∨(¬(1000000000:Int)≤G∧(S:Int)<P∧(1000000000:Int)≤(l:Int)+V1)∨
    (¬(1000000000:Int)≤G∧(S:Int)<P∧¬(1000000000:Int)≤(l:Int)+V1)∨(¬(1000000000:Int)≤G∧¬(S:Int)<P):=by omega
  rcases hpath with⟨hA,hD⟩| ⟨hA,hD⟩| ⟨hA,hC,hD⟩| ⟨hA,hC,hD⟩| ⟨hA,hC⟩
  rotate_left
  ·have hA2:decide ((1000000000:Int)≤(G:Int))=true:=by simpa using hA
   obtain⟨hGp,hN⟩:=hLe'.out (by omega);obtain⟨G',hG'⟩:∃G',G - 1=G':=⟨_,rfl⟩;rw[hG']at hN;have hGi:(G:Int) - 1=(G':Int):=by omega
   obtain⟨l',hl'⟩:∃l',l+V1=l':=⟨_,rfl⟩;rw[hl']at hN;have hli:(l:Int)+(V1:Int)=(l':Int):=by omega
   have hGb':G'≤4000000000:=by omega
   have hD2:decide ((1000000000:Int)≤(l':Int))=false:=decide_eq_false (by omega);have⟨hN',hG'',hl''⟩:=hyd3 hN hG' hl';clear hl' hG' hN;go_wp2;refine wp_region_quiet_lit (by kernel_rfl) (by kernel_rfl) ?_
   repeat (go_big_quiet_step (fail))
   refine wpQuiet_nil ?_;intro _ hw';obtain⟨nq,hw''⟩:=hw';subst hw'';rw[qBu];go_wp2;exact⟨⟨_,G',l',_,rfl,qBA _ _ (by kernel_rfl),hGb',by omega,hN'.out,rfl⟩,by simp[intOf];omega⟩
  rotate_left
  ·have hA2:decide ((1000000000:Int)≤(G:Int))=false:=by simpa using hA
   have hC2:decide (S<P)=true:=by simpa using hC
   obtain⟨hGp,hN⟩:=hLe'.out (by omega);obtain⟨G',hG'⟩:∃G',G - 1=G':=⟨_,rfl⟩;rw[hG']at hN;have hGi:(G:Int) - 1=(G':Int):=by omega
   obtain⟨l',hl'⟩:∃l',l+V1=l':=⟨_,rfl⟩;rw[hl']at hN;have hli:(l:Int)+(V1:Int)=(l':Int):=by omega
   have hGb':G'≤4000000000:=by omega
   have hD2:decide ((1000000000:Int)≤(l':Int))=false:=decide_eq_false (by omega);have⟨hN',hG'',hl''⟩:=hyd3 hN hG' hl';clear hl' hG' hN;go_wp2;refine wp_region_quiet_lit (by kernel_rfl) (by kernel_rfl) ?_
   repeat (go_big_quiet_step (fail))
   refine wpQuiet_nil ?_;intro _ hw';obtain⟨nq,hw''⟩:=hw';subst hw'';rw[qBu];go_wp2;exact⟨⟨_,G',l',_,rfl,qBA _ _ (by kernel_rfl),hGb',by omega,hN'.out,rfl⟩,by simp[intOf];omega⟩
  have hA2:decide ((1000000000:Int)≤(G:Int))=false:=by simpa using hA
  have hC2:decide (S<P)=false:=by simpa using hC
  have hq:nv us<nv vs*B9→nv us / nv vs≤G∧G≤nv us / nv vs+1:=fun hlt=>by
   have h8:=hHi'.out (by rw[←hB'.out];exact hlt) (.inl ⟨by omega,by omega⟩);exact⟨h8.1,h8.2.1⟩
  have hGb':=hGb;have hq':=hyd1 hq;clear hq;go_wp2;refine wp_region_quiet_lit (by kernel_rfl) (by kernel_rfl) ?_
  repeat (go_big_quiet_step (fail))
  refine wpQuiet_nil ?_;intro _ hw';obtain⟨nq,hw''⟩:=hw';subst hw'';rw[qBu];go_upto_region 8 with(fail);exact hTail'.out G _ _ (qBA _ _ (by kernel_rfl)) hGb' hq'.out _ (by assumption);have hA2:decide ((1000000000:Int)≤(G:Int))=true:=by simpa using hA
  obtain⟨hGp,hN⟩:=hLe'.out (by omega);obtain⟨G',hG'⟩:∃G',G - 1=G':=⟨_,rfl⟩;rw[hG']at hN;have hGi:(G:Int) - 1=(G':Int):=by omega
  obtain⟨l',hl'⟩:∃l',l+V1=l':=⟨_,rfl⟩;rw[hl']at hN;have hli:(l:Int)+(V1:Int)=(l':Int):=by omega
  have hGb':G'≤4000000000:=by omega
  have hD2:decide ((1000000000:Int)≤(l':Int))=true:=decide_eq_true (by omega);have hl3:1000000000≤l':=by omega
  clear hD;have hl3':=hyd1 hl3;clear hl3
  have hq:nv us<nv vs*B9→nv us / nv vs≤G'∧G'≤nv us / nv vs+1:=fun hlt=>by
   have h8:=hGh'.out G' l' hN (by rw[←hB'.out];exact hlt) (.inr hl3'.out);exact⟨h8.1,h8.2.1⟩
  have⟨hN',hq',hG'',hl''⟩:=hyd4 hN hq hG' hl';clear hl' hG' hq hN;go_wp2;refine wp_region_quiet_lit (by kernel_rfl) (by kernel_rfl) ?_
  repeat (go_big_quiet_step (fail))
  refine wpQuiet_nil ?_;intro _ hw';obtain⟨nq,hw''⟩:=hw';subst hw'';rw[qBu];go_upto_region 8 with(fail);exact hTail'.out G' _ _ (qBA _ _ (by kernel_rfl)) hGb' hq'.out _ (by assumption);have hA2:decide ((1000000000:Int)≤(G:Int))=false:=by simpa using hA
  have hC2:decide (S<P)=true:=by simpa using hC
  obtain⟨hGp,hN⟩:=hLe'.out (by omega);obtain⟨G',hG'⟩:∃G',G - 1=G':=⟨_,rfl⟩;rw[hG']at hN;have hGi:(G:Int) - 1=(G':Int):=by omega
  obtain⟨l',hl'⟩:∃l',l+V1=l':=⟨_,rfl⟩;rw[hl']at hN;have hli:(l:Int)+(V1:Int)=(l':Int):=by omega
  have hGb':G'≤4000000000:=by omega
  have hD2:decide ((1000000000:Int)≤(l':Int))=true:=decide_eq_true (by omega);have hl3:1000000000≤l':=by omega
  clear hD;have hl3':=hyd1 hl3;clear hl3
  have hq:nv us<nv vs*B9→nv us / nv vs≤G'∧G'≤nv us / nv vs+1:=fun hlt=>by
   have h8:=hGh'.out G' l' hN (by rw[←hB'.out];exact hlt) (.inr hl3'.out);exact⟨h8.1,h8.2.1⟩
  have⟨hN',hq',hG'',hl''⟩:=hyd4 hN hq hG' hl';clear hl' hG' hq hN;go_wp2;refine wp_region_quiet_lit (by kernel_rfl) (by kernel_rfl) ?_
  repeat (go_big_quiet_step (fail))
  refine wpQuiet_nil ?_;intro _ hw';obtain⟨nq,hw''⟩:=hw';subst hw'';rw[qBu];go_upto_region 8 with(fail);exact hTail'.out G' _ _ (qBA _ _ (by kernel_rfl)) hGb' hq'.out _ (by assumption)
end Go.Proofs.YtenjpccpldajoaaGreatDoor

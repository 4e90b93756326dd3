/- exact: numbers of 0 or more: takeOff. -/
import Derived.Test.YtfmfefibadpobaaGreatDoorPk10
namespace Go.Proofs.YtfmfefibadpobaaGreatDoor
set_option maxRecDepth 100000
set_option maxHeartbeats 4000000
open Go.RowKit Go.Shelf
set_option linter.unusedVariables false
set_option linter.unusedSimpArgs false
def qCL (w:World) (V n N c g base j:Nat) (ul us:List Nat) (e:Ending) (w':World):Prop:=
 ∃(q:Nat) (us':List Nat),e= .returned (.int .u32 (q:Int))/\us'.length=n+1/\Low us'/\q<4294967296∧
  (nv us<V*B9->q=nv us / V/\nv us'=nv us%V)/\w.grownBy w' (some g)∧
  w'.ownsRow base 82 1 (.slice (some ⟨g,0,none⟩) N c) N ((qAM ul j us').map (gv .u32))
def GRel (us vs:List Nat) (m g j c2 bv ov cv:Nat) (hu:us.length=m+3) (hv:vs.length=m+2) (w:World) (a:Act) (W:World):Prop:=
 ∃(t:Array Value) (G l k:Nat),a={tmps:=t,defers:=[]}/\(∃u:Nat->Value,t=#[.slice (some ⟨g,j,none⟩) (m+2+1) c2,.slice (some ⟨bv,ov,none⟩) (m+2) cv,(u 2),(u 3),(u 4),.int .i64 ((m:Nat)+2),(u 6),.int .u64 (G:Nat),.int .u64 (l:Nat),(u 9),(u 10),(u 11),(u 12),(u 13),(u 14),(u 15),(u 16),(u 17),(u 18),(u 19),(u 20),(u 21),(u 22),(u 23),(u 24),(u 25),(u 26),(u 27),(u 28),(u 29),(u 30),(u 31),(u 32),(u 33),(u 34),(u 35),(u 36),(u 37),(u 38),(u 39),(u 40),(u 41),(u 42),(u 43),(u 44),(u 45),(u 46),(u 47),(u 48),(u 49),(u 50),(u 51),(u 52),(u 53),(u 54),(u 55),(u 56),(u 57),(u 58),(u 59),(u 60),(u 61),(u 62),(u 63),(u 64),(u 65),(u 66),(u 67),(u 68),(u 69),(u 70),(u 71),(u 72),(u 73),(u 74),(u 75),(u 76),(u 77),(u 78),(u 79),(u 80),(u 81),(u 82),(u 83),(u 84),(u 85),(u 86),(u 87),(u 88),(u 89),(u 90),(u 91),(u 92),(u 93),(u 94),(u 95),(u 96),(u 97),(u 98),(u 99),(u 100),(u 101),(u 102),(u 103),(u 104),(u 105),(u 106),(u 107),(u 108),(u 109),(u 110),(u 111),(u 112),(u 113),(u 114),(u 115),(u 116),(u 117),(u 118),(u 119),(u 120),(u 121),(u 122),(u 123),(u 124),(u 125),(u 126),(u 127),(u 128),(u 129),(u 130),(u 131),(u 132),(u 133),(u 134),(u 135),(u 136),(u 137),(u 138),(u 139),(u 140),(u 141),(u 142),(u 143),(u 144),(u 145),(u 146),(u 147),(u 148),(u 149),(u 150),(u 151),(u 152),(u 153),(u 154),(u 155),(u 156),(u 157),(u 158),(u 159),(u 160),(u 161)])/\G<=4000000000/\l<1000000000/\Guess us vs m G l hu hv/\W=w.drewN k
def qHr (us vs ul:List Nat) (G m g j c N c2 bv ov cv base:Nat) (W0:World) (a:Act) (W:World):Prop:=
 ∃(t:Array Value) (k ca bo:Nat) (pre:List Nat),a={tmps:=t,defers:=[]}/\(∃u:Nat->Value,t=#[.slice (some ⟨g,j,none⟩) (m+2+1) c2,.slice (some ⟨bv,ov,none⟩) (m+2) cv,(u 2),(u 3),(u 4),.int .i64 ((m:Nat)+2),(u 6),.int .u64 (G:Nat),(u 8),.int .u64 (bo:Nat),.int .u64 (ca:Nat),(u 11),(u 12),(u 13),(u 14),(u 15),(u 16),(u 17),(u 18),(u 19),(u 20),(u 21),(u 22),(u 23),(u 24),(u 25),(u 26),(u 27),(u 28),(u 29),(u 30),(u 31),(u 32),(u 33),(u 34),(u 35),(u 36),(u 37),(u 38),(u 39),(u 40),(u 41),(u 42),(u 43),(u 44),(u 45),(u 46),(u 47),(u 48),(u 49),(u 50),(u 51),(u 52),(u 53),(u 54),(u 55),(u 56),(u 57),(u 58),(u 59),(u 60),(u 61),(u 62),(u 63),(u 64),(u 65),(u 66),(u 67),(u 68),(u 69),(u 70),(u 71),(u 72),(u 73),(u 74),(u 75),(u 76),(u 77),(u 78),(u 79),(u 80),(u 81),(u 82),.int .i64 ((m:Nat)+2+1),.int .i64 (k:Nat),(u 85),(u 86),(u 87),(u 88),(u 89),(u 90),(u 91),(u 92),(u 93),(u 94),(u 95),(u 96),(u 97),(u 98),(u 99),(u 100),(u 101),(u 102),(u 103),(u 104),(u 105),(u 106),(u 107),(u 108),(u 109),(u 110),(u 111),(u 112),(u 113),(u 114),(u 115),(u 116),(u 117),(u 118),(u 119),(u 120),(u 121),(u 122),(u 123),(u 124),(u 125),(u 126),(u 127),(u 128),(u 129),(u 130),(u 131),(u 132),(u 133),(u 134),(u 135),(u 136),(u 137),(u 138),(u 139),(u 140),(u 141),(u 142),(u 143),(u 144),(u 145),(u 146),(u 147),(u 148),(u 149),(u 150),(u 151),(u 152),(u 153),(u 154),(u 155),(u 156),(u 157),(u 158),(u 159),(u 160),(u 161)])/\k<=m+3/\bo<=1/\Taking us vs G k (ca+bo) pre/\W0.grownBy W (some g)∧
  W.ownsRow base 82 1 (.slice (some ⟨g,0,none⟩) N c) N ((qAM ul j pre).map (gv .u32))
def qHs (pre vs ul:List Nat) (G m g j c N c2 bv ov cv base:Nat) (W0:World) (a:Act) (W:World):Prop:=
 ∃(t:Array Value) (k mo:Nat) (pre2:List Nat),a={tmps:=t,defers:=[]}/\(∃u:Nat->Value,t=#[.slice (some ⟨g,j,none⟩) (m+2+1) c2,.slice (some ⟨bv,ov,none⟩) (m+2) cv,(u 2),(u 3),(u 4),.int .i64 ((m:Nat)+2),(u 6),.int .u64 (G:Nat),(u 8),(u 9),(u 10),(u 11),(u 12),(u 13),.int .u64 (mo:Nat),(u 15),(u 16),(u 17),(u 18),(u 19),(u 20),(u 21),(u 22),(u 23),(u 24),(u 25),(u 26),(u 27),(u 28),(u 29),(u 30),(u 31),(u 32),(u 33),(u 34),(u 35),(u 36),(u 37),(u 38),(u 39),(u 40),(u 41),(u 42),(u 43),(u 44),(u 45),(u 46),(u 47),(u 48),(u 49),(u 50),(u 51),(u 52),(u 53),(u 54),(u 55),(u 56),(u 57),(u 58),(u 59),(u 60),(u 61),(u 62),(u 63),(u 64),(u 65),(u 66),(u 67),(u 68),(u 69),(u 70),(u 71),(u 72),(u 73),(u 74),(u 75),(u 76),(u 77),(u 78),(u 79),(u 80),(u 81),(u 82),(u 83),(u 84),(u 85),(u 86),(u 87),(u 88),(u 89),(u 90),(u 91),(u 92),(u 93),(u 94),(u 95),(u 96),(u 97),(u 98),(u 99),(u 100),(u 101),(u 102),(u 103),(u 104),(u 105),(u 106),(u 107),(u 108),(u 109),(u 110),(u 111),(u 112),(u 113),(u 114),(u 115),(u 116),(u 117),(u 118),(u 119),(u 120),(u 121),(u 122),(u 123),(u 124),(u 125),(u 126),(u 127),(u 128),.int .i64 ((m:Nat)+2+1),.int .i64 (k:Nat),(u 131),(u 132),(u 133),(u 134),(u 135),(u 136),(u 137),(u 138),(u 139),(u 140),(u 141),(u 142),(u 143),(u 144),(u 145),(u 146),(u 147),(u 148),(u 149),(u 150),(u 151),(u 152),(u 153),(u 154),(u 155),(u 156),(u 157),(u 158),(u 159),(u 160),(u 161)])/\k<=m+3/\Adding pre vs k mo pre2/\W0.grownBy W (some g)∧
  W.ownsRow base 82 1 (.slice (some ⟨g,0,none⟩) N c) N ((qAM ul j (pre2++pre.drop k)).map (gv .u32))
theorem qBK {W0 W:World} {g i:Nat} (h:W0.grownBy W (some g)) (v:Value):W0.grownBy (W.setCell ⟨g,i,none⟩ v) (some g):=
 ⟨h.os,h.tape,h.output,by simpa[World.setCell]using h.size,λk hk hne=>(Below.heap_setCell _ _ _ _ (λe=>hne (by rw[e]))).trans (h.block k hk hne)⟩
def qHt:Code->Code
 | .seq a _=>a
 | c=>c
def qHu:Code->Code
 | .seq _ b=>b
 | c=>c
noncomputable def qG2:Code:=(qAb 8 ((Tryz.f74).body.getD .skip)).getD 0 .skip
noncomputable def tkHead:Code:=qHt qG2
noncomputable def tkRest:Code:=qHu qG2
theorem qG3 (w:World) (V m N j g c c2 base bv ov cv G:Nat) (ul us vs:List Nat) (t:Array Value) (W:World) (ht:∃u:Nat->Value,t=#[.slice (some ⟨g,j,none⟩) (m+2+1) c2,.slice (some ⟨bv,ov,none⟩) (m+2) cv,(u 2),(u 3),(u 4),.int .i64 ((m:Nat)+2),(u 6),.int .u64 (G:Nat),(u 8),(u 9),(u 10),(u 11),(u 12),(u 13),(u 14),(u 15),(u 16),(u 17),(u 18),(u 19),(u 20),(u 21),(u 22),(u 23),(u 24),(u 25),(u 26),(u 27),(u 28),(u 29),(u 30),(u 31),(u 32),(u 33),(u 34),(u 35),(u 36),(u 37),(u 38),(u 39),(u 40),(u 41),(u 42),(u 43),(u 44),(u 45),(u 46),(u 47),(u 48),(u 49),(u 50),(u 51),(u 52),(u 53),(u 54),(u 55),(u 56),(u 57),(u 58),(u 59),(u 60),(u 61),(u 62),(u 63),(u 64),(u 65),(u 66),(u 67),(u 68),(u 69),(u 70),(u 71),(u 72),(u 73),(u 74),(u 75),(u 76),(u 77),(u 78),(u 79),(u 80),(u 81),(u 82),(u 83),(u 84),(u 85),(u 86),(u 87),(u 88),(u 89),(u 90),(u 91),(u 92),(u 93),(u 94),(u 95),(u 96),(u 97),(u 98),(u 99),(u 100),(u 101),(u 102),(u 103),(u 104),(u 105),(u 106),(u 107),(u 108),(u 109),(u 110),(u 111),(u 112),(u 113),(u 114),(u 115),(u 116),(u 117),(u 118),(u 119),(u 120),(u 121),(u 122),(u 123),(u 124),(u 125),(u 126),(u 127),(u 128),(u 129),(u 130),(u 131),(u 132),(u 133),(u 134),(u 135),(u 136),(u 137),(u 138),(u 139),(u 140),(u 141),(u 142),(u 143),(u 144),(u 145),(u 146),(u 147),(u 148),(u 149),(u 150),(u 151),(u 152),(u 153),(u 154),(u 155),(u 156),(u 157),(u 158),(u 159),(u 160),(u 161)]) (hnv:nv vs=V)
  (hul:ul.length=N) (hul3:us.length=m+3) (hvl:vs.length=m+2) (lus:Low us) (lvs:Low vs) (husg:∀k (h:k<us.length),ul[j+k]? =some us[k]) (hj:j+m+3<=N) (hN:N<=1000000000) (hc2a:m+3<=c2) (hcv:m+2<=cv)
  (hown:W.ownsRow base 82 1 (.slice (some ⟨g,0,none⟩) N c) N (ul.map (gv .u32))) (hvc:∀k (h:k<vs.length),W.cell? ⟨bv,ov+k,none⟩=some (.int .u32 (vs[k]:Int))) (hbg:bv≠g) (hbv:bv<W.heap.size) (hg:w.grownBy W (some g))
  (hGb:G<=4000000000) (hq:nv us<nv vs*B9->nv us / nv vs<=G/\G<=nv us / nv vs+1):
  ∀(K:Act->World->Prop),(∀a w1,tkRest.wp Tryz.prog (bodyPost Tryz.prog Tryz.f74 (qCL w V (m+2) N c g base j ul us)) a w1->K a w1)→
   tkHead.wp Tryz.prog (Exit.then K (bodyPost Tryz.prog Tryz.f74 (qCL w V (m+2) N c g base j ul us))) {tmps:=t,defers:=[]} W:=by
 intro K hK;obtain⟨u,rfl⟩:=ht
 conv=>arg 2;whnf
 have hB:=qAD;have aD:=λT (h:W.grownBy T (some g))=>hg.trans h
 have a3:∀(T:World) (k y:Nat),W.grownBy T (some g)->vs[k]? =some y->T.cell? ⟨bv,ov+k,none⟩=some (.int .u32 (y:Int)):=λT k y h hy=>by
  obtain⟨h1,h2⟩:=List.getElem?_eq_some_iff.1 hy;rw[<-h2];exact(World.cell?_of_block (h.block bv hbv (λe=>by injection e;omega))).trans (hvc k h1)
 have aX:=λpre c=>qCk (us:=us) (vs:=vs) (g:=G) (c:=c) (pre:=pre);have⟨aN,bZ,bR,Q,B,aR,bn,av⟩:=hyd8 hown hg hvc lus lvs husg hq aD;have⟨ah,aE,X,aQ,bx,bM⟩:=hyd6 a3 hnv hB hul3 hvl aX;clear aX hvl hul3 hB hnv a3 aD hq husg lvs lus hvc hg hown;go_wp2
 conv=>arg 2;whnf
 go_wp2;refine wp_loop (qHr us vs ul G m g j c N c2 bv ov cv base W) (λa _=>m+3 - (intOf (a.tmps.getD 84 undef)).toNat) ?start ?round
 case start=>exact⟨_,0,0,0,[],rfl,qA2 _ _ (by kernel_rfl),by omega,by omega,Taking.start _ _ _,World.grownBy.refl _ _,by rw[qFx];exact aN.out⟩
 case round=>
  rintro a T ⟨t,k,ca,bo,pre,rfl,⟨u,rfl⟩,hk,bY,hT,be,aw⟩;have bm:=hT.len;have b6:=hT.bound;have hul3:=aQ.out;have hvl:=bx.out;have⟨H,b⟩:=hyd2 be aw;clear be aw
  by_cases bB:k<m+3
  ·have b9:(k:Int)<(m:Int)+2+1:=by omega
   have bA:k<m+2+1:=by omega
   obtain⟨uk,a1⟩:∃uk,us[k]? =some uk:=⟨_,List.getElem?_eq_getElem (by omega)⟩;have bQ:uk<1000000000:=by rw[<-X.out];exact Q.out _ (List.mem_of_getElem? a1)
   have aL:=qA8 (f:=gv .u32) b.out (by rw[qCm (by omega)];exact hul) (k:=j+k) (x:=uk) (by
    rw[qFy (by omega) (by omega)];have h1:=aR.out k (by omega);rw[List.getElem?_eq_getElem (by omega)]at h1 a1
    rw[h1];exact a1)
   unfold gv at aL;have b8:=b.out.frozenAt (j+k);obtain⟨C,hC⟩:∃C,ca+bo=C:=⟨_,rfl⟩;have bU:(ca:Int)+(bo:Int)=(C:Int):=by omega
   have bF:(bo:Int)+(ca:Int)=(C:Int):=by omega
   rw[hC]at hT b6;have⟨bT,aF⟩:=hyd2 hC a1;clear a1 hC
   by_cases bj:k<m+2
   ·have aM:(k:Int)<(m:Int)+2:=by omega
    obtain⟨vk,M⟩:∃vk,vs[k]? =some vk:=⟨_,List.getElem?_eq_getElem (by omega)⟩;have bw:vk<1000000000:=by rw[<-X.out];exact B.out _ (List.mem_of_getElem? M)
    have bb:=ah.out T k vk H.out M;have z:vs.getD k 0=vk:=by simp[M]
    obtain⟨Pm,an⟩:∃Pm,G*vk=Pm:=⟨_,rfl⟩;have bL:(G:Int)*(vk:Int)=(Pm:Int):=by rw[<-an];simp
    obtain⟨p,hp⟩:∃p,C+Pm=p:=⟨_,rfl⟩;have ce:(C:Int)+(Pm:Int)=(p:Int):=by omega
    have bK:Pm<=4000000000000000000:=by rw[<-an];exact Nat.mul_le_mul hGb (show vk<=1000000000 by omega)
    obtain⟨q,bC⟩:=hT.next (show k<us.length by omega) Q.out B.out (by omega) hGb p (by rw[z,an];exact hp.symm);have L:us[k]'(by omega)=uk:=by have:=aF.out;rw[List.getElem?_eq_getElem (by omega)]at this;simpa using this
    rw[L,X.out]at q;have aO:((p:Nat):Int) / 1000000000=((p / 1000000000:Nat):Int):=by simp
    obtain⟨O,v⟩:∃O,p / 1000000000=O:=⟨_,rfl⟩;obtain⟨r1,ae⟩:∃r1,p%1000000000=r1:=⟨_,rfl⟩;have a0:(p:Int) / 1000000000=(O:Int):=by omega
    have bs:(p:Int)%1000000000=(r1:Int):=by omega
    have br:r1<1000000000:=by omega
    obtain⟨d,hd⟩:∃d,uk+1000000000 - r1=d:=⟨_,rfl⟩;have bd:(uk:Int)+1000000000 - (r1:Int)=(d:Int):=by omega
    obtain⟨n,s⟩:∃n,d%1000000000=n:=⟨_,rfl⟩;have au:(d:Int)%1000000000=(n:Int):=by omega
    have ar:n<1000000000:=by omega
    have ap:d<=2000000000:=by omega
    rw[v,ae,hd,s]at q;clear aO
    have r:∀T:World,T.ownsRow base 82 1 (.slice (some ⟨g,0,none⟩) N c) N ((qAM ul j pre).map (gv .u32))->(T.setCell ⟨g,j+k,none⟩ (.int .u32 (n:Int))).ownsRow base 82 1 (.slice (some ⟨g,0,none⟩) N c) N ((qAM ul j (pre++[n])).map (gv .u32)):=λT h=>by
     have h2:=qAv (f:=gv .u32) h (j+k) n;have h3:=qDo (ul:=ul) (pre:=pre) (j:=j) (by omega) n;rw[bm]at h3;rw[h3]at h2;exact h2
    have⟨bu,a2,bJ,cd,az,bq,bc,aq⟩:=hyd8 M z an hp v ae hd s;have⟨o,aK,aP⟩:=hyd3 r hT L;clear L hT r s hd ae v hp an z M
    by_cases hD:d<1000000000
    ·rw[if_pos hD]at q;have E:decide (d<1000000000)=true:=decide_eq_true hD;have aJ:(d:Int)<1000000000:=by omega
     have⟨F,al⟩:=hyd2 q E;clear E q;go_wp2;exact⟨⟨_,k+1,O,1,pre++[n],rfl,qA2 _ _ (by kernel_rfl),by omega,by omega,by simpa using F.out,qBK H.out _,o.out _ b.out⟩,by simp[intOf];omega⟩
    ·rw[if_neg hD]at q;have E:decide (d<1000000000)=false:=decide_eq_false hD;have aJ:¬(d:Int)<1000000000:=by omega
     have⟨F,al⟩:=hyd2 q E;clear E q;go_wp2;exact⟨⟨_,k+1,O,0,pre++[n],rfl,qA2 _ _ (by kernel_rfl),by omega,by omega,by simpa using F.out,qBK H.out _,o.out _ b.out⟩,by simp[intOf];omega⟩
   ·have bf:k=m+2:=by omega
    have aM:¬(k:Int)<(m:Int)+2:=by omega
    have z:vs.getD k 0=0:=qCt (by omega);obtain⟨p,hp⟩:∃p,C=p:=⟨_,rfl⟩;subst hp;obtain⟨q,bC⟩:=hT.next (show k<us.length by omega) Q.out B.out (by omega) hGb C (by rw[z,Nat.mul_zero,Nat.add_zero]);have L:us[k]'(by omega)=uk:=by have:=aF.out;rw[List.getElem?_eq_getElem (by omega)]at this;simpa using this
    rw[L,X.out]at q;have aO:((C:Nat):Int) / 1000000000=((C / 1000000000:Nat):Int):=by simp
    obtain⟨O,v⟩:∃O,C / 1000000000=O:=⟨_,rfl⟩;obtain⟨r1,ae⟩:∃r1,C%1000000000=r1:=⟨_,rfl⟩;have a0:(C:Int) / 1000000000=(O:Int):=by omega
    have bs:(C:Int)%1000000000=(r1:Int):=by omega
    have br:r1<1000000000:=by omega
    obtain⟨d,hd⟩:∃d,uk+1000000000 - r1=d:=⟨_,rfl⟩;have bd:(uk:Int)+1000000000 - (r1:Int)=(d:Int):=by omega
    obtain⟨n,s⟩:∃n,d%1000000000=n:=⟨_,rfl⟩;have au:(d:Int)%1000000000=(n:Int):=by omega
    have ar:n<1000000000:=by omega
    have ap:d<=2000000000:=by omega
    rw[v,ae,hd,s]at q;clear aO
    have r:∀T:World,T.ownsRow base 82 1 (.slice (some ⟨g,0,none⟩) N c) N ((qAM ul j pre).map (gv .u32))->(T.setCell ⟨g,j+k,none⟩ (.int .u32 (n:Int))).ownsRow base 82 1 (.slice (some ⟨g,0,none⟩) N c) N ((qAM ul j (pre++[n])).map (gv .u32)):=λT h=>by
     have h2:=qAv (f:=gv .u32) h (j+k) n;have h3:=qDo (ul:=ul) (pre:=pre) (j:=j) (by omega) n;rw[bm]at h3;rw[h3]at h2;exact h2
    have⟨a2,bO,az,bq,bc,aq,o,aK⟩:=hyd8 z bf v ae hd s r hT;have aP:=hyd1 L;clear L hT r s hd ae v bf z
    by_cases hD:d<1000000000
    ·rw[if_pos hD]at q;have E:decide (d<1000000000)=true:=decide_eq_true hD;have aJ:(d:Int)<1000000000:=by omega
     have⟨F,al⟩:=hyd2 q E;clear E q;go_wp2;exact⟨⟨_,k+1,O,1,pre++[n],rfl,qA2 _ _ (by kernel_rfl),by omega,by omega,by simpa using F.out,qBK H.out _,o.out _ b.out⟩,by simp[intOf];omega⟩
    ·rw[if_neg hD]at q;have E:decide (d<1000000000)=false:=decide_eq_false hD;have aJ:¬(d:Int)<1000000000:=by omega
     have⟨F,al⟩:=hyd2 q E;clear E q;go_wp2;exact⟨⟨_,k+1,O,0,pre++[n],rfl,qA2 _ _ (by kernel_rfl),by omega,by omega,by simpa using F.out,qBK H.out _,o.out _ b.out⟩,by simp[intOf];omega⟩
  ·obtain rfl:k=m+3:=by omega
   have Z:=hT.low;have R:=hT;rw[show m+3=us.length by omega]at R;have bg:¬(((m+3:Nat):Int)<(m:Int)+2+1):=by omega
   have bh:¬(m+3<m+2+1):=by omega
   have bi:¬((m:Int)+3<(m:Int)+2+1):=by omega
   have bk:us.length=vs.length+1:=by omega
   by_cases a8:ca+bo=0
   ·obtain rfl:ca=0:=by omega
    obtain rfl:bo=0:=by omega
    have P:qCL w V (m+2) N c g base j ul us (.returned (.int .u32 (G:Int))) T:=by
     refine⟨G,pre,rfl,by omega,Z,by omega,λI=>?_,av.out T H.out,b.out⟩;rw[<-aE.out]at I ⊢;obtain⟨f1,f2⟩:=bn.out I;exact(qCk R bk Q.out B.out I f1 f2).1 rfl
    have bW:(G:Int)<4294967296:=by omega
    have⟨ad,aK,aY,S⟩:=hyd4 P hT R Z;clear Z R hT P;go_wp2;go_ret;exact ad.out
   ·have bV:1<=G:=by
     refine Nat.pos_of_ne_zero λh0=>a8 ?_;rw[h0]at R;exact R.zero Q.out (Nat.le_refl _)
    have b7:¬((bo:Int)+(ca:Int)=0):=by omega
    have aZ:((bo:Int)+(ca:Int)==0)=false:=by simp;omega
    have ba:¬(bo=0/\ca=0):=by omega
    have P:∀(l:List Nat) (mo:Nat) (W3:World),Adding pre vs (m+3) mo l->W.grownBy W3 (some g)->W3.ownsRow base 82 1 (.slice (some ⟨g,0,none⟩) N c) N ((qAM ul j (l++pre.drop (m+3))).map (gv .u32))->qCL w V (m+2) N c g base j ul us (.returned (.int .u32 ((G - 1:Nat):Int))) W3:=by
     intro l mo W3 U a9 J;rw[List.drop_eq_nil_of_le (by omega),List.append_nil]at J;refine⟨G - 1,l,rfl,by rw[U.len],U.low,by omega,λI=>?_,av.out W3 a9,J⟩;rw[<-aE.out]at I ⊢;obtain⟨f1,f2⟩:=bn.out I;have bX:=U.bound;rw[show m+3=us.length by omega]at U
     have h9:=(qCk R bk Q.out B.out I f1 f2).2 a8 l (by
      obtain rfl|rfl:mo=1∨mo=0:=by omega
      ·exact .inl U
      ·exact .inr U)
     exact⟨h9.1,h9.2.1⟩
    obtain⟨G1,am⟩:∃G1,G - 1=G1:=⟨_,rfl⟩;have bI:(G:Int) - 1=(G1:Int):=by omega
    have bH:G1<4294967296:=by omega
    rw[am]at P;have ag:T.ownsRow base 82 1 (.slice (some ⟨g,0,none⟩) N c) N ((qAM ul j ([]++pre.drop 0)).map (gv .u32)):=by rw[List.drop_zero,List.nil_append];exact b.out
    have⟨ad,aK,aY,S,bN,b5,ax⟩:=hyd7 P hT R Z a8 am ag;clear ag am a8 Z R hT P;go_wp2;refine wp_loop (qHs pre vs ul G m g j c N c2 bv ov cv base W) (λa _=>m+3 - (intOf (a.tmps.getD 130 undef)).toNat) ?start3 ?round3
    case start3=>exact⟨_,0,0,[],rfl,qA2 _ _ (by kernel_rfl),by omega,Adding.start _ _,H.out,ax.out⟩
    case round3=>
     clear bg bh bi b7 aZ ba;rintro a W3 ⟨t,k,mo,l,rfl,⟨u3,rfl⟩,hk,U,a9,J⟩;have ay:=U.len;have cc:=U.bound;have⟨af,A⟩:=hyd2 a9 J;clear a9 J
     by_cases bB:k<m+3
     ·have b9:(k:Int)<(m:Int)+2+1:=by omega
      have bA:k<m+2+1:=by omega
      obtain⟨xk,Y⟩:∃xk,pre[k]? =some xk:=⟨_,List.getElem?_eq_getElem (by omega)⟩;have cf:xk<1000000000:=by rw[<-X.out];exact S.out _ (List.mem_of_getElem? Y)
      have ai:pre.getD k 0=xk:=by simp[Y]
      have aL:=qA8 (f:=gv .u32) A.out (by rw[qCm (by simp;omega)];exact hul) (k:=j+k) (x:=xk) (by
       have h1:=qGX (ul:=ul) (pre:=l++pre.drop k) (j:=j) (i:=k) (by simp;omega) (by simp;omega);have h2:=qHZ (pre:=pre) ay (show k<pre.length by omega);rw[List.getElem?_eq_getElem (by simp;omega)]at h2;rw[List.getElem?_eq_getElem (by omega)]at Y
       rw[h1,h2];exact Y)
      unfold gv at aL;have b8:=A.out.frozenAt (j+k);obtain⟨s1,aA⟩:∃s1,xk+mo=s1:=⟨_,rfl⟩;have bP:(xk:Int)+(mo:Int)=(s1:Int):=by omega
      by_cases bj:k<m+2
      ·have aM:(k:Int)<(m:Int)+2:=by omega
       obtain⟨vk,M⟩:∃vk,vs[k]? =some vk:=⟨_,List.getElem?_eq_getElem (by omega)⟩;have bw:vk<1000000000:=by rw[<-X.out];exact B.out _ (List.mem_of_getElem? M)
       have bb:=ah.out W3 k vk af.out M;have z:vs.getD k 0=vk:=by simp[M]
       obtain⟨d,hd⟩:∃d,s1+vk=d:=⟨_,rfl⟩;have bd:(s1:Int)+(vk:Int)=(d:Int):=by omega
       have ao:=U.next S.out B.out d (by rw[ai,z];omega);obtain⟨D,ap⟩:=ao;rw[X.out]at D ap;obtain⟨O,v⟩:∃O,d / 1000000000=O:=⟨_,rfl⟩;obtain⟨n,s⟩:∃n,d%1000000000=n:=⟨_,rfl⟩;rw[v,s]at D;have a0:(d:Int) / 1000000000=(O:Int):=by omega
       have au:(d:Int)%1000000000=(n:Int):=by omega
       have ar:n<1000000000:=by omega
       have bp:O<=1:=D.bound
       have r:∀W4:World,W4.ownsRow base 82 1 (.slice (some ⟨g,0,none⟩) N c) N ((qAM ul j (l++pre.drop k)).map (gv .u32))->(W4.setCell ⟨g,j+k,none⟩ (.int .u32 (n:Int))).ownsRow base 82 1 (.slice (some ⟨g,0,none⟩) N c) N ((qAM ul j ((l++[n])++pre.drop (k+1))).map (gv .u32)):=λW4 h=>by
        have h2:=qAv (f:=gv .u32) h (j+k) n;rw[qDp (by simp;omega) (by simp;omega),qFf ay (by omega)]at h2;exact h2
       have⟨az,aq,o,aI,b0,bz,a2,ak⟩:=hyd8 v s r U Y ai z D;have⟨bu,bc,bt⟩:=hyd3 M hd aA;clear aA hd M D z ai Y U r s v;go_wp2;exact⟨⟨_,k+1,O,l++[n],rfl,qA2 _ _ (by kernel_rfl),by omega,ak.out,qBK af.out _,o.out _ A.out⟩,by simp[intOf];omega⟩
      ·have aM:¬(k:Int)<(m:Int)+2:=by omega
       have z:vs.getD k 0=0:=qCt (by omega);have ao:=U.next S.out B.out s1 (by rw[ai,z];omega);obtain⟨D,ap⟩:=ao;rw[X.out]at D ap;obtain⟨O,v⟩:∃O,s1 / 1000000000=O:=⟨_,rfl⟩;obtain⟨n,s⟩:∃n,s1%1000000000=n:=⟨_,rfl⟩;rw[v,s]at D;have a0:(s1:Int) / 1000000000=(O:Int):=by omega
       have au:(s1:Int)%1000000000=(n:Int):=by omega
       have ar:n<1000000000:=by omega
       have bp:O<=1:=D.bound
       have r:∀W4:World,W4.ownsRow base 82 1 (.slice (some ⟨g,0,none⟩) N c) N ((qAM ul j (l++pre.drop k)).map (gv .u32))->(W4.setCell ⟨g,j+k,none⟩ (.int .u32 (n:Int))).ownsRow base 82 1 (.slice (some ⟨g,0,none⟩) N c) N ((qAM ul j ((l++[n])++pre.drop (k+1))).map (gv .u32)):=λW4 h=>by
        have h2:=qAv (f:=gv .u32) h (j+k) n;rw[qDp (by simp;omega) (by simp;omega),qFf ay (by omega)]at h2;exact h2
       have⟨az,aq,o,aI,b0,bz,a2,ak⟩:=hyd8 v s r U Y ai z D;have bt:=hyd1 aA;clear aA D z ai Y U r s v;go_wp2;exact⟨⟨_,k+1,O,l++[n],rfl,qA2 _ _ (by kernel_rfl),by omega,ak.out,qBK af.out _,o.out _ A.out⟩,by simp[intOf];omega⟩
     ·obtain rfl:k=m+3:=by omega
      have bg:¬(((m+3:Nat):Int)<(m:Int)+2+1):=by omega
      have bh:¬(m+3<m+2+1):=by omega
      have bi:¬((m:Int)+3<(m:Int)+2+1):=by omega
      have bG:(1:Int)<=(G:Int):=by omega
      have aI:=hyd1 U;clear U;go_wp2;go_ret;exact ad.out _ _ _ aI.out af.out A.out
theorem qGD (L:Nat->Prop) (V n m N j g c c2 base:Nat) (ul:List Nat) (vv:Value) (w:World) (hv:NumL L .u32 w vv V) (hLg:¬L g) (hn:(dg V).length =n) (hm:n=m+2)
  (htop:B9<4*((dg V)[m+1]'(by omega)+1)) (hown:w.ownsRow base 82 1 (.slice (some ⟨g,0,none⟩) N c) N (ul.map (gv .u32))) (hul:ul.length=N) (lu:Low ul) (hj:j+n+1<=N) (hN:N<=1000000000) (hc2:n+1<=c2/\c2<=maxLen):
  Calls Tryz.prog 74 #[.slice (some ⟨g,j,none⟩) (n+1) c2,vv] w (qCL w V n N c g base j ul ((ul.drop j).take (n+1))):=by
 obtain⟨Av,cv,rfl,b1,b2,bN,b3⟩:=hv;obtain⟨bp,aD⟩:=hc2;unfold maxLen at b2 aD;have hB:=qAD;obtain⟨bv,ov,rfl,ax,aC,ah⟩:=b3 (by omega);have aB:bv≠g:=λe=>hLg (e▸ax);have bo:¬bv=g:=aB;have bI:g<w.heap.size:=(hown.lt g rfl).2;obtain⟨us,ai⟩:∃us,(ul.drop j).take (n+1)=us:=⟨_,rfl⟩;obtain⟨vs,aj⟩:∃vs,dg V=vs:=⟨_,rfl⟩;have aF:nv vs=V:=by rw[<-aj,qAT]
 have v:us.length=m+3:=by rw[<-ai];simp;omega
 have I:vs.length=m+2:=by rw[<-aj];omega
 have E:Low us:=by rw[<-ai];exact(lu.drop j).take _
 have ac:Low vs:=by rw[<-aj];exact qAO V
 have D:∀k (h:k<us.length),ul[j+k]? =some us[k]:=λk h=>by
  subst ai;rw[List.getElem?_eq_getElem (by omega)];simp
 simp only[aj]at htop ah b1 ⊢;rw[I]at b1 ⊢;rw[ai];have H:250000000<=vs[m+1]:=by omega
 have r:∀(W:World) (k y:Nat) (X:List Nat),W.ownsRow base 82 1 (.slice (some ⟨g,0,none⟩) N c) N (X.map (gv .u32))->X.length=N->X[j+k]? =some y->W.cell? ⟨g,j+k,none⟩=some (.int .u32 (y:Int)):=λW k y X h1 h2 h3=>qA8 (f:=gv .u32) h1 h2 h3;have A:∀(W:World) (k:Nat) (h:k<vs.length),w.grownBy W (some g)->W.cell? ⟨bv,ov+k,none⟩=some (.int .u32 (vs[k]:Int)):=λW k h hg=>(World.cell?_of_block (hg.block bv aC (λe=>by injection e;omega))).trans (ah k h);have x0:=A w (m+1) (by omega) (World.grownBy.refl _ _);have x1:=A w m (by omega) (World.grownBy.refl _ _);have y0:=r w (m+2) _ _ hown hul (D (m+2) (by omega));have y1:=r w (m+1) _ _ hown hul (D (m+1) (by omega));have y2:=r w m _ _ hown hul (D m (by omega));have z0:=E.get (m+2) (by omega);have z1:=E.get (m+1) (by omega);have z2:=E.get m (by omega);have z3:=ac.get (m+1) (by omega);have z4:=ac.get m (by omega);have M:=Guess.start (us:=us) (vs:=vs) v I (by omega) E;have ag:=λG l (h:Guess us vs m G l v I)=>h.less E (by omega);have af:=λG l (h:Guess us vs m G l v I) (F:nv us<nv vs*B9)=>h.high E ac (by omega) F;have ae:=λG l (h:Guess us vs m G l v I)=>h.eq;obtain⟨U0,e0⟩:∃U0,us[m+2]=U0:=⟨_,rfl⟩;obtain⟨U1,e1⟩:∃U1,us[m+1]=U1:=⟨_,rfl⟩;obtain⟨U2,e2⟩:∃U2,us[m]=U2:=⟨_,rfl⟩;obtain⟨s,e3⟩:∃s,vs[m+1]=s:=⟨_,rfl⟩
 obtain⟨V2,e4⟩:∃V2,vs[m]=V2:=⟨_,rfl⟩;simp only[e0,e1,e2,e3,e4]at x0 x1 y0 y1 y2 z0 z1 z2 z3 z4 M ag af ae H;rw[hB]at z0 z1 z2 z3 z4 M;simp only[hB]at ag af ae;obtain⟨T,hT⟩:∃T,U0*1000000000+U1=T:=⟨_,rfl⟩;have bG:(U0:Int)*1000000000+(U1:Int)=(T:Int):=by omega
 rw[hT]at M;obtain⟨G0,B⟩:∃G0,T / s=G0:=⟨_,rfl⟩;obtain⟨l0,C⟩:∃l0,T%s=l0:=⟨_,rfl⟩;have f1:(T:Int) / (s:Int)=(G0:Int):=by rw[<-B];simp
 have f2:(T:Int)%(s:Int)=(l0:Int):=by rw[<-C];simp
 have f3:(T:Int).tdiv (s:Int)=(G0:Int):=by rw[Int.tdiv_eq_ediv_of_nonneg (by omega)];exact f1
 have f4:(T:Int).tmod (s:Int)=(l0:Int):=by rw[Int.tmod_eq_emod_of_nonneg (by omega)];exact f2
 have am:G0<=4000000000:=by
  rw[<-B];refine Nat.le_of_lt_succ ((Nat.div_lt_iff_lt_mul (by omega)).2 ?_);have:=Nat.mul_le_mul_left 4000000001 H;omega
 have an:l0<1000000000:=by rw[<-C];exact Nat.lt_trans (Nat.mod_lt _ (by omega)) z3
 rw[B,C]at M;have bn:((s:Int)==0)=false:=by simp;omega
 have be:¬(s:Int)=0:=by omega
 have i1:((m+2:Nat):Int) - 1=((m+1:Nat):Int):=by omega
 have i2:((m+2:Nat):Int) - 2=((m:Nat):Int):=by omega
 subst hm;have⟨ap,a0,bm,aE,bw,bx,bK,a2⟩:=hyd8 hB hown ax ah b3 bN lu D;have⟨aO,aP,aH,aI,bz,b0,b4,b5⟩:=hyd8 r A E ac e0 e1 e2 e3;have⟨b6,al,a8,Q,bk,bb,bf,bF⟩:=hyd8 e4 M ag af ae B C hT;have⟨H,aG⟩:=hyd2 htop aF;clear aF htop hT C B ae af ag M e4 e3 e2 e1 e0 ac E A r D lu bN b3 ah ax hown hB;go_enter Tryz.func74,Tryz.ntmps74;go_wp2;go_quiet (fail);go_wp2;go_quiet (fail);go_wp2
 have U:∀(G k:Nat) (t:Array Value),(∃u:Nat->Value,t=#[.slice (some ⟨g,j,none⟩) (m+2+1) c2,.slice (some ⟨bv,ov,none⟩) (m+2) cv,(u 2),(u 3),(u 4),.int .i64 ((m:Nat)+2),(u 6),.int .u64 (G:Nat),(u 8),(u 9),(u 10),(u 11),(u 12),(u 13),(u 14),(u 15),(u 16),(u 17),(u 18),(u 19),(u 20),(u 21),(u 22),(u 23),(u 24),(u 25),(u 26),(u 27),(u 28),(u 29),(u 30),(u 31),(u 32),(u 33),(u 34),(u 35),(u 36),(u 37),(u 38),(u 39),(u 40),(u 41),(u 42),(u 43),(u 44),(u 45),(u 46),(u 47),(u 48),(u 49),(u 50),(u 51),(u 52),(u 53),(u 54),(u 55),(u 56),(u 57),(u 58),(u 59),(u 60),(u 61),(u 62),(u 63),(u 64),(u 65),(u 66),(u 67),(u 68),(u 69),(u 70),(u 71),(u 72),(u 73),(u 74),(u 75),(u 76),(u 77),(u 78),(u 79),(u 80),(u 81),(u 82),(u 83),(u 84),(u 85),(u 86),(u 87),(u 88),(u 89),(u 90),(u 91),(u 92),(u 93),(u 94),(u 95),(u 96),(u 97),(u 98),(u 99),(u 100),(u 101),(u 102),(u 103),(u 104),(u 105),(u 106),(u 107),(u 108),(u 109),(u 110),(u 111),(u 112),(u 113),(u 114),(u 115),(u 116),(u 117),(u 118),(u 119),(u 120),(u 121),(u 122),(u 123),(u 124),(u 125),(u 126),(u 127),(u 128),(u 129),(u 130),(u 131),(u 132),(u 133),(u 134),(u 135),(u 136),(u 137),(u 138),(u 139),(u 140),(u 141),(u 142),(u 143),(u 144),(u 145),(u 146),(u 147),(u 148),(u 149),(u 150),(u 151),(u 152),(u 153),(u 154),(u 155),(u 156),(u 157),(u 158),(u 159),(u 160),(u 161)])->G<=4000000000->(nv us<nv vs*B9->nv us / nv vs<=G/\G<=nv us / nv vs+1)->∀(K:Act->World->Prop),(∀a w1,tkRest.wp Tryz.prog (bodyPost Tryz.prog Tryz.f74 (qCL w V (m+2) N c g base j ul us)) a w1->K a w1)->tkHead.wp Tryz.prog (Exit.then K (bodyPost Tryz.prog Tryz.f74 (qCL w V (m+2) N c g base j ul us))) {tmps:=t,defers:=[]} (w.drewN k):=λG k t h1 h2 h3=>
  qG3 w V m N j g c c2 base bv ov cv G ul us vs t (w.drewN k) h1 aG.out hul v I aH.out aI.out (λk h=>a2.out k h) (by omega) hN (by omega) b1 a0.out (λk h=>aE.out k h) aB aC ⟨rfl,rfl,rfl,Nat.le_refl _,λ_ _ _=>rfl⟩ h2 h3
 have x:=hyd1 U;clear U;refine wp_loop (GRel us vs m g j c2 bv ov cv v I w) (λa _=>(intOf (a.tmps.getD 7 undef)).toNat) ?start ?round
 case start=>exact⟨_,G0,l0,_,rfl,qA2 _ _ (by kernel_rfl),am,an,al.out,drewN_drewN _ _ _⟩
 case round=>
  rintro a W ⟨t,G,l,kd,rfl,⟨u,rfl⟩,a7,bJ,av,rfl⟩;have bl:=hyd1 av;clear al f1 f2 f3 f4 am an;obtain⟨P,hP⟩:∃P:Nat,G*V2=P:=⟨_,rfl⟩;have bB:(G:Int)*(V2:Int)=(P:Int):=by rw[<-hP];simp
  have bA:P<=4000000000000000000:=by rw[<-hP];exact Nat.mul_le_mul a7 (show V2<=1000000000 by omega)
  obtain⟨S,hS⟩:∃S:Nat,l*1000000000+U2=S:=⟨_,rfl⟩;have bE:(l:Int)*1000000000+(U2:Int)=(S:Int):=by omega
  have bD:S<1000000000000000000:=by omega
  have aw:=Q.out G l av;have ay:=a8.out G l av;rw[hP,hS]at aw ay;have⟨b9,bC,a9,J⟩:=hyd4 hP hS aw ay;clear ay aw hS hP;have a1:((1000000000:Int)<=G/\(1000000000:Int)<=(l:Int)+s)∨((1000000000:Int)<=G/\¬(1000000000:Int)<=(l:Int)+s)∨(¬(1000000000:Int)<=G/\(S:Int)<P/\(1000000000:Int)<=(l:Int)+s)∨
    (¬(1000000000:Int)<=G/\(S:Int)<P/\¬(1000000000:Int)<=(l:Int)+s)∨(¬(1000000000:Int)<=G/\¬(S:Int)<P):=by omega
  rcases a1 with⟨hA,hD⟩| ⟨hA,hD⟩| ⟨hA,hC,hD⟩| ⟨hA,hC,hD⟩| ⟨hA,hC⟩
  rotate_left
  ·have ad:decide ((1000000000:Int)<=(G:Int))=true:=by simpa using hA
   obtain⟨au,hN⟩:=J.out (by omega);obtain⟨i,b⟩:∃i,G - 1=i:=⟨_,rfl⟩;rw[b]at hN;have ar:(G:Int) - 1=(i:Int):=by omega
   obtain⟨q,d⟩:∃q,l+s=q:=⟨_,rfl⟩;rw[d]at hN;have az:(l:Int)+(s:Int)=(q:Int):=by omega
   have o:i<=4000000000:=by omega
   have aq:decide ((1000000000:Int)<=(q:Int))=false:=decide_eq_false (by omega);have⟨R,O,Y⟩:=hyd3 hN b d;clear d b hN;go_wp2;refine wp_region_quiet_lit (by kernel_rfl) (by kernel_rfl) ?_
   repeat (go_big_quiet_step (fail))
   refine wpQuiet_nil ?_;intro _ z;obtain⟨nq,p⟩:=z;subst p;rw[drewN_drewN];go_wp2;exact⟨⟨_,i,q,_,rfl,qA2 _ _ (by kernel_rfl),o,by omega,R.out,rfl⟩,by simp[intOf];omega⟩
  rotate_left
  ·have ad:decide ((1000000000:Int)<=(G:Int))=false:=by simpa using hA
   have a6:decide (S<P)=true:=by simpa using hC
   obtain⟨au,hN⟩:=J.out (by omega);obtain⟨i,b⟩:∃i,G - 1=i:=⟨_,rfl⟩;rw[b]at hN;have ar:(G:Int) - 1=(i:Int):=by omega
   obtain⟨q,d⟩:∃q,l+s=q:=⟨_,rfl⟩;rw[d]at hN;have az:(l:Int)+(s:Int)=(q:Int):=by omega
   have o:i<=4000000000:=by omega
   have aq:decide ((1000000000:Int)<=(q:Int))=false:=decide_eq_false (by omega);have⟨R,O,Y⟩:=hyd3 hN b d;clear d b hN;go_wp2;refine wp_region_quiet_lit (by kernel_rfl) (by kernel_rfl) ?_
   repeat (go_big_quiet_step (fail))
   refine wpQuiet_nil ?_;intro _ z;obtain⟨nq,p⟩:=z;subst p;rw[drewN_drewN];go_wp2;exact⟨⟨_,i,q,_,rfl,qA2 _ _ (by kernel_rfl),o,by omega,R.out,rfl⟩,by simp[intOf];omega⟩
  have ad:decide ((1000000000:Int)<=(G:Int))=false:=by simpa using hA
  have a6:decide (S<P)=false:=by simpa using hC
  have hq:nv us<nv vs*B9->nv us / nv vs<=G/\G<=nv us / nv vs+1:=λF=>by
   have h8:=a9.out (by rw[<-ap.out];exact F) (.inl ⟨by omega,by omega⟩);exact⟨h8.1,h8.2.1⟩
  have o:=a7;have ab:=hyd1 hq;clear hq;go_wp2;refine wp_region_quiet_lit (by kernel_rfl) (by kernel_rfl) ?_
  repeat (go_big_quiet_step (fail))
  refine wpQuiet_nil ?_;intro _ z;obtain⟨nq,p⟩:=z;subst p;rw[drewN_drewN];go_upto_region 8 with(fail);exact x.out G _ _ (qA2 _ _ (by kernel_rfl)) o ab.out _ (by assumption);have ad:decide ((1000000000:Int)<=(G:Int))=true:=by simpa using hA
  obtain⟨au,hN⟩:=J.out (by omega);obtain⟨i,b⟩:∃i,G - 1=i:=⟨_,rfl⟩;rw[b]at hN;have ar:(G:Int) - 1=(i:Int):=by omega
  obtain⟨q,d⟩:∃q,l+s=q:=⟨_,rfl⟩;rw[d]at hN;have az:(l:Int)+(s:Int)=(q:Int):=by omega
  have o:i<=4000000000:=by omega
  have aq:decide ((1000000000:Int)<=(q:Int))=true:=decide_eq_true (by omega);have Z:1000000000<=q:=by omega
  clear hD;have aa:=hyd1 Z;clear Z
  have hq:nv us<nv vs*B9->nv us / nv vs<=i/\i<=nv us / nv vs+1:=λF=>by
   have h8:=Q.out i q hN (by rw[<-ap.out];exact F) (.inr aa.out);exact⟨h8.1,h8.2.1⟩
  have⟨R,ab,O,Y⟩:=hyd4 hN hq b d;clear d b hq hN;go_wp2;refine wp_region_quiet_lit (by kernel_rfl) (by kernel_rfl) ?_
  repeat (go_big_quiet_step (fail))
  refine wpQuiet_nil ?_;intro _ z;obtain⟨nq,p⟩:=z;subst p;rw[drewN_drewN];go_upto_region 8 with(fail);exact x.out i _ _ (qA2 _ _ (by kernel_rfl)) o ab.out _ (by assumption);have ad:decide ((1000000000:Int)<=(G:Int))=false:=by simpa using hA
  have a6:decide (S<P)=true:=by simpa using hC
  obtain⟨au,hN⟩:=J.out (by omega);obtain⟨i,b⟩:∃i,G - 1=i:=⟨_,rfl⟩;rw[b]at hN;have ar:(G:Int) - 1=(i:Int):=by omega
  obtain⟨q,d⟩:∃q,l+s=q:=⟨_,rfl⟩;rw[d]at hN;have az:(l:Int)+(s:Int)=(q:Int):=by omega
  have o:i<=4000000000:=by omega
  have aq:decide ((1000000000:Int)<=(q:Int))=true:=decide_eq_true (by omega);have Z:1000000000<=q:=by omega
  clear hD;have aa:=hyd1 Z;clear Z
  have hq:nv us<nv vs*B9->nv us / nv vs<=i/\i<=nv us / nv vs+1:=λF=>by
   have h8:=Q.out i q hN (by rw[<-ap.out];exact F) (.inr aa.out);exact⟨h8.1,h8.2.1⟩
  have⟨R,ab,O,Y⟩:=hyd4 hN hq b d;clear d b hq hN;go_wp2;refine wp_region_quiet_lit (by kernel_rfl) (by kernel_rfl) ?_
  repeat (go_big_quiet_step (fail))
  refine wpQuiet_nil ?_;intro _ z;obtain⟨nq,p⟩:=z;subst p;rw[drewN_drewN];go_upto_region 8 with(fail);exact x.out i _ _ (qA2 _ _ (by kernel_rfl)) o ab.out _ (by assumption)
end Go.Proofs.YtfmfefibadpobaaGreatDoor

/- read.Find. The chapter's example, plain. alive: the chapter's example runs as it says. alive: the walk. -/
import Derived.Test.YtabfaobakmjiaaaGreatPy19
import Derived.Test.YtabfaobakmjiaaaGreatPy20
import Derived.Test.YtabfaobakmjiaaaGreatPy21
namespace Go.Proofs.YtabfaobakmjiaaaGreat
set_option maxRecDepth 100000
set_option maxHeartbeats 1000000
open Go.RowKit Go.Shelf
set_option linter.unusedVariables false
set_option linter.unusedSimpArgs false
attribute [local go_sem] Oper.semAt_some
theorem qMb:(Tryz.prog.info? 54).map (λi=>(i.zero,i.size,i.bytes))=some (some (.agg #[.int .i64 0,.int .i64 0,.int .i64 0,.int .i64 0,.int .i64 0]),5,40):=by kernel_rfl
theorem qGt {W:World} {a b:Nat} {x y:Value} {t t':TypeId} (ha:W.heap[a]? =some (.cells #[x] t)) (hb:W.heap[b]? =some (.cells #[y] t')) (hne:a≠b) (u v:Value):
  ((W.setCell ⟨a,0,none⟩ u).setCell ⟨b,0,none⟩ v).heap[a]? =some (.cells #[u] t)/\((W.setCell ⟨a,0,none⟩ u).setCell ⟨b,0,none⟩ v).heap[b]? =some (.cells #[v] t'):=
 ⟨(Below.heap_setCell _ ⟨b,0,none⟩ _ a hne).trans (qBe ha 0 u),qBe ((Below.heap_setCell _ ⟨a,0,none⟩ _ b (Ne.symm hne)).trans hb) 0 v⟩
theorem SV.keepC {α:Type} {k:Nat} {enc:α->List Value} {w W:World} {v:Value} {L:List α} (h:SV k enc w v L) (hk:∀(k:Nat) (o:Obj),w.heap[k]? =some o->o.isCells=true->W.heap[k]? =some o) (hs:w.heap.size<=W.heap.size) (hk0:∀x,0<(enc x).length):SV k enc W v L:=by
 obtain⟨A,c,y,l,m,p,n⟩:=h;refine⟨A,c,y,l,m,p,λg=>?_⟩;obtain⟨b,off,q,f,r⟩:=n g;refine⟨b,off,q,Nat.lt_of_lt_of_le f hs,λj s i u t=>?_⟩;have d:=r j s i u t;refine(World.cell?_of_block (a:=⟨b,off+j*k+i,none⟩) ?_).trans d;show W.heap[b]? =w.heap[b]?
 cases e:w.heap[b]? with
 | none=>simp[World.cell?,e]at d
 | some o=>
  refine hk b o e ?_
  cases o<;>first |rfl|simp[World.cell?,e]at d
def FiI (W3:World) (Lb:Nat) (pre:List Fnd) (W:World):Prop:=pre.length<=400/\Below Lb W3 W/\W3.heap.size<=W.heap.size/\∃v,W.heap[Lb]? =some (.cells #[v] 61)/\W.ownsRow W3.heap.size 54 5 v pre.length (pre.flatMap qBh)
def FiX (w:World) (c:Code) (pre:List Fnd) (W:World):Prop:=c= .ret /\400<pre.length/\Below w.heap.size w W/\W.heap[w.heap.size+1]? =some (.cells #[.slice none 0 0] 61)/\W.heap[w.heap.size+2]? =some (.cells #[.int .i64 4] 27)
theorem qN6 (v:Value) (p:Pic) (w:World) (hp:IsPic w v p) (hf:p.Fit) (hst:p.steps<=24):
  Calls Tryz.prog 17 #[v] w λe w'=>∃v',e= .returned (.tuple #[v',.int .i64 (qD4 p)])/\Below w.heap.size w w'/\FndL w' v' (qEI p):=by
 have bf:=hp;obtain⟨vh,vr,rfl,hh,hr⟩:=hp;obtain⟨HA,hc,rfl,co⟩:=hh.slice;obtain⟨RA,rc,rfl,ct⟩:=hr.slice;unfold maxLen at co ct;obtain⟨W1,b5,aZ,k1⟩:=newb w (.cells #[.slice HA p.hs.length hc,.int .i64 p.tl,.int .i64 p.th,.int .i64 p.al,.int .i64 p.ah,.slice RA p.rds.length rc] 51);obtain⟨br,aM,ag,bi⟩:=newb W1 (.cells #[.slice none 0 0] 61);obtain⟨cd,b6,P,bj⟩:=newb br (.cells #[.int .i64 0] 27);have z1:W1.heap.size=w.heap.size+1:=by rw[<-b5];simp
 have cI:br.heap.size=w.heap.size+2:=by rw[<-aM];simp[z1]
 have a5:=qAA aZ (qAA ag P);have kp:=blk P (blk ag k1);have bn:=blk P bi;have bo:=bj;rw[z1]at bn;rw[cI]at bo;obtain⟨c0,c1,c2,c3,c4,c5⟩:=pc6 kp;have bl:=qFZ _ p cd (bf.le a5) hf;obtain⟨E,hE⟩:∃E,picE p=E:=⟨_,rfl⟩;rw[hE]at bl;have bz:E=if picB p then 0 else 90:=by rw[<-hE];rfl
 have⟨bE,dz,d5,dy,cV,cj,ck,bQ⟩:=hyd8 bf hh hr hf aZ ag P k1;have⟨dc,dd,bV,dr,aL,cB,bW,bX⟩:=hyd8 bi bj bl hE bz kp bn bo;have bb:=hyd1 a5;clear a5 bo bn kp bz hE bl bj bi k1 P ag aZ hf hr hh bf;refine(callsIn_wide (n:=5)).1 ?_;refine callsIn_of_wp_marks Tryz.func17 rfl trivial ?_ rfl;simp only[Tryz.ntmps17,List.size_toArray,List.length_cons,List.length_nil,Nat.reduceAdd,Nat.reduceSub,Array.replicate_succ,Array.replicate_zero,List.push_toArray,List.append_toArray,List.nil_append,List.cons_append];refine wpIn_wide.2 ?_;go_wp2_with (fail);clear b5 aM b6;go_at_call 24;refine bV.out.mono ?_;rintro e W2 ⟨rfl,Q⟩;have G:=qAA bb.out Q;have aA:=blk Q cB.out;have C:=blk Q bW.out;have q:=blk Q bX.out;clear c0 c1 c2 c3 c4 c5
 cases hB:picB p with
 | false=>
  have aW:E=90:=by rw[aL.out,hB];rfl
  have a9:qD4 p=90:=by unfold qD4;rw[hB];rfl
  have hv:qEI p=[]:=by unfold qEI;rw[a9];rfl
  have d1:=qAO C;have d2:=qAO q;have f1:=pfrz C 0;have f2:=pfrz q 0;have cF:¬w.heap.size+1=w.heap.size+2:=by omega
  have b8:Below w.heap.size w ((W2.setCell ⟨w.heap.size+1,0,none⟩ (.slice none 0 0)).setCell ⟨w.heap.size+2,0,none⟩ (.int .i64 90)):=Below.setCell (Below.setCell G (p:=⟨w.heap.size+1,0,none⟩) (Nat.le_succ _) _) (p:=⟨w.heap.size+2,0,none⟩) (by show w.heap.size<=w.heap.size+2;omega) _;subst aW;have⟨b7,ba,bR,aD,bg,cv,aB,aC⟩:=hyd8 Q G aA hB a9 hv C q;have b9:=hyd1 b8;clear b8 q C hv a9 hB aA G Q;have N:=qGt aB.out aC.out cF (.slice none 0 0) (.int .i64 90);have m:=hyd1 N;clear N;go_wp2;refine qAI w.heap.size [] _ trivial λw9 hb d=>?_;have S:=qAO (d _ _ m.out.1 rfl);have q2:=qAO (d _ _ m.out.2 rfl);exact⟨.tuple #[.slice none 0 0,.int .i64 90],by simp[results,Tryz.results17,go_sem,S,q2],_,by rw[bg.out],b9.out.trans hb,by rw[cv.out];exact SV.nil _⟩
 | true=>
  have aW:E=0:=by rw[aL.out,hB];rfl
  subst aW;have be:=picB_iff.1 hB;have a8:=be.toM;obtain⟨g,b3⟩:∃b,W2.heap.size=b:=⟨_,rfl⟩;obtain⟨X,dv,Z,k3⟩:=newb W2 (.cells #[.slice none 0 0] 61);have aH:=gsl q;have ci:g<X.heap.size:=by rw[<-b3];exact gsl k3
  rw[b3]at k3 Z aH;have a0:Below w.heap.size w X:=G.trans (Z.mono (by omega));have bm:=(Z.block _ (by omega)).trans aA;have aO:=(Z.block _ (by omega)).trans C;have aP:=(Z.block _ aH).trans q;obtain⟨c0,c1,c2,c3,c4,c5⟩:=pc6 bm;obtain⟨W4,dw,ao,k4⟩:=newb X (.cells #[.slice HA p.hs.length hc,.int .i64 p.tl,.int .i64 p.th,.int .i64 p.al,.int .i64 p.ah,.slice RA p.rds.length rc] 51);have a2:=qAA a0 ao;have d6:w.heap.size+2<g:=aH;have bO:=ao.size;have d8:w.heap.size<X.heap.size:=by omega
  have bB:=qGK qKw p _ _ w W4 X.heap.size w.heap.size bE.out a8 hst (Nat.le_refl _) (by omega) a2 rfl k4;have b0:FiI X g [] W4:=⟨Nat.zero_le _,ao.mono (by omega),bO,_,blk ao k3,World.ownsRow_nil _ _ _ _⟩;have⟨b7,ba,bR,aB,aC,aD,da,cr⟩:=hyd8 Q G aA C q hB be a8;have⟨cW,dC,a1,df,ad,ae,cX,dD⟩:=hyd8 Z k3 a0 bm aO aP ao k4;have⟨cl,bC,b1⟩:=hyd3 a2 bB b0;clear b0 bB a2 k4 ao aP aO bm a0 k3 Z a8 be hB q C aA G Q;have dt:∀A:World,W4.heap.size<=A.heap.size->g<A.heap.size:=λA h=>by omega
  go_wp2_with (first | (go_at_call 48;((with_reducible refine(qHL _ _ _ rfl rfl).mono ?_);rintro e w' ⟨rfl,rfl⟩)));refine(wpIn_wide (n:=5)).1 ?_;refine qBU rfl (by omega) (gf:=96) (lb:=#[.pointer (some ⟨X.heap.size,0,none⟩)]) rfl trivial (enters_of Tryz.func96 (by kernel_rfl) rfl)
   bC.out KeepT.trans (λV l o o' hl h hc _=>KeepT.put o' (by omega) h hc) (Below.refl _ _) (λ_=>rfl)
   (FiI X g) (FiX w)
   (λs A B aw hs F hr=>by
    obtain⟨h1,h2,h3,v,h4,h5⟩:=hs
    exact⟨h1,qCz (w:=X) (by omega) (by omega) () A B aw h2 F hr,Nat.le_trans h3 F.size,v,qBf W4.heap.size _ _ _ () A B aw h4 F hr,qJ0 h5 F (λr e=>(hr r e).2)⟩)
   (λc s A B aw hs F hr=>by
    obtain⟨h1,h2,h3,h4,h5⟩:=hs
    exact⟨h1,h2,qCz (w:=w) (by omega) (Nat.le_refl _) () A B aw h3 F hr,qBf W4.heap.size _ _ _ () A B aw h4 F hr,qBf W4.heap.size _ _ _ () A B aw h5 F hr⟩)
   b1.out (λ_ x a' V=>∃(u:Nat->Value) (Fb:Nat),a'={tmps:=#[u 0,.pointer (some ⟨w.heap.size,0,none⟩),.pointer (some ⟨w.heap.size+1,0,none⟩),.pointer (some ⟨w.heap.size+2,0,none⟩),(u 4),.pointer (some ⟨g,0,none⟩),.pointer (some ⟨Fb,0,none⟩),(u 7),(u 8),(u 9),(u 10),(u 11),(u 12),(u 13),(u 14),(u 15),(u 16),(u 17),(u 18),(u 19),(u 20),(u 21),(u 22),(u 23),(u 24),(u 25)],defers:=[]}/\V.heap[Fb]? =some (.cells #[.int .i64 x.head,.int .i64 x.throw,.int .i64 x.adv,.int .i64 x.lo,.int .i64 x.hi] 54))
   (λaf x a' V o o' h hr=>by obtain⟨u,Fb,h1,h3⟩:=h;exact⟨u,Fb,h1,(World.putObj_heap_other (λe=>by rw[e,hr]at h3;cases h3)).trans h3⟩) ?assign ?body ?done ?stop
  case assign=>
   intro la af x V K hI hG hK;dsimp only[qKQ,fndV];gi_wp2;obtain⟨h1,h2,h3,v,h4,h5⟩:=hI;have f:Below V.heap.size V (V.alloc (.cells #[.int .i64 x.head,.int .i64 x.throw,.int .i64 x.adv,.int .i64 x.lo,.int .i64 x.hi] 54)):=(Below.refl _ V).alloc (Nat.le_refl _) _;have bh:=f.size;refine hK _ _ ((KeepsOthers.alloc _ _).from _) (KeepT.fresh f (by omega)) ⟨h1,h2.trans (f.mono (by omega)),by omega,v,blk f h4,qAK h5 f⟩ ?_;obtain⟨u,hu⟩:=qFR (λu:Nat->Value=>#[u 0,.pointer (some ⟨w.heap.size,0,none⟩),.pointer (some ⟨w.heap.size+1,0,none⟩),.pointer (some ⟨w.heap.size+2,0,none⟩),(u 4),.pointer (some ⟨g,0,none⟩),.pointer (some ⟨V.heap.size,0,none⟩),(u 7),(u 8),(u 9),(u 10),(u 11),(u 12),(u 13),(u 14),(u 15),(u 16),(u 17),(u 18),(u 19),(u 20),(u 21),(u 22),(u 23),(u 24),(u 25)]) _ (by kernel_rfl);exact⟨u,V.heap.size,congrArg (λt=>({tmps:=t,defers:=[]}:Act)) hu,heap_alloc_new _ _⟩
  case body=>
   rintro la af x a' V ⟨M,f,bh,v,kL,ho⟩ ⟨u,Fb,rfl,kF⟩ I;obtain⟨n,T⟩:∃n,af.length=n:=⟨_,rfl⟩;have ap:=ho;rw[T]at M ap;obtain⟨U,Y,rfl⟩:=qAH ap;have kc:=qAO kL;have kf:=pfrz kL 0;obtain⟨d0,d1,d2,d3,d4⟩:=pc5 kF;obtain⟨Wa,dx,z,ka⟩:=newb V (.cells #[.int .i64 x.head,.int .i64 x.throw,.int .i64 x.adv,.int .i64 x.lo,.int .i64 x.hi] 54);have aq:=qAK ho z;have bP:X.heap.size<=Wa.heap.size:=Nat.le_trans bh z.size
   have ai:∀(i:Nat) (y:Value),(qBh x)[i]? =some y->Wa.cell? ⟨V.heap.size,i,none⟩=some y:=λi y hu=>by
    have cp:i<5:=(List.getElem?_eq_some_iff.1 hu).1;obtain⟨n0,n1,n2,n3,n4⟩:=pc5 ka
    match i,cp with
    | 0,_=>rw[n0];simpa[qBh]using hu
    | 1,_=>rw[n1];simpa[qBh]using hu
    | 2,_=>rw[n2];simpa[qBh]using hu
    | 3,_=>rw[n3];simpa[qBh]using hu
    | 4,_=>rw[n4];simpa[qBh]using hu
   have aE:∀w7,Wa.grownBy w7 (Value.slice U n Y).ownBlock ->w7.heap[g]? =some (.cells #[.slice U n Y] 61)/\Below g X w7/\KeepT w.heap.size V w7/\KeepsFrom W4.heap.size V w7:=λw7 F=>by
    have aj:∀r,(Value.slice U n Y).ownBlock =some r->X.heap.size<=r/\∃cs,Wa.heap[r]? =some (.cells cs 54):=λr e=>by
     obtain⟨S,q2⟩:=aq.lt r e;refine⟨S,?_⟩
     cases U with
     | none=>cases e
     | some a=>
      injection e with e;subst e;exact TagAt.of_own aq a n Y rfl
    have cm:Below g X Wa:=f.trans (z.mono (by omega));refine⟨(F.block g (by have:=gsl (blk z kL);omega) (λe=>by have:=(aj g e.symm).1;omega)).trans (blk z kL),Below.grown cm F (by omega) (λr e=>by have:=(aj r e).1;omega),?_,?_⟩
    ·refine(KeepT.fresh z (by omega)).trans ?_
     cases hown:(Value.slice U n Y).ownBlock with
     | none=>rw[hown]at F;exact KeepT.fresh ⟨F.os,F.tape,F.output,F.size,λk hk=>F.block k hk (by simp)⟩ (by omega)
     | some r=>
      obtain⟨S,cs,q2⟩:=aj r hown;rw[hown]at F;exact KeepT.of_grown F (by omega) (by omega) (λdm t h=>by rw[q2]at h;cases h;unfold qHv;decide)
    ·refine(KeepsFrom.of_grownBy (qBp z) (λj e=>by cases e)).trans ⟨F.size,λk o hk h1 h2=>(F.block k (gsl h1) (λe=>?_)).trans h1⟩;obtain⟨-,cs,q2⟩:=aj k e.symm;rw[q2]at h1
     cases h1
     cases h2
   have aF:(af++[x]).length =n+1:=by rw[List.length_append,T];rfl
   by_cases h4:n+1<=400
   ·have j1:¬(400:Int)<((n+1:Nat):Int):=by omega
    have j2:¬(400:Int)<(n:Int)+1:=by omega
    have j3:¬400<n+1:=by omega
    have⟨R,bk,bc,bD,cz,bA,c6,a7⟩:=hyd8 f kL ho ap kF z ka aq;have⟨aa,H,a6,J⟩:=hyd4 ai aE T aF;clear aF T aE ai aq ka z kF ap ho kL f;gi_wp2_with (first | (gi_at_builtin;refine qE5 (enc:=qBh) (k:=5) (bytes:=40) _ rfl _ _ 61 (λ_=>rfl) (λx u hu=>by simp[qBh]at hu;rcases hu with rfl|rfl|rfl|rfl|rfl<;>rfl) (by decide) rfl (by decide) rfl X.heap.size 54 Tryz.underlying61 qMb (.slice U n Y) af rfl a7.out V.heap.size x rfl aa.out (by rw[a6.out];omega) bP ?_;intro v7 w7 S q2 q3;rw[J.out]at S;(obtain⟨A7,c7,rfl⟩:=qAH S);(obtain⟨ac,-,-,-⟩:=H.out w7 q2);have c8:=qAO ac;have c9:=pfrz ac 0));obtain⟨-,L,b2,aX⟩:=H.out w7 q2;have cw:=L.size;exact⟨aX.trans ((KeepsOthers.setCell _ _ _).from _),b2.trans (KeepT.setCell _ (by omega) ac (by unfold qHv;decide)),by rw[J.out];exact h4,Below.setCell L (p:=⟨g,0,none⟩) (Nat.le_refl _) _,by simpa using cw,_,qBe ac 0 _,qCA (by rw[J.out];exact S) ci _⟩
   ·have j1:(400:Int)<((n+1:Nat):Int):=by omega
    have j2:(400:Int)<(n:Int)+1:=by omega
    have j3:400<n+1:=by omega
    have n1:¬w.heap.size+1=g:=by omega
    have n2:¬w.heap.size+2=g:=by omega
    have n3:¬g=w.heap.size+1:=by omega
    have n4:¬g=w.heap.size+2:=by omega
    have n5:¬w.heap.size+1=w.heap.size+2:=by omega
    have⟨R,bk,bc,bD,cz,bA,c6,a7⟩:=hyd8 f kL ho ap kF z ka aq;have⟨aa,H,a6,J⟩:=hyd4 ai aE T aF;clear aF T aE ai aq ka z kF ap ho kL f;gi_wp2_with (first | (gi_at_builtin;refine qE5 (enc:=qBh) (k:=5) (bytes:=40) _ rfl _ _ 61 (λ_=>rfl) (λx u hu=>by simp[qBh]at hu;rcases hu with rfl|rfl|rfl|rfl|rfl<;>rfl) (by decide) rfl (by decide) rfl X.heap.size 54 Tryz.underlying61 qMb (.slice U n Y) af rfl a7.out V.heap.size x rfl aa.out (by rw[a6.out];omega) bP ?_;intro v7 w7 S q2 q3;rw[J.out]at S;(obtain⟨A7,c7,rfl⟩:=qAH S);(obtain⟨ac,-,-,-⟩:=H.out w7 q2);have c8:=qAO ac;have c9:=pfrz ac 0;(obtain⟨-,L,-,-⟩:=H.out w7 q2);have m1:=(L.block _ (show w.heap.size+1<g by omega)).trans ad.out;have m2:=(L.block _ (show w.heap.size+2<g by omega)).trans ae.out;have p1:=qAO m1;have p2:=qAO m2;have f1:=pfrz m1 0;have f2:=pfrz m2 0));obtain⟨-,L,b2,aX⟩:=H.out w7 q2;have m1:=(L.block _ (show w.heap.size+1<g by omega)).trans ad.out;have m2:=(L.block _ (show w.heap.size+2<g by omega)).trans ae.out;obtain⟨y1,y2⟩:=qGt ((Below.heap_setCell _ ⟨g,0,none⟩ (.slice A7 (n+1) c7) (w.heap.size+1) n1).trans m1) ((Below.heap_setCell _ ⟨g,0,none⟩ (.slice A7 (n+1) c7) (w.heap.size+2) n2).trans m2) n5 (.slice none 0 0) (.int .i64 4);have O:Below w.heap.size w w7:=a1.out.trans (L.mono (by omega))
    refine⟨aX.trans ((((KeepsOthers.setCell _ _ _).from _).trans ((KeepsOthers.setCell _ _ _).from _)).trans ((KeepsOthers.setCell _ _ _).from _)),rfl,by rw[J.out];omega,?_,y1,y2⟩;exact Below.setCell (Below.setCell (Below.setCell O (p:=⟨g,0,none⟩) (by show w.heap.size<=g;omega) _) (p:=⟨w.heap.size+1,0,none⟩) (Nat.le_succ _) _) (p:=⟨w.heap.size+2,0,none⟩) (by show w.heap.size<=w.heap.size+2;omega) _
  case done=>
   rintro D xs V hD hS ⟨M,f,bh,v,kL,ho⟩ hK;obtain rfl:xs=qBH p:=hS;have aG:=SV.of_own (e:=54) (enc:=qBh) (λ_=>rfl) ho;obtain⟨n,T⟩:∃n,(qBH p).length =n:=⟨_,rfl⟩;rw[T]at M ho;obtain⟨U,Y,rfl⟩:=qAH ho;have kc:=qAO kL;have m1:=(f.block _ (show w.heap.size+1<g by omega)).trans ad.out;have m2:=(f.block _ (show w.heap.size+2<g by omega)).trans ae.out;have p1:=qAO m1;have p2:=qAO m2;have f1:=pfrz m1 0;have f2:=pfrz m2 0;have n5:¬w.heap.size+1=w.heap.size+2:=by omega
   have O:Below w.heap.size w V:=a1.out.trans (f.mono (by omega));have aJ:D≠w.heap.size+1:=by omega
   have aK:D≠w.heap.size+2:=by omega
   by_cases hz:n=0
   ·have aV:qD4 p=6:=by unfold qD4;rw[aD.out,if_pos rfl,if_pos (List.eq_nil_of_length_eq_zero (by rw[T];exact hz))]
    have bM:qEI p=[]:=by unfold qEI;rw[aV];rfl
    have N:=qGt m1 m2 n5 (.slice none 0 0) (.int .i64 6);have ay:((V.setCell ⟨w.heap.size+1,0,none⟩ (.slice none 0 0)).setCell ⟨w.heap.size+2,0,none⟩ (.int .i64 6)).heap[D]? =some (.deferred (some [])):=(Below.heap_setCell _ ⟨w.heap.size+2,0,none⟩ _ D aK).trans ((Below.heap_setCell _ ⟨w.heap.size+1,0,none⟩ _ D aJ).trans hK);have a3:=Below.setCell (Below.setCell O (p:=⟨w.heap.size+1,0,none⟩) (Nat.le_succ _) (.slice none 0 0)) (p:=⟨w.heap.size+2,0,none⟩) (by show w.heap.size<=w.heap.size+2;omega) (.int .i64 6);subst hz;have⟨bH,a6,bc,R,cC,cD,bu,bk⟩:=hyd8 aG T ho f m1 m2 O kL;have⟨bx,bN,m,az,aY,a4⟩:=hyd6 aV bM N ay hK a3;clear a3 hK ay N bM aV kL O m2 m1 f ho T aG;go_wp2;refine qAI w.heap.size [{target:= .collected D,args:=#[]}] _ ⟨⟨D,rfl,by omega,az.out,by simp⟩,trivial⟩ λw9 hb d=>?_;have S:=qAO (d _ _ m.out.1 rfl);have q2:=qAO (d _ _ m.out.2 rfl);exact⟨.tuple #[.slice none 0 0,.int .i64 6],by simp[results,Tryz.results17,go_sem,S,q2],_,by rw[bx.out],a4.out.trans hb,by rw[bN.out];exact SV.nil _⟩
   ·have aH:0<n:=Nat.pos_of_ne_zero hz;have d7:¬(n:Int)=0:=by omega
    have aT:qD4 p=0:=by
     unfold qD4;rw[aD.out,if_pos rfl,if_neg (λh=>by rw[h]at T;exact hz T.symm),if_neg (by omega)]
    have bI:qEI p=qBH p:=by unfold qEI;rw[aT];rfl
    have N:=qGt m1 m2 n5 (.slice U n Y) (.int .i64 0);have ay:((V.setCell ⟨w.heap.size+1,0,none⟩ (.slice U n Y)).setCell ⟨w.heap.size+2,0,none⟩ (.int .i64 0)).heap[D]? =some (.deferred (some [])):=(Below.heap_setCell _ ⟨w.heap.size+2,0,none⟩ _ D aK).trans ((Below.heap_setCell _ ⟨w.heap.size+1,0,none⟩ _ D aJ).trans hK);have a3:=Below.setCell (Below.setCell O (p:=⟨w.heap.size+1,0,none⟩) (Nat.le_succ _) (.slice U n Y)) (p:=⟨w.heap.size+2,0,none⟩) (by show w.heap.size<=w.heap.size+2;omega) (.int .i64 0);have bd:=qCA (qCA ho (B:=w.heap.size+1) (k:=0) (by omega) (.slice U n Y)) (B:=w.heap.size+2) (k:=0) (by omega) (.int .i64 0);have bF:FndL ((V.setCell ⟨w.heap.size+1,0,none⟩ (.slice U n Y)).setCell ⟨w.heap.size+2,0,none⟩ (.int .i64 0)) (.slice U n Y) (qBH p):=SV.of_own (e:=54) (enc:=qBh) (λ_=>rfl) (by rw[T];exact bd);have⟨bH,a6,bc,R,cC,cD,bu,bk⟩:=hyd8 aG T ho f m1 m2 O kL;have⟨bv,bJ,m,az,aY,a4,cZ,bG⟩:=hyd8 aT bI N ay hK a3 bd bF;clear bF bd a3 hK ay N bI aT kL O m2 m1 f ho T aG;go_wp2;refine qAI w.heap.size [{target:= .collected D,args:=#[]}] _ ⟨⟨D,rfl,by omega,az.out,by simp⟩,trivial⟩ λw9 hb d=>?_;have S:=qAO (d _ _ m.out.1 rfl);have q2:=qAO (d _ _ m.out.2 rfl);exact⟨.tuple #[.slice U n Y,.int .i64 0],by simp[results,Tryz.results17,go_sem,S,q2],_,by rw[bv.out],a4.out.trans hb,by rw[bJ.out];exact SV.keepC bG.out d hb.size (λ_=>by show 0<5;decide)⟩
  case stop=>
   rintro D c af V hD hS ⟨rfl,M,f,k1,k2⟩ hK;have I:400<(qBH p).length :=Nat.lt_of_lt_of_le M hS.1.length_le
   have aU:qD4 p=4:=by
    unfold qD4;rw[aD.out,if_pos rfl,if_neg (λh=>by rw[h]at I;exact absurd I (by decide)),if_pos I]
   have bK:qEI p=[]:=by unfold qEI;rw[aU];rfl
   refine wpIn_wide.2 ?_;have⟨R,bQ,cx,bw,bL,cq,du,aY⟩:=hyd8 f k1 k2 aU bK I hS hK;clear hK hS I bK aU k2 k1 f;go_wp2;refine qAI w.heap.size [{target:= .collected D,args:=#[]}] _ ⟨⟨D,rfl,by omega,aY.out,by simp⟩,trivial⟩ λw9 hb d=>?_;have S:=qAO (d _ _ bQ.out rfl);have q2:=qAO (d _ _ cx.out rfl);exact⟨.tuple #[.slice none 0 0,.int .i64 4],by simp[results,Tryz.results17,go_sem,S,q2],_,by rw[bw.out],R.out.trans hb,by rw[bL.out];exact SV.nil _⟩
end Go.Proofs.YtabfaobakmjiaaaGreat
namespace Go.Proofs.YtabfaobakmjiaaaGreat
set_option maxRecDepth 100000
set_option maxHeartbeats 1000000
set_option linter.unusedVariables false
def exP:Pic:=⟨[⟨[0,3,0,0,3,0],[0]⟩],1,2,10,10,[⟨0,0,100,100⟩,⟨0,1,106,106⟩,⟨0,2,100,100⟩,⟨1,2,116,116⟩]⟩
def exQ:Pic:=⟨[⟨[0,3,0,0,3,0],[0]⟩],1,2,10,10,[⟨0,0,100,100⟩,⟨0,1,106,106⟩,⟨0,2,100,100⟩,⟨1,2,116,116⟩,⟨1,5,110,110⟩]⟩
open Go.RowKit Go.Shelf
set_option linter.unusedSimpArgs false
theorem qG3 {W:World} {base e size b n:Nat} {cs:List Value} (h:W.heap[b]? =some (.cells cs.toArray e)) (hb:base<=b) (hl:cs.length=n*size) (hm:n<=maxLen):W.ownsRow base e size (.slice (some ⟨b,0,none⟩) n n) n cs:=
 ⟨hl,.inr ⟨b,n,cs.toArray,rfl,hb,h,Nat.le_refl _,hm,by simpa using hl,by simp[<-hl]⟩⟩
theorem qBl {W:World} {b e:Nat} (xs:List Int) (n:Nat) (hn:xs.length=n) (h:W.heap[b]? =some (.cells (xs.map vint).toArray e)) (hm:n<=maxLen):Ints W (.slice (some ⟨b,0,none⟩) n n) xs:=by
 subst hn;exact Arr.of_own (qG3 (base:=0) (size:=1) h (Nat.zero_le _) (by simp) hm)
theorem qSJ {W:World} {X:Nat} {a b c d e:Value} {t:TypeId} (h:W.heap[X]? =some (Obj.cells #[a,b,c,d,e] t)) (u0 u1 u2 u3 u4:Value):(((((W.setCell ⟨X,0,none⟩ u0).setCell ⟨X,1,none⟩ u1).setCell ⟨X,2,none⟩ u2).setCell ⟨X,3,none⟩ u3).setCell ⟨X,4,none⟩ u4).heap[X]? =some (.cells #[u0,u1,u2,u3,u4] t):=by
 simp only[World.setCell,Array.getElem?_modify,h];simp
theorem qRi {n:Nat} {w W:World} {X:Nat} (h:Below n w W) (hX:n<=X) (u0 u1 u2 u3 u4:Value):Below n w (((((W.setCell ⟨X,0,none⟩ u0).setCell ⟨X,1,none⟩ u1).setCell ⟨X,2,none⟩ u2).setCell ⟨X,3,none⟩ u3).setCell ⟨X,4,none⟩ u4):=
 ((((Below.setCell h (p:=⟨X,0,none⟩) hX _).setCell (p:=⟨X,1,none⟩) hX _).setCell (p:=⟨X,2,none⟩) hX _).setCell (p:=⟨X,3,none⟩) hX _).setCell (p:=⟨X,4,none⟩) hX _
theorem qKD (w:World):Calls Tryz.prog 14 #[] w λe w'=>∃vh vr z,e= .returned (.agg #[vh,.int .i64 1,.int .i64 2,.int .i64 10,.int .i64 10,vr])/\Below w.heap.size w w'/\w.heap.size<=z/\z<=w'.heap.size/\(∀V:World,z<=V.heap.size->(∀b,b<z->V.heap[b]? =w'.heap[b]?)->HeadsL V vh exP.hs)/\w'.ownsRow z 60 4 vr 4 (exP.rds.flatMap qBA):=by
 obtain⟨D,a0,m,F⟩:=newb w (.cells #[.slice none 0 0,.int .i64 0,.int .i64 0,.int .i64 0,.int .i64 0,.slice none 0 0] 51);obtain⟨E,a1,q,G⟩:=newb D (.cells #[.int .i64 0,.int .i64 3,.int .i64 0,.int .i64 0,.int .i64 3,.int .i64 0] 3);obtain⟨l,a2,o,H⟩:=newb E (.cells #[.int .i64 0] 3);obtain⟨p,a3,i,I⟩:=newb l (.cells #[.slice (some ⟨D.heap.size,0,none⟩) 6 6,.slice (some ⟨E.heap.size,0,none⟩) 1 1] 113);obtain⟨W5,a4,d,Z⟩:=newb p (.cells #[.int .i64 0,.int .i64 0,.int .i64 100,.int .i64 100,.int .i64 0,.int .i64 1,.int .i64 106,.int .i64 106,.int .i64 0,.int .i64 2,.int .i64 100,.int .i64 100,.int .i64 1,.int .i64 2,.int .i64 116,.int .i64 116] 60);have f:=qAA q (qAA o (qAA i d));have c:=blk f F;have r:=blk (qAA o (qAA i d)) G;have s:=blk (qAA i d) H;have t:=blk d I;have g:=qAA m f;have z1:=m.size;have z2:=gsl G;have z3:=gsl H;have z4:=gsl I;have z5:=d.size;have zw:=gsl F;obtain⟨J,L,M,N,O,P⟩:=pc6 c;have f0:=pfrz c 0;have f1:=pfrz c 1;have f2:=pfrz c 2;have f3:=pfrz c 3;have f4:=pfrz c 4;have f5:=pfrz c 5;have p6:=qKP c (.slice (some ⟨l.heap.size,0,none⟩) 1 1) (.int .i64 1) (.int .i64 2) (.int .i64 10) (.int .i64 10) (.slice (some ⟨p.heap.size,0,none⟩) 4 4);have B:=qKm g (Nat.le_refl _) (.slice (some ⟨l.heap.size,0,none⟩) 1 1) (.int .i64 1) (.int .i64 2) (.int .i64 10) (.int .i64 10) (.slice (some ⟨p.heap.size,0,none⟩) 4 4)
 have k:=λ{b:Nat} (hb:w.heap.size<b)=>qOV W5 (.slice (some ⟨l.heap.size,0,none⟩) 1 1) (.int .i64 1) (.int .i64 2) (.int .i64 10) (.int .i64 10) (.slice (some ⟨p.heap.size,0,none⟩) 4 4) hb;have y:=qOW (n:=w.heap.size) W5 (.slice (some ⟨l.heap.size,0,none⟩) 1 1) (.int .i64 1) (.int .i64 2) (.int .i64 10) (.int .i64 10) (.slice (some ⟨p.heap.size,0,none⟩) 4 4);have g2:=(k (show w.heap.size<D.heap.size by omega)).trans r;have g3:=(k (show w.heap.size<E.heap.size by omega)).trans s;have g4:=(k (show w.heap.size<l.heap.size by omega)).trans t;have g5:=(k (show w.heap.size<p.heap.size by omega)).trans Z;have⟨ag,a7,ah,a8,ai,a9,aj,aA⟩:=hyd8 m F q G o H i I;have⟨x,aB,Y,ak,al,am,an,X⟩:=hyd8 d Z f c r s t g;have⟨aa,C,A,Q,R,S,T⟩:=hyd7 p6 B y g2 g3 g4 g5;clear g5 g4 g3 g2 y B p6 g t s r c f Z d I i H o G q F m;clear k;go_enter Tryz.func14,Tryz.ntmps14;go_wp2_with (fail);clear J L M N O P f0 f1 f2 f3 f4 f5;obtain⟨J,L,M,N,O,P⟩:=pc6 aa.out;refine bodyPost_ret (v:= .agg #[.slice (some ⟨l.heap.size,0,none⟩) 1 1,.int .i64 1,.int .i64 2,.int .i64 10,.int .i64 10,.slice (some ⟨p.heap.size,0,none⟩) 4 4]) (by simp[results,Tryz.results14,go_sem,J,L,M,N,O,P]) rfl ⟨_,_,p.heap.size,rfl,C.out,by omega,by rw[A.out];exact x.out.size,λV a6 U=>?_,qG3 (cs:=exP.rds.flatMap qBA) T.out (Nat.le_refl _) rfl (by decide)⟩
 have v2:=(U D.heap.size (by omega)).trans Q.out;have v3:=(U E.heap.size (by omega)).trans R.out;have v4:=(U l.heap.size (by omega)).trans S.out;obtain⟨d0,d1⟩:=pc2 v4;refine⟨some ⟨l.heap.size,0,none⟩,1,rfl,Nat.le_refl _,by decide,(λh=>by cases h),λ_=>⟨l.heap.size,0,rfl,gsl v4,λj hj=>?_⟩⟩
 obtain rfl:j=0:=by simpa[exP]using hj
 exact⟨_,_,d0,d1,qBl [0,3,0,0,3,0] 6 rfl v2 (by decide),qBl [0] 1 rfl v3 (by decide)⟩
theorem qOj (w:World):Calls Tryz.prog 15 #[] w λe w'=>e= .returned (fndV ⟨0,2,10,100,100⟩)/\Below w.heap.size w w':=by
 obtain⟨s,q,c,b⟩:=newb w (.cells #[.int .i64 0,.int .i64 0,.int .i64 0,.int .i64 0,.int .i64 0] 54);obtain⟨f,g,h,i,j⟩:=pc5 b;have l:=pfrz b 0;have m:=pfrz b 1;have n:=pfrz b 2;have o:=pfrz b 3;have p:=pfrz b 4;have⟨d,k⟩:=hyd2 c b;clear b c;go_enter Tryz.func15,Tryz.ntmps15;go_wp2_with (fail);clear f g h i j l m n o p;have r:=qSJ k.out (.int .i64 0) (.int .i64 2) (.int .i64 10) (.int .i64 100) (.int .i64 100);obtain⟨f,g,h,i,j⟩:=pc5 r;exact bodyPost_ret (v:= .agg #[.int .i64 0,.int .i64 2,.int .i64 10,.int .i64 100,.int .i64 100]) (by simp[results,Tryz.results15,go_sem,f,g,h,i,j]) rfl ⟨rfl,qRi d.out (Nat.le_refl _) _ _ _ _ _⟩
def exF:Fnd:=⟨0,2,10,100,100⟩
theorem qPv:qD4 exP=0:=by kernel_rfl
theorem qPw:qEI exP=[exF]:=by kernel_rfl
theorem qPx:qFQ exP exF 100=0:=by kernel_rfl
theorem qRj:(qDc exP exF 100).ros =[0,3,0,0,3,0]:=by kernel_rfl
theorem qOk:(qDc exP exF 100).shifts =[1]:=by kernel_rfl
theorem qPy:qEb exQ=0:=by kernel_rfl
theorem qPz:qFN exQ=[3,4]:=by kernel_rfl
theorem qRB:rebE [0,4,0,0,0,0] [5,5,5,0,0,0] [0,0,0]=0:=by kernel_rfl
theorem qRC:rebL [0,4,0,0,0,0] [5,5,5,0,0,0] [0,0,0]=[0,5,0,0,0,0]:=by kernel_rfl
theorem qMc:exP.Fit:=⟨by simp only[qA6,exP];decide,by simp only[qA6,exP];decide,by simp only[qA6,exP];decide,by simp only[qA6,exP];decide,by simp only[qA6,exP];decide,by simp only[qA6,exP];decide⟩
theorem qRD:exQ.Fit:=⟨by simp only[qA6,exQ];decide,by simp only[qA6,exQ];decide,by simp only[qA6,exQ];decide,by simp only[qA6,exQ];decide,by simp only[qA6,exQ];decide,by simp only[qA6,exQ];decide⟩
theorem qRE:exF.Fit:=by
 unfold Fnd.Fit qA6 exF
 decide
theorem qMd {w:World} {n:Nat} {vh vr:Value} (hh:HeadsL w vh exP.hs) (ho:w.ownsRow n 60 4 vr 4 (exP.rds.flatMap qBA)):IsPic w (.agg #[vh,.int .i64 1,.int .i64 2,.int .i64 10,.int .i64 10,vr]) exP:=⟨_,_,rfl,hh,SV.of_own (base:=n) (e:=60) (enc:=qBA) (λ_=>rfl) ho⟩
theorem qOl {w:World} {base e size n B k:Nat} {v:Value} {xs:List Value} (h:w.ownsRow base e size v n xs) (hne:∀r,v.ownBlock=some r->r≠B) (u:Value):(w.setCell ⟨B,k,none⟩ u).ownsRow base e size v n xs:=by
 refine⟨h.1,?_⟩
 rcases h.2 with h'| ⟨g',cap,cur,hv,hb,hh,r⟩
 ·exact .inl h'
 ·exact .inr ⟨g',cap,cur,hv,hb,(Below.heap_setCell _ ⟨B,k,none⟩ _ g' (hne g' (by rw[hv];rfl))).trans hh,r⟩
theorem qRF:fndV exF= .agg #[.int .i64 0,.int .i64 2,.int .i64 10,.int .i64 100,.int .i64 100]:=rfl
theorem qMI (w:World):Calls Tryz.prog 10 #[] w λe w'=>e= .returned (.bool true)/\Below w.heap.size w w':=by
 have cM:=λW=>qKD W;have bk:∀W,Calls Tryz.prog 15 #[] W λe w'=>e= .returned (.agg #[.int .i64 0,.int .i64 2,.int .i64 10,.int .i64 100,.int .i64 100])/\Below W.heap.size W w':=λW=>qOj W
 have cN:∀v W,IsPic W v exP->Calls Tryz.prog 17 #[v] W λe w'=>∃B,e= .returned (.tuple #[B,.int .i64 0])/\Below W.heap.size W w'/\FndL w' B [exF]:=λv W h=>by
  have:=qN6 v exP W h qMc (by decide)
  rwa[qPv,qPw]at this
 have aO:∀v W,IsPic W v exP->Calls Tryz.prog 35 #[v,fndV exF,.int .i64 100] W λe w'=>∃B,e= .returned (.tuple #[B,.int .i64 0])/\Below W.heap.size W w'/\qGs W.heap.size w' B (qDc exP exF 100):=λv W h=>by
  have:=qIr v exP exF 100 W h qMc qRE (by unfold qA6;decide)
  rwa[qPx]at this
 have cK:∀v W,IsPic W v exQ->Calls Tryz.prog 16 #[v] W λe w'=>∃B,e= .returned (.tuple #[B,.int .i64 0])/\Below W.heap.size W w'/\Ints w' B [3,4]:=λv W h=>by
  have:=qIp v exQ W h qRD (by decide)
  rwa[qPy,qPz]at this
 obtain⟨q,hq⟩:∃q,qDc exP exF 100=q:=⟨_,rfl⟩;have be:q.ros=[0,3,0,0,3,0]:=by rw[<-hq];exact qRj
 have bf:q.shifts=[1]:=by rw[<-hq];exact qOk
 rw[hq]at aO;rw[qRF]at aO;clear hq;have⟨a6,a7,cO,cU,cL,a0,a1⟩:=hyd7 cM bk cN aO cK be bf;clear bf be cK aO cN bk cM;go_enter Tryz.func10,Tryz.ntmps10;go_wp2_with (fail);go_at_call 14;refine(a6.out w).mono ?_;rintro e W1 ⟨fJ,fM,z1,rfl,co,-,y1,bs,aM⟩;have aK:=bs W1 y1 (λ_ _=>rfl);have c9:=qMd aK aM;obtain⟨eO,fw,rfl,-⟩:=aK.slice;obtain⟨eT,fG,rfl⟩:=qAH aM;have⟨cp,er,eu,cA,eh⟩:=hyd5 co aK aM c9 bs;clear bs c9 aM aK co;go_wp2_with (fail);go_at_call 17;refine(cO.out _ W1 cA.out).mono ?_;rintro e W2 ⟨vf,rfl,bv,c6⟩;have aT:=qAA cp.out bv;have⟨ek,c7,bz⟩:=hyd3 bv c6 aT;clear aT c6 bv;go_wp2_with (fail);go_at_call 14;refine(a6.out W2).mono ?_;rintro e W3 ⟨fK,fN,z3,rfl,bw,-,y3,bt,aN⟩;have aL:=bt W3 y3 (λ_ _=>rfl);have cB:=qMd aL aN;obtain⟨eP,fx,rfl,-⟩:=aL.slice;obtain⟨eU,fH,rfl⟩:=qAH aN;have aU:=qAA bz.out bw;have⟨cw,es,ev,cC,b0,ei⟩:=hyd6 bw aL aN cB aU bt;clear bt aU cB aN aL bw;go_wp2_with (fail);go_at_call 15;refine(a7.out W3).mono ?_;rintro e W4 ⟨rfl,aF⟩;have aV:=qAA b0.out aF;have cD:=cC.out.le aF;have⟨cx,b1,cE⟩:=hyd3 aF aV cD;clear cD aV aF;go_wp2_with (fail);go_at_call 35;refine(cU.out _ W4 cE.out).mono ?_;rintro e W5 ⟨vx,rfl,aG,hx⟩;obtain⟨x0,x1,x5,rfl,i0,o1,i5⟩:=hx;obtain⟨I0,j0,rfl,-⟩:=id i0
 obtain⟨I5,j5,rfl,-⟩:=id i5;obtain⟨I1,j1,rfl⟩:=qAH o1;obtain⟨W6,d8,R,k6⟩:=newb W5 (.cells #[.slice I0 q.ros.length j0,.slice I1 q.rub.length j1,.int .i64 q.start,.int .i64 q.throw,.int .i64 q.adv,.slice I5 q.shifts.length j5] 69);have aW:=qAA b1.out (qAA aG R);have cF:=i0.below R;have cH:=i5.below R;have ca:=c7.out.le (qAA cw.out (qAA cx.out (qAA aG R)));have⟨el,f0,fC,f1,em,dW,au,cG⟩:=hyd8 aG i0 o1 i5 R k6 aW cF;have⟨cI,cb⟩:=hyd2 cH ca;clear ca cH cF aW k6 R i5 o1 i0 aG;go_wp2_with (fail);clear d8;go_at_call 14;refine(a6.out W6).mono ?_;rintro e W7 ⟨fL,fO,zz,rfl,aI,y7,y8,aE,az⟩;have b3:=aE W7 y8 (λ_ _=>rfl);obtain⟨S,av,rfl,-⟩:=b3.slice;obtain⟨a9,aQ,rfl⟩:=qAH az;obtain⟨W8,fu,aq,k8⟩:=newb W7 (.cells #[.slice S exP.hs.length av,.int .i64 1,.int .i64 2,.int .i64 10,.int .i64 10,.slice a9 4 aQ] 51);have O:=qAA aI aq;have aX:=qAA au.out O;obtain⟨c0,c1,c2,c3,c4,c5⟩:=pc6 k8;have g5:=pfrz k8 5;obtain⟨W9,fv,F,k9⟩:=newb W8 (.cells #[.int .i64 1,.int .i64 5,.int .i64 110,.int .i64 110] 60);have c8:=qAK (qAK az aq) F;have cJ:=blk F k8;have ap:=qAA O F;have fz:=ap.size;have ey:=F.size;have z6:=aI.size;have z7:=gsl k8
 have bb:∀(i:Nat) (u:Value),(qBA ⟨1,5,110,110⟩)[i]? =some u->W9.cell? ⟨W8.heap.size,i,none⟩=some u:=λi u hu=>by
  have dU:i<4:=(List.getElem?_eq_some_iff.1 hu).1;obtain⟨n0,n1,n2,n3⟩:=pc4 k9
  match i,dU with
  | 0,_=>rw[n0];simpa[qBA]using hu
  | 1,_=>rw[n1];simpa[qBA]using hu
  | 2,_=>rw[n2];simpa[qBA]using hu
  | 3,_=>rw[n3];simpa[qBA]using hu
 have cd:∀V:World,zz<=V.heap.size->(∀b,b<zz->V.heap[b]? =W9.heap[b]?)->HeadsL V (.slice S exP.hs.length av) exP.hs:=λV h1 h2=>aE V h1 λb hb=>(h2 b hb).trans ((qAA aq F).block b (by omega));have ba:∀r,(Value.slice a9 4 aQ).ownBlock =some r->r<W7.heap.size:=λr e=>(az.lt r e).2;have⟨en,ew,eo,f5,dQ,dR,ep,f6⟩:=hyd8 aI az aq k8 O aX F k9;have⟨bc,bj,bx,b6,ej,ce,ay,et⟩:=hyd8 c8 cJ ap bb aE cd ba b3;clear b3 ba cd aE bb ap cJ c8 k9 F aX O k8 aq az aI;go_wp2_with (first | (at_builtin;go_must (refine qF1 (enc:=qBA) (k:=4) (bytes:=32) _ rfl _ _ 49 (λ_=>rfl) (λx u hu=>by simp[qBA]at hu;rcases hu with rfl|rfl|rfl|rfl<;>rfl) (by decide) rfl (by decide) rfl zz 60 Tryz.underlying49 qM9 (.slice a9 4 aQ) exP.rds rfl bc.out W8.heap.size ⟨1,5,110,110⟩ rfl b6.out (by decide) (by omega) ?_)));intro ec aA q1 q2 q3;have aP:aA.ownsRow zz 60 4 ec 5 (exQ.rds.flatMap qBA):=q1;obtain⟨a8,aB,rfl⟩:=qAH aP;have G:∀r,(Value.slice a9 4 aQ).ownBlock =some r->zz<=r:=λr e=>(bc.out.lt r e).1;have a2:=(q2.block _ (gsl bj.out) (λe=>by have:=ay.out _ e.symm;omega)).trans bj.out;have j:Below zz W9 aA:=Below.grown (Below.refl _ _) q2 (by omega) G;have D:Below W6.heap.size W6 aA:=bx.out.trans (j.mono y7);have ex:=j.size;obtain⟨e0,e1,e2,e3,e4,e5⟩:=pc6 a2
 have t5:=pfrz a2 5
 obtain⟨bQ,cf,aS,bA,bJ,aw⟩:∃V,aA.setCell ⟨W7.heap.size,5,none⟩ (.slice a8 5 aB)=V/\Below W6.heap.size W6 V/\V.heap[W7.heap.size]? =some (.cells #[.slice S exP.hs.length av,.int .i64 1,.int .i64 2,.int .i64 10,.int .i64 10,.slice a8 5 aB] 51)/\V.ownsRow zz 60 4 (.slice a8 5 aB) 5 (exQ.rds.flatMap qBA)/\HeadsL V (.slice S exP.hs.length av) exP.hs:=by
  refine⟨_,rfl,Below.setCell D (p:=⟨W7.heap.size,5,none⟩) z6 _,qBe a2 5 _,qOl aP (λr e=>?_) _,ce.out _ (by simp[World.setCell];omega) λb hb=>?_⟩
  ·rcases q3 r e with h|h
   ·have:=ay.out r h;omega
   ·omega
  ·exact(Below.heap_setCell _ ⟨W7.heap.size,5,none⟩ _ b (by show b≠W7.heap.size;omega)).trans (j.block b hb)
 obtain⟨d0,d1,d2,d3,d4,d5⟩:=pc6 bA;have bd:IsPic bQ (.agg #[.slice S exP.hs.length av,.int .i64 1,.int .i64 2,.int .i64 10,.int .i64 10,.slice a8 5 aB]) exQ:=⟨_,_,rfl,aw,SV.of_own (base:=zz) (e:=60) (enc:=qBA) (λ_=>rfl) bJ⟩;have⟨fD,eH,fE,fF,dv,ez,du,dr⟩:=hyd8 q1 aP q2 q3 G a2 j D;have⟨bu,e6,eG,dS,b7⟩:=hyd5 aS bA bJ aw bd;clear bd aw bJ bA aS D j a2 G q3 q2 aP q1;go_wp2_with (fail);clear e0 e1 e2 e3 e4 e5 t5 c0 c1 c2 c3 c4 c5 g5 d0 d1 d2 d3 d4 d5 cf;go_at_call 16;refine(cL.out _ bQ b7.out).mono ?_;rintro e bm ⟨vc,rfl,Y,P⟩;obtain⟨CA,cc,rfl,-⟩:=id P;have E:=qAA bu.out Y;obtain⟨bn,cg,Z,bB⟩:=newb bm (.cells #[.int .i64 0,.int .i64 4,.int .i64 0,.int .i64 0,.int .i64 0,.int .i64 0] 3);obtain⟨bo,ch,H,bC⟩:=newb bn (.cells #[.int .i64 5,.int .i64 5,.int .i64 5,.int .i64 0,.int .i64 0,.int .i64 0] 3);obtain⟨C,ci,A,bD⟩:=newb bo (.cells #[.int .i64 0,.int .i64 0,.int .i64 0] 3);have bK:Ints C (.slice (some ⟨bm.heap.size,0,none⟩) 6 6) [0,4,0,0,0,0]:=qBl _ 6 rfl (blk A (blk H bB)) (by decide);have bL:Ints C (.slice (some ⟨bn.heap.size,0,none⟩) 6 6) [5,5,5,0,0,0]:=qBl _ 6 rfl (blk A bC) (by decide);have bM:Ints C (.slice (some ⟨bo.heap.size,0,none⟩) 3 3) [0,0,0]:=qBl _ 3 rfl bD (by decide);have cP:Calls Tryz.prog 20 #[.slice (some ⟨bm.heap.size,0,none⟩) 6 6,.slice (some ⟨bn.heap.size,0,none⟩) 6 6,.slice (some ⟨bo.heap.size,0,none⟩) 3 3] C λe w'=>∃B N,e= .returned (.tuple #[B,.int .i64 N,.int .i64 0])/\Below C.heap.size C w'/\Ints w' B [0,5,0,0,0,0]:=(qN5 _ _ _ _ _ _ C bK bL bM).mono λe w' ⟨B,h1,h2,h3⟩=>⟨B,((rebN [0,4,0,0,0,0] [5,5,5,0,0,0] [0,0,0]:Nat):Int),h1.trans (congrArg (λz=>Ending.returned (.tuple #[B,.int .i64 ((rebN [0,4,0,0,0,0] [5,5,5,0,0,0] [0,0,0]:Nat):Int),.int .i64 z])) qRB),h2,by rw[qRC]at h3;exact Arr.of_own h3⟩
 have d:=qAA Z (qAA H A);have aZ:=P.below d;have ao:=qAA E d;have⟨dA,dT,ds,dB,e7,dC,e8,dD⟩:=hyd8 Y P E Z bB H bC A;have⟨e9,eI,eJ,eK,cQ,cq,b4,aH⟩:=hyd8 bD bK bL bM cP d aZ ao;clear ao aZ d cP bM bL bK bD A bC H bB Z E P Y;go_wp2_with (fail);clear cg ch ci;go_at_call 20;refine cQ.out.mono ?_;rintro e dy ⟨vr,N,rfl,I,ax⟩;obtain⟨RA,rr,rfl,-⟩:=id ax;have c:=qAA aH.out I;have ar:=qAA au.out c;have aY:=b4.out.below I;have a3:=blk c dW.out;have bh:=cG.out.below c;have bi:=cI.out.below c;have U:=cb.out.le c;obtain⟨FA,fc,rfl,-⟩:=U.slice;obtain⟨p0,p1,p2,p3,p4,p5⟩:=pc6 a3;have⟨dE,b5,dt,aJ,b2,a4,b8,b9⟩:=hyd8 I ax c ar aY a3 bh bi;have br:=hyd1 U;clear U bi bh a3 aY ar c ax I;go_wp2_with (fail);go_at_call 15;refine(a7.out dy).mono ?_;rintro e bp ⟨rfl,L⟩;obtain⟨T,cj,M,bE⟩:=newb bp (.cells #[.int .i64 0,.int .i64 2,.int .i64 10,.int .i64 100,.int .i64 100] 54);have X:=(br.out.le L).le M;have bq:FndL T (.slice (some ⟨bp.heap.size,0,none⟩) 1 1) [exF]:=SV.of_own (e:=54) (enc:=qBh) (λ_=>rfl) (qG3 (base:=0) (cs:=[exF].flatMap qBh) bE (Nat.zero_le _) rfl (by decide))
 have cS:Calls Tryz.prog 36 #[.slice FA 1 fc,.slice (some ⟨bp.heap.size,0,none⟩) 1 1] T λe w'=>e= .returned (.bool true)/\Below T.heap.size T w':=(qIF _ _ [exF] [exF] T X bq).mono λe w' ⟨h1,n,h2⟩=>⟨by rw[h1];rfl,by rw[h2];exact Below.of_drewN _ _⟩;have J:=qAA L M;clear p0 p1 p2 p3 p4 p5;have⟨dF,dG,eA,d7,ef,cT,aa⟩:=hyd7 L M bE X bq cS J;clear J cS bq X bE M L;go_wp2_with (fail);clear cj;go_at_call 36;refine cT.out.mono ?_;rintro e bR ⟨rfl,af⟩;have f:=qAA aa.out af;have a5:=blk f a4.out;obtain⟨p0,p1,p2,p3,p4,p5⟩:=pc6 a5;obtain⟨bS,ck,ag,bF⟩:=newb bR (.cells #[.int .i64 0,.int .i64 3,.int .i64 0,.int .i64 0,.int .i64 3,.int .i64 0] 3);have l:=qAA f ag;have db:Ints bS (.slice (some ⟨bR.heap.size,0,none⟩) 6 6) [0,3,0,0,3,0]:=qBl _ 6 rfl bF (by decide);have bN:=b8.out.below l;rw[a0.out]at bN;have cR:=λv B xs ys W h1 h2 (dV:xs=ys)=>(qN2 v B xs ys W h1 h2).mono (R':=λe w'=>e= .returned (.bool true)/\Below W.heap.size W w') λe w' ⟨h1,n,h2⟩=>⟨by rw[h1,dV];simp,by rw[h2];exact Below.of_drewN _ _⟩;rw[a0.out]at*;have⟨dH,cr,dX,dI,eB,ab,dc,dk⟩:=hyd8 af f a5 ag bF l db bN;have Q:=hyd1 cR;clear cR bN db l bF ag a5 f af;go_wp2_with (fail);clear ck p0 p1 p2 p3 p4 p5
 go_at_call 18;refine(Q.out _ _ _ _ bS dk.out dc.out rfl).mono ?_;rintro e bT ⟨rfl,ah⟩;have g:=qAA ab.out ah;obtain⟨p0,p1,p2,p3,p4,p5⟩:=pc6 (blk g a4.out);obtain⟨bU,cl,ai,bG⟩:=newb bT (.cells #[.int .i64 1] 3);have m:=qAA g ai;have dd:Ints bU (.slice (some ⟨bT.heap.size,0,none⟩) 1 1) [1]:=qBl _ 1 rfl bG (by decide);have bO:=b9.out.below m;rw[a1.out]at bO;have⟨dJ,ct,dK,eC,ac,de,dl⟩:=hyd7 ah g ai bG m dd bO;clear bO dd m bG ai g ah;go_wp2_with (fail);clear cl p0 p1 p2 p3 p4 p5;rw[a1.out];go_at_call 18;refine(Q.out _ _ _ _ bU dl.out de.out rfl).mono ?_;rintro e bV ⟨rfl,aj⟩;have o:=qAA ac.out aj;obtain⟨bW,cm,ak,bH⟩:=newb bV (.cells #[.int .i64 3,.int .i64 4] 3);have s:=qAA o ak;have df:Ints bW (.slice (some ⟨bV.heap.size,0,none⟩) 2 2) [3,4]:=qBl _ 2 rfl bH (by decide);have dm:=b2.out.below s;have⟨dL,cu,dM,eD,ad,dh,dn⟩:=hyd7 aj o ak bH s df dm;clear dm df s bH ak o aj;go_wp2_with (fail);clear cm;go_at_call 18;refine(Q.out _ _ _ _ bW dn.out dh.out rfl).mono ?_;rintro e bX ⟨rfl,al⟩;have t:=qAA ad.out al;obtain⟨bY,cn,am,bI⟩:=newb bX (.cells #[.int .i64 0,.int .i64 5,.int .i64 0,.int .i64 0,.int .i64 0,.int .i64 0] 3);have y:=qAA t am
 have di:Ints bY (.slice (some ⟨bX.heap.size,0,none⟩) 6 6) [0,5,0,0,0,0]:=qBl _ 6 rfl bI (by decide);have dp:=b5.out.below y;have⟨dN,cv,dO,eE,ae,dj,dq⟩:=hyd7 al t am bI y di dp;clear dp di y bI am t al;go_wp2_with (fail);clear cn;go_at_call 18;refine(Q.out _ _ _ _ bY dq.out dj.out rfl).mono ?_;rintro e eW ⟨rfl,an⟩;have cy:=qAA aJ.out (qAA ae.out an);have⟨dP,cz⟩:=hyd2 an cy;clear cy an;go_wp2;go_ret;exact⟨rfl,cz.out⟩
end Go.Proofs.YtabfaobakmjiaaaGreat

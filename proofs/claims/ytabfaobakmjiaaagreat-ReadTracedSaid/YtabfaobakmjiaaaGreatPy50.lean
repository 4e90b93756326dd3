/- Spots that are traced to paths: read.Trace. -/
import Derived.Test.YtabfaobakmjiaaaGreatPy49
import Derived.Test.YtabfaobakmjiaaaGreatPy18
namespace Go.Proofs.YtabfaobakmjiaaaGreat
set_option maxRecDepth 100000
set_option maxHeartbeats 2000000
open Go.RowKit Go.Shelf
set_option linter.unusedVariables false
set_option linter.unusedSimpArgs false
attribute [local go_sem] Oper.semAt_some
def PathsL (w:World) (v:Value) (L:List (List ArmA)):Prop:=
 ∃A c,v= .slice A L.length c/\L.length<=1000/\(0<L.length->∃b off,A=some ⟨b,off,none⟩/\b<w.heap.size/\∀j (h:j<L.length),∃vr,w.cell? ⟨b,off+j,none⟩=some vr/\ArmsL w vr L[j])
theorem PathsL.le {w W:World} {v:Value} {L:List (List ArmA)} (h:PathsL w v L) (hb:Below w.heap.size w W):PathsL W v L:=by
 obtain⟨A,c,o,i,k⟩:=h;refine⟨A,c,o,i,λg=>?_⟩;obtain⟨b,off,l,d,m⟩:=k g;refine⟨b,off,l,Nat.lt_of_lt_of_le d hb.size,λj n=>?_⟩;obtain⟨r,f,q⟩:=m j n;exact⟨r,(Below.cell hb (p:=⟨b,_,none⟩) d).trans f,q.le hb⟩
theorem PathsL.at {w:World} {v:Value} {L:List (List ArmA)} (h:PathsL w v L) {j:Nat} (hj:j<L.length):∃b off c vr,v= .slice (some ⟨b,off,none⟩) L.length c/\b<w.heap.size/\w.cell? ⟨b,off+j,none⟩=some vr/\ArmsL w vr L[j]:=by
 obtain⟨A,c,rfl,l,f⟩:=h;obtain⟨b,off,rfl,g,i⟩:=f (by omega);obtain⟨vr,d,k⟩:=i j hj;exact⟨b,off,c,vr,rfl,g,d,k⟩
theorem PathsL.form {w:World} {v:Value} {L:List (List ArmA)} (h:PathsL w v L):∃A c,v= .slice A L.length c/\L.length<=1000:=by
 obtain⟨A,c,rfl,b,d⟩:=h;exact⟨A,c,rfl,b⟩
theorem qJo {l:List ArmA} {n:Nat}:∀{m:Nat} {z:Int},qAz l n m= .error z->z≠0
 | 0,z,h=>by cases h
 | m+1,z,h=>by
  unfold qAz at h
  split at h
  ·rename_i e he;injection h with h;rw[<-h];exact qJo he
  ·split at h
   ·rename_i e he;injection h with h;rw[<-h];unfold qCa at he
    split at he
    ·rename_i e2 he2;injection he with he;rw[<-he];exact qFx _ he2
    ·exact(qMm he).1
   ·cases h
theorem qGB {l:List ArmA} {n z:Int} (h:qA4 l n= .error z):z≠0:=by
 unfold qA4 at h
 split at h
 ·rename_i h1;injection h with h;rw[<-h];exact h1
 ·split at h
  ·exact qJo h
  ·injection h with h;rw[<-h];decide
def qRw (res:Except Int (List Tra)) (w:World) (e:Ending) (w':World):Prop:=Below w.heap.size w w'/\∃v c,e= .returned (.tuple #[v,.int .i64 c])/\match res with
 | .ok L=>TraL w' v L/\c=0
 | .error z=>v= .slice none 0 0/\c=z
theorem qPX (F:(Nat->Value)->Array Value) (t:Array Value) (h:t=F (λi=>t.getD i undef)):∃u,t=F u:=⟨_,h⟩
theorem MarksT.next {B:Nat} {w w':World} {ds:List Deferred} (h:Marks B w ds) (hb:Below w.heap.size w w'):Marks B w' ds:=
 h.keep λD _ hD=>(hb.block D (gsl hD)).trans hD
theorem MarksT.lt {B:Nat} {w:World}:∀{ds:List Deferred},Marks B w ds->∀d∈ds,∃D,d={target:= .collected D,args:=#[]}/\D<w.heap.size
 | [],_,_,h=>by cases h
 | d::ds,⟨⟨D,hd,hB,hD,hne⟩,hr⟩,d',h=>by
  rcases List.mem_cons.1 h with rfl|h
  ·exact⟨D,hd,(gsl hD)⟩
  ·exact MarksT.lt hr d' h
theorem MarksT.cons {B X:Nat} {w w':World} {ds:List Deferred} (h:Marks B w' ds) (hlt:∀d∈ds,∃D,d={target:= .collected D,args:=#[]}/\D<X) {D:Nat} (hD:X<=D) (hB:B<=D) (hh:w'.heap[D]? =some (.deferred (some []))):
  Marks B w' ({target:= .collected D,args:=#[]}::ds):=
 ⟨⟨D,rfl,hB,hh,λd' hd' e=>by
  obtain⟨D',h1,h2⟩:=hlt d' hd';rw[h1]at e;injection e with e1;injection e1 with e1
  omega⟩,h⟩
theorem SVT.keepC {α:Type} {k:Nat} {enc:α->List Value} {w W:World} {v:Value} {L:List α} (h:SV k enc w v L) (hk:∀(k:Nat) (o:Obj),w.heap[k]? =some o->o.isCells=true->W.heap[k]? =some o) (hs:w.heap.size<=W.heap.size) (h0:∀x∈L,0<(enc x).length):SV k enc W v L:=by
 obtain⟨A,c,t,g,l,n,m⟩:=h;refine⟨A,c,t,g,l,n,λh0=>?_⟩;obtain⟨b,off,p,f,q⟩:=m h0;refine⟨b,off,p,Nat.lt_of_lt_of_le f hs,λj r i u s=>?_⟩;have d:=q j r i u s;refine(World.cell?_of_block (a:=⟨b,off+j*k+i,none⟩) ?_).trans d;show W.heap[b]? =w.heap[b]?
 cases e:w.heap[b]? with
 | none=>simp[World.cell?,e]at d
 | some o=>
  refine hk b o e ?_
  cases o<;>first |rfl|simp[World.cell?,e]at d
theorem qNz (path n:Int) (w:World):
  Calls Tryz.prog 30 #[.int .i64 path,.int .i64 n] w λe w'=>∃Bn Bp,e= .returned (.func (.func 60) #[] #[.pointer (some ⟨Bn,0,none⟩),.pointer (some ⟨Bp,0,none⟩)])/\Below w.heap.size w w'/\w'.heap[Bn]? =some (.cells #[.int .i64 n] 3)/\w'.heap[Bp]? =some (.cells #[.int .i64 path] 3):=by
 have o:∀(fn:Fn) (first cap:Array Value) (w:World),(Instr.makeFunc fn first cap).run Tryz.prog w= .ok (.func fn first cap) w:=λ_ _ _ _=>rfl;obtain⟨k,l,c,i⟩:=newb w (.cells #[.int .i64 path] 3);obtain⟨p,m,f,j⟩:=newb k (.cells #[.int .i64 n] 3);have⟨d,g,b,h⟩:=hyd4 c i f j;clear j f i c;go_enter Tryz.func30,Tryz.ntmps30;go_wp2;go_ret;exact⟨_,_,rfl,belT d.out b.out,h.out,blk b.out g.out⟩
structure TrI (w W5:World) (Lb base:Nat) (L:List Tra) (V:World):Prop where
 kx:KeepX W5 V
 bw:Below w.heap.size w V
 df:∀(k:Nat) (d:Option (List Deferred)),W5.heap[k]? =some (.deferred d)->V.heap[k]? =some (.deferred d)
 row:∃v,V.heap[Lb]? =some (.cells #[v] 26)/\V.ownsRow base 37 4 v L.length (L.flatMap qCU)
 bz:base<=V.heap.size
 wl:w.heap.size<=Lb
 lb:Lb<base
theorem TrI.next {w W5 V V':World} {Lb base:Nat} {L:List Tra} (h:TrI w W5 Lb base L V) (hb:Below V.heap.size V V'):TrI w W5 Lb base L V':=by
 obtain⟨v,b,c⟩:=h.row;exact⟨h.kx.trans (KeepX.fresh hb),belT h.bw hb,λk d f=>blk hb (h.df k d f),⟨v,blk hb b,qAK c hb⟩,Nat.le_trans h.bz hb.size,h.wl,h.lb⟩
theorem TrI.own {w W5:World} {Lb base:Nat} (hw:w.heap.size<=W5.heap.size) (g:List Tra->List Tra):OwnFrom W5.heap.size (λpre V=>TrI w W5 Lb base (g pre) V):=λs A B row hs hg hr=>by
 obtain⟨v,h1,h2⟩:=hs.row;refine⟨hs.kx.trans (KeepX.of_grown hg λr e cs t h=>?_),Below.grown hs.bw hg hs.bw.size (λk e=>Nat.le_trans hw (hr k e).1),λk d hk=>?_,⟨v,qBf W5.heap.size _ _ _ () A B row h1 hg hr,qJ0 h2 hg (λr e=>(hr r e).2)⟩,Nat.le_trans hs.bz hg.size,hs.wl,hs.lb⟩
 ·obtain⟨-,o,ho,hc⟩:=hr r e;rw[h]at ho
  cases ho
  cases hc
 ·have hlt:=(gsl hk);refine(hg.block k (gsl (hs.df k d hk)) (λe=>?_)).trans (hs.df k d hk);have:=(hr k e.symm).1;omega
theorem TrI.over {w W3 W4 W5 V:World} {Lb base:Nat} {L L':List Tra} (h:TrI w W3 Lb base L W4) (hb:Below W4.heap.size W4 W5) (h':TrI w W5 Lb base L' V):TrI w W3 Lb base L' V:=
 ⟨(h.kx.trans (KeepX.fresh hb)).trans h'.kx,h'.bw,λk d hk=>h'.df k d (blk hb (h.df k d hk)),h'.row,h'.bz,h'.wl,h'.lb⟩
theorem TrI.put {w W5 V Wa w7:World} {Lb base:Nat} {L:List Tra} {x:Tra} {v v7:Value} (B:Nat) (h:TrI w W5 Lb base L V) (hv:V.heap[Lb]? =some (.cells #[v] 26)) (ho:V.ownsRow base 37 4 v L.length (L.flatMap qCU)) (hba:Below V.heap.size V Wa) (hg:Wa.grownBy w7 v.ownBlock)
  (q1:w7.ownsRow base 37 4 v7 (L++[x]).length ((L++[x]).flatMap qCU)):
  KeepX V (w7.setCell ⟨Lb,0,none⟩ v7)/\KeepsFrom B V (w7.setCell ⟨Lb,0,none⟩ v7)/\TrI w W5 Lb base (L++[x]) (w7.setCell ⟨Lb,0,none⟩ v7):=by
 have q:=qAK ho hba
 have b:∀r,v.ownBlock=some r->base<=r/\∃y,Wa.heap[r]? =some (.cells y 37):=λr e=>by
  obtain⟨q1,q2⟩:=q.lt r e;refine⟨q1,?_⟩
  rcases q.2 with⟨rfl,-⟩| ⟨g,cap,cur,rfl,-,hg,-⟩
  ·cases e
  ·injection e with e;subst e;exact⟨_,hg⟩
 have n:=h.lb;have F:=h.bz;have s:=h.wl;have H:=hba.size;have I:=hg.size;have G:=gsl hv;have f:w7.heap[Lb]? =some (.cells #[v] 26):=(hg.block Lb (by omega) (λe=>by have:=(b Lb e.symm).1;omega)).trans (blk hba hv)
 have z:KeepX V w7:=(KeepX.fresh hba).trans (KeepX.of_grown hg λg e y t A=>by
  obtain⟨-,D,E⟩:=b g e;rw[E]at A
  cases A
  exact .inl rfl)
 have m:=z.trans (KeepX.setCell (i:=0) v7 f (.inr rfl));refine⟨m,?_,h.kx.trans m,?_,λk d C=>?_,⟨v7,qBe f 0 v7,qCA q1 n _⟩,by simp[World.setCell];omega,s,n⟩
 ·refine((KeepsFrom.of_grownBy (qDs hba) (λj e=>by cases e)).trans ⟨hg.size,λk o C c l=>(hg.block k (gsl c) (λe=>?_)).trans c⟩).trans ((KeepsOthers.setCell _ _ _).from _);obtain⟨-,y,q2⟩:=b k e.symm;rw[q2]at c
  cases c
  cases l
 ·exact Below.setCell (Below.grown (belT h.bw hba) hg (by have:=h.bw.size;omega) (λr e=>by have:=(b r e).1;omega)) (p:=⟨Lb,0,none⟩) s _
 ·have c:=blk hba (h.df k d C)
  have l:w7.heap[k]? =some (.deferred d):=(hg.block k (gsl c) (λe=>by
   obtain⟨-,y,q2⟩:=b k e.symm;rw[q2]at c
   cases c)).trans c
  refine(Below.heap_setCell _ ⟨Lb,0,none⟩ _ k (λe=>?_)).trans l;have e:k=Lb:=e;subst e;rw[f]at l
  cases l
theorem SpotsV.keepX {w W:World} {v:Value} {L:List Sp} (h:SpotsV w v L) (ht:∀(a:Addr) (n k:Nat),v= .slice (some a) n k->∃cs,w.heap[a.block]? =some (.cells cs 41)) (hk:KeepX w W):SpotsV W v L:=by
 obtain⟨A,c,l,q,f⟩:=h;refine⟨A,c,l,q,λp=>?_⟩;obtain⟨b,off,i,g,r⟩:=f p;refine⟨b,off,i,Nat.lt_of_lt_of_le g hk.size,λj s=>?_⟩;obtain⟨cs,d⟩:=ht ⟨b,off,none⟩ _ _ (by rw[l,i]);have f:=hk.tag _ _ _ d (by unfold trT;decide);obtain⟨m,o⟩:=r j s;exact⟨(World.cell?_of_block (a:=⟨b,off+j*2,none⟩) (show W.heap[b]? =w.heap[b]? from f.trans d.symm)).trans m,(World.cell?_of_block (a:=⟨b,off+j*2+1,none⟩) (show W.heap[b]? =w.heap[b]? from f.trans d.symm)).trans o⟩
theorem qR1:(Tryz.prog.info? 37).map (λi=>(i.zero,i.size,i.bytes))=some (some (.agg #[.int .i64 0,.int .i64 0,.int .i64 0,.bool false]),4,32):=by kernel_rfl
def qST (w W3:World) (PA:Option Addr) (pl pc:Nat) (n:Int) (B7 Lb base:Nat) (paths:List (List ArmA)) (seen:List Sp) (tol:Int) (a:Act) (W:World):Prop:=
 ∃(t:Array Value) (ds:List Deferred) (k:Nat) (L:List Tra),a={tmps:=t,defers:=ds}/\(∃u:Nat->Value,t=#[.slice PA pl pc,.int .i64 n,(u 2),(u 3),(u 4),(u 5),.pointer (some ⟨w.heap.size,0,none⟩),.pointer (some ⟨B7,0,none⟩),.slice none 0 0,.int .i64 0,.func (.func 27) #[] #[],.pointer (some ⟨Lb,0,none⟩),(u 12),(u 13),(u 14),(u 15),(u 16),(u 17),(u 18),(u 19),(u 20),(u 21),(u 22),(u 23),(u 24),(u 25),(u 26),(u 27),(u 28),(u 29),(u 30),(u 31),(u 32),(u 33),(u 34),(u 35),(u 36),(u 37),(u 38),(u 39),(u 40),(u 41),(u 42),(u 43),.slice PA pl pc,.int .i64 (pl:Int),.int .i64 (k:Int),(u 47),(u 48),(u 49),(u 50),(u 51),(u 52),(u 53),(u 54),(u 55),(u 56),(u 57),(u 58),(u 59),(u 60),(u 61),(u 62),(u 63),(u 64),(u 65),(u 66),(u 67),(u 68),(u 69),(u 70),(u 71),(u 72),(u 73),(u 74),(u 75),(u 76),(u 77),(u 78)])/\k<=pl/\qAn paths n seen tol k= .ok L/\TrI w W3 Lb base L W/\Marks w.heap.size W ds
theorem qMT (paths:List (List ArmA)) (n:Int) (seen:List Sp) (tol:Int) (vp vs:Value) (w:World) (hp:PathsL w vp paths) (hs:SpotsV w vs seen) (hfit:∀s∈seen,qA6 s.1/\qA6 s.2):
  Calls Tryz.prog 7 #[vp,.int .i64 n,vs,.int .i64 tol] w (qRw (qDq paths n seen tol) w):=by
 obtain⟨PA,pc,rfl,cB⟩:=hp.form;obtain⟨SA,sc,rfl,cG⟩:=hs.form;obtain⟨pl,aM⟩:∃m,paths.length=m:=⟨_,rfl⟩;obtain⟨sl,aO⟩:∃m,seen.length=m:=⟨_,rfl⟩;rw[aM]at hp cB ⊢;rw[aO]at hs cG ⊢;obtain⟨W1,dw,bv,k1⟩:=newb w (.cells #[.slice SA sl sc] 23);obtain⟨W2,dx,C,k2⟩:=newb W1 (.cells #[.int .i64 tol] 3);have ah:=belT bv C;have bF:=blk C k1;have c1:=qAO bF;have c2:=qAO k2;have aC:=qQ7 _ seen W2 (hs.le ah) hfit;obtain⟨A1,bn⟩:∃b,qAE (pl:Int) 1 8=b:=⟨_,rfl⟩;obtain⟨A2,aw⟩:∃b,qAE n 1 16=b:=⟨_,rfl⟩;obtain⟨A3,bo⟩:∃b,qAE (sl:Int) 1 (4*n)=b:=⟨_,rfl⟩;obtain⟨A4,bp⟩:∃b,qAE tol 0 1000=b:=⟨_,rfl⟩;obtain⟨A5,aF⟩:∃b,(seen.all λx=> !farB x)=b:=⟨_,rfl⟩;rw[aF]at aC;have hA:trcA paths n seen tol=(A1&&(A2&&(A3&&(A4&&A5)))):=by unfold trcA;rw[aM,aO,bn,aw,bo,bp,aF]
 have ba:(A1&&(A2&&(A3&&(A4&&A5))))=false->qDq paths n seen tol= .error 2:=λh=>by unfold qDq;rw[hA,h];rfl
 have es:w.heap.size<W1.heap.size:=gsl k1;have eS:w.heap.size<=W2.heap.size:=ah.size
 have w4:A2=true->IntKind.i64.wrap (4*n)=4*n:=λh=>by
  rw[h]at aw;have:=within_iff.1 aw;exact IntWalk.i64_in _ (by omega)
 have⟨dC,dE,d8,a6,eo,ef,eU,aj⟩:=hyd8 hp hs hfit aM aO bv k1 C;have⟨dI,J,cL,bI,aV,aW,bZ,aX⟩:=hyd8 k2 ah bF aC bn aw bo bp;have⟨ca,du,N⟩:=hyd3 aF hA ba;clear ba hA aF bp bo aw bn aC bF ah k2 C k1 bv aO aM hfit hs hp;refine(callsIn_wide (n:=5)).1 ?_;refine callsIn_of_wp_marks Tryz.func7 rfl trivial ?_ rfl;simp only[Tryz.ntmps7,List.size_toArray,List.length_cons,List.length_nil,Nat.reduceAdd,Nat.reduceSub,Array.replicate_succ,Array.replicate_zero,List.push_toArray,List.append_toArray,List.nil_append,List.cons_append];refine wpIn_wide.2 ?_;go_wp2_with (fail);clear dw dx;go_at_call 28;refine(qDr _ _ _ _).mono ?_;rintro e w' ⟨rfl,rfl⟩;rw[aV.out]
 by_cases e1:A1=false
 ·subst e1;have f:=N.out rfl;have g:=hyd1 f;clear f;go_wp2;refine qAI w.heap.size [] _ trivial λw9 hb r=>?_;exact⟨.tuple #[.slice none 0 0,.int .i64 2],by simp[results,Tryz.results7,go_sem],J.out.trans hb,_,_,rfl,by rw[g.out];exact⟨rfl,rfl⟩⟩
 obtain rfl:A1=true:=by cases A1<;>simp_all
 clear e1;go_wp2_with (fail);go_at_call 28;refine(qDr _ _ _ _).mono ?_;rintro e w' ⟨rfl,rfl⟩;rw[aW.out]
 by_cases e1:A2=false
 ·subst e1;have f:=N.out rfl;have g:=hyd1 f;clear f;go_wp2;refine qAI w.heap.size [] _ trivial λw9 hb r=>?_;exact⟨.tuple #[.slice none 0 0,.int .i64 2],by simp[results,Tryz.results7,go_sem],J.out.trans hb,_,_,rfl,by rw[g.out];exact⟨rfl,rfl⟩⟩
 obtain rfl:A2=true:=by cases A2<;>simp_all
 have w4:=w4 rfl;clear e1;go_wp2_with (fail);go_at_call 28;refine(qDr _ _ _ _).mono ?_;rintro e w' ⟨rfl,rfl⟩;rw[bZ.out]
 by_cases e1:A3=false
 ·subst e1;have f:=N.out rfl;have g:=hyd1 f;clear f;go_wp2;refine qAI w.heap.size [] _ trivial λw9 hb r=>?_;exact⟨.tuple #[.slice none 0 0,.int .i64 2],by simp[results,Tryz.results7,go_sem],J.out.trans hb,_,_,rfl,by rw[g.out];exact⟨rfl,rfl⟩⟩
 obtain rfl:A3=true:=by cases A3<;>simp_all
 clear e1;go_wp2_with (fail);go_at_call 28;refine(qDr _ _ _ _).mono ?_;rintro e w' ⟨rfl,rfl⟩;rw[aX.out]
 by_cases e1:A4=false
 ·subst e1;have f:=N.out rfl;have g:=hyd1 f;clear f;go_wp2;refine qAI w.heap.size [] _ trivial λw9 hb r=>?_;exact⟨.tuple #[.slice none 0 0,.int .i64 2],by simp[results,Tryz.results7,go_sem],J.out.trans hb,_,_,rfl,by rw[g.out];exact⟨rfl,rfl⟩⟩
 obtain rfl:A4=true:=by cases A4<;>simp_all
 clear e1;go_wp2_with (fail);go_at_call 29;refine bI.out.mono ?_;rintro e W3 ⟨rfl,ap⟩;have R:=belT J.out ap
 by_cases e1:A5=false
 ·subst e1;have f:=N.out rfl;have⟨g,cr,a1⟩:=hyd3 f ap R;clear R ap f;go_wp2;refine qAI w.heap.size [] _ trivial λw9 hb r=>?_;exact⟨.tuple #[.slice none 0 0,.int .i64 2],by simp[results,Tryz.results7,go_sem],a1.out.trans hb,_,_,rfl,by rw[g.out];exact⟨rfl,rfl⟩⟩
 obtain rfl:A5=true:=by cases A5<;>simp_all
 clear e1
 have hT:qDq paths n seen tol=(match qAn paths n seen tol pl with
  | .error e=> .error e
  | .ok L=>if L=[]then .error 6 else .ok L):=by unfold qDq;rw[du.out,a6.out];rfl
 have cE:∀s∈seen,(-10000<=s.1/\s.1<=10000)/\(-10000<=s.2/\s.2<=10000):=λs hs=>by
  have h9:=List.all_eq_true.1 ca.out s hs;unfold farB at h9;simp only[Bool.not_not,Bool.and_eq_true,within_iff]at h9;exact h9
 have cI:=within_iff.1 aX.out;have dD:=within_iff.1 aV.out;have c0:=within_iff.1 aW.out;have em:pl<=8:=by omega
 obtain⟨W4,dy,aI,k4⟩:=newb W3 (.cells #[.slice none 0 0] 26);have ak:=belT ap aI;have ai:=belT R aI;have cQ:=blk ak cL.out;have cU:=blk ak dI.out;have ax:TrI w W4 W3.heap.size W4.heap.size [] W4:=⟨KeepX.refl _,ai,λ_ _ h=>h,⟨_,k4,World.ownsRow_nil _ _ _ _⟩,Nat.le_refl _,R.size,gsl k4⟩;have et:w.heap.size<=W4.heap.size:=ai.size;clear c1 c2 dD w4 cB cG;have⟨co,cF,cr,a1,eg,eV,d4,dz⟩:=hyd8 hT cE ap R aI k4 ak ai;have⟨cR,cV,ay,cJ,c3⟩:=hyd5 cQ cU ax cI c0;clear c0 cI ax cU cQ ai ak k4 aI R ap cE hT;go_wp2_with (fail);clear dy;refine wp_loop (qST w W4 PA pl pc n W1.heap.size W3.heap.size W4.heap.size paths seen tol) (λa _=>pl - (intOf (a.tmps.getD 46 undef)).toNat) ?start ?round
 case start=>exact⟨_,[],0,[],rfl,qAL _ _ (by kernel_rfl),Nat.zero_le _,rfl,ay.out,trivial⟩
 case round=>
  rintro a wr ⟨t,ds,k,L,rfl,⟨u,rfl⟩,hk,hL,G,hM⟩
  by_cases cx:k<pl
  ·have cw:k<paths.length:=by rw[a6.out];exact cx
   obtain⟨pb,po,fh,vr,cu,cA,g0,bE⟩:=PathsL.at (dC.out.le G.bw) cw;rw[a6.out]at cu;injection cu with e1 e2 e3;subst e1 e3;clear e2;have cv:paths.getD k []=paths[k]:=by rw[List.getD_eq_getElem?_getD,List.getElem?_eq_getElem cw];rfl
   have cC:=qDM paths[k] n vr wr bE;have j1:(k:Int)<(pl:Int):=by omega
   have j2:(0:Int)<=(k:Int):=by omega
   have⟨az,H,ao,cD,bc,ep,el⟩:=hyd7 hL G hM cC cv bE cA;clear cA bE cv cC hM G hL;go_wp2_with (fail);clear g0;go_at_call 11;refine cD.out.mono ?_;rintro e W5 ⟨E,v5,c5,rfl,aN⟩;have E:Below wr.heap.size wr W5:=E
   cases hP:qA4 paths[k] n with
   | error z=>
    rw[hP]at aN;obtain⟨rfl,rfl⟩:=aN;have hz:=qGB hP;have eT:(c5 != 0)=true:=by simpa using hz
    have I:qDq paths n seen tol= .error c5:=by
     rw[co.out,qMS az.out (by rw[bc.out];exact hP) pl cx]
    obtain⟨W6,cq,ae,k6⟩:=newb W5 (.cells #[.slice none 0 0] 23);have c6:=qAO k6;have f6:=pfrz k6 0;obtain⟨W8,eK,b4⟩:∃V,W6.setCell ⟨W5.heap.size,0,none⟩ (.slice none 0 0)=V/\Below W5.heap.size W5 V:=⟨_,rfl,ae.setCell (p:=⟨W5.heap.size,0,none⟩) (Nat.le_refl _) _⟩;have M:=belT E b4;have cf:=MarksT.next ao.out M;have bb:=belT H.out.bw M;have⟨a5,dv,T,aZ,cM,bx,cg,b5⟩:=hyd8 E hP I ae k6 M cf bb;have ei:=hyd1 b4;clear b4 bb cf M k6 ae I hP E;go_wp2;refine qAI w.heap.size ds _ cg.out λw9 hb r=>?_;exact⟨.tuple #[.slice none 0 0,.int .i64 c5],by simp[results,Tryz.results7,go_sem],b5.out.trans hb,_,_,rfl,by rw[T.out];exact⟨rfl,rfl⟩⟩
   | ok P=>
    rw[hP]at aN;obtain⟨aP,rfl,a9⟩:=aN;obtain⟨cz,bs,cm⟩:=qDH hP;obtain⟨A5,c5,rfl,cl⟩:=aP.form;obtain⟨pn,a7⟩:∃m,P.length=m:=⟨_,rfl⟩;have bt:=qNx az.out (by rw[bc.out];exact hP);rw[a7]at aP a9 cl bs bt ⊢;obtain⟨W6,cq,ae,k6⟩:=newb W5 (.cells #[.slice A5 pn c5] 23);have M:=belT E ae;have eF:=qAO k6;have kw:=qNz (k:Int) (pn:Int) W6;have⟨a5,dv,cH,bD,ek,ed,cn,ag⟩:=hyd8 E hP aP a9 cz bs cm a7;have⟨cp,aZ,cM,bx,dN⟩:=hyd5 bt ae k6 M kw;clear kw M k6 ae bt a7 cm bs cz a9 aP hP E;go_wp2_with (fail);clear cq;go_at_call 30;refine dN.out.mono ?_;rintro e W7 ⟨Bn,Bp,rfl,aJ,kn,kp⟩;have X:=belT aZ.out aJ;have al:=belT a5.out X;have Q:=(H.out.next al);have ch:=MarksT.next ao.out al;have bl:=blk aJ cM.out;have bj:=cH.out.le (show Le W5 W7 from X)
    have aA:∀(a:Addr) (n k:Nat),Value.slice A5 pn c5= .slice (some a) n k->∃cs,W7.heap[a.block]? =some (.cells cs 41):=λa n k e=>by
     obtain⟨cs,h9⟩:=bD.out a n k e;exact⟨cs,blk X h9⟩
    have cS:=Q.kx.tag _ _ _ cR.out (by unfold trT;decide);have cW:=Q.kx.tag _ _ _ cV.out (by unfold trT;decide)
    have ax:TrI w W7 W3.heap.size W4.heap.size (L++gotT P seen tol []) W7:=by
     rw[show gotT P seen tol []=[]from rfl,List.append_nil];exact⟨KeepX.refl _,Q.bw,λ_ _ h=>h,Q.row,Q.bz,Q.wl,Q.lb⟩
    have cd:=qI8 c3.out az.out;have cK:w.heap.size<=W7.heap.size:=Q.bw.size;have⟨eh,dL,dM,d6,d7,cb,aY,bG⟩:=hyd8 aJ kn kp X al Q ch bl;have⟨bC,aQ,cT,cX,ay,ce⟩:=hyd6 bj aA cS cW ax cd;clear cd ax cW cS aA bj bl ch Q al X kp kn aJ;go_wp2_with (fail);refine(wpIn_wide (n:=5)).1 ?_;refine qBU rfl (by omega) (gf:=60) (lb:=#[.pointer (some ⟨Bn,0,none⟩),.pointer (some ⟨Bp,0,none⟩)]) rfl trivial (enters_of Tryz.func60 (by kernel_rfl) rfl)
     (qLg k pn Bn Bp W7 cl dL.out dM.out) KeepX.trans (λV l o o' hl h hc _=>KeepX.put o' h hc) (Below.refl _ _) (λ_=>rfl)
     (λd V=>TrI w W7 W3.heap.size W4.heap.size (L++gotT P seen tol d) V) (λ_ _ _=>False)
     (TrI.own cK (λd=>L++gotT P seen tol d)) (λc s A B fi hs hg hr=>hs) ay.out
     (λd x a' V=>∃(u:Nat->Value) (Fb:Nat),a'={tmps:=#[u 0,(u 1),(u 2),(u 3),(u 4),(u 5),.pointer (some ⟨w.heap.size,0,none⟩),.pointer (some ⟨W1.heap.size,0,none⟩),(u 8),(u 9),(u 10),.pointer (some ⟨W3.heap.size,0,none⟩),(u 12),(u 13),.pointer (some ⟨W5.heap.size,0,none⟩),(u 15),.pointer (some ⟨Fb,0,none⟩),(u 17),(u 18),(u 19),(u 20),(u 21),(u 22),(u 23),(u 24),(u 25),(u 26),(u 27),(u 28),(u 29),(u 30),(u 31),(u 32),(u 33),(u 34),(u 35),(u 36),(u 37),(u 38),(u 39),(u 40),(u 41),(u 42),(u 43),(u 44),(u 45),(u 46),(u 47),(u 48),(u 49),(u 50),(u 51),(u 52),(u 53),(u 54),(u 55),(u 56),(u 57),(u 58),(u 59),(u 60),(u 61),(u 62),(u 63),(u 64),(u 65),(u 66),(u 67),(u 68),(u 69),(u 70),(u 71),(u 72),(u 73),(u 74),(u 75),(u 76),(u 77),(u 78)],defers:=[]}/\V.heap[Fb]? =some (.cells #[.int .i64 (x.path:Int),.int .i64 (x.fr:Int),.int .i64 (x.q:Int),.bool x.bk] 37)/\x=wayK k d.length/\d.length<8*pn)
     (λd x a' V o o' h hr=>by obtain⟨u,Fb,h1,h3,h4⟩:=h;exact⟨u,Fb,h1,(World.putObj_heap_other (λe=>by rw[e,hr]at h3;cases h3)).trans h3,h4⟩) ?assign ?body ?done ?stop
    case assign=>
     intro la d x V K G hG hK;obtain⟨pa,S,q,bk⟩:=x;dsimp only[qNy,traV];gi_wp2;have ct:Below V.heap.size V (V.alloc (.cells #[.int .i64 (pa:Int),.int .i64 (S:Int),.int .i64 (q:Int),.bool bk] 37)):=(Below.refl _ V).alloc (Nat.le_refl _) _;refine hK _ _ ((KeepsOthers.alloc _ _).from _) (KeepX.fresh ct) (G.next ct) ?_;obtain⟨u,hu⟩:=qPX (λu:Nat->Value=>#[u 0,(u 1),(u 2),(u 3),(u 4),(u 5),.pointer (some ⟨w.heap.size,0,none⟩),.pointer (some ⟨W1.heap.size,0,none⟩),(u 8),(u 9),(u 10),.pointer (some ⟨W3.heap.size,0,none⟩),(u 12),(u 13),.pointer (some ⟨W5.heap.size,0,none⟩),(u 15),.pointer (some ⟨V.heap.size,0,none⟩),(u 17),(u 18),(u 19),(u 20),(u 21),(u 22),(u 23),(u 24),(u 25),(u 26),(u 27),(u 28),(u 29),(u 30),(u 31),(u 32),(u 33),(u 34),(u 35),(u 36),(u 37),(u 38),(u 39),(u 40),(u 41),(u 42),(u 43),(u 44),(u 45),(u 46),(u 47),(u 48),(u 49),(u 50),(u 51),(u 52),(u 53),(u 54),(u 55),(u 56),(u 57),(u 58),(u 59),(u 60),(u 61),(u 62),(u 63),(u 64),(u 65),(u 66),(u 67),(u 68),(u 69),(u 70),(u 71),(u 72),(u 73),(u 74),(u 75),(u 76),(u 77),(u 78)]) _ (by kernel_rfl);exact⟨u,V.heap.size,congrArg (λt=>({tmps:=t,defers:=[]}:Act)) hu,heap_alloc_new _ _,hG.1,hG.2⟩
    case body=>
     rintro la d x a' V G ⟨u,Fb,rfl,kF,hx,bf⟩ be;obtain⟨pa,S,q,bk⟩:=x;have aR:S<pn/\q<=3:=by unfold wayK at hx;injection hx with _ h2 h3 h4;omega
     dsimp only at kF;obtain⟨v,kL,ho⟩:=G.row;have c8:=ho;obtain⟨m,hm⟩:∃m,(L++gotT P seen tol d).length =m:=⟨_,rfl⟩
     have eO:m<=1000000:=by
      have h1:=qMn P seen tol d;have h2:=ce.out;rw[List.length_append]at hm;omega
     rw[hm]at ho;obtain⟨AO,cO,rfl⟩:=qCk ho;have tS:¬trT 23:=by unfold trT;decide
     have tI:¬trT 3:=by unfold trT;decide
     have bJ:=G.kx.tag _ _ _ cT.out tS;have bK:=G.kx.tag _ _ _ cX.out tI;have aB:=G.kx.tag _ _ _ bG.out tS;have b0:=qAO bJ;have b1:=qAO bK;have b2:=qAO aB;obtain⟨d0,d1,d2,d3⟩:=pc4 kF;have bL:=qLe P seen pa S q bk tol _ _ V (bC.out.keepX aQ.out G.kx) (dE.out.le (show Le w V from G.bw)) (by rw[ag.out];exact aR.1) aR.2 cn.out cF.out cJ.out;obtain⟨F,hF⟩:∃b,fitT P seen tol ⟨pa,S,q,bk⟩=b:=⟨_,rfl⟩;rw[hF]at bL;have b6:=qPV P seen tol d ⟨pa,S,q,bk⟩;rw[hF]at b6;have⟨H,dJ,eQ,dB,dA,er,cN,eP⟩:=hyd8 G kF hx bf be aR kL ho;have⟨bh,aL,ez,e0,dG,cY,eJ,bd⟩:=hyd8 c8 hm bJ bK aB bL hF b6;have⟨fl,fk⟩:=hyd2 tS tI;clear tI tS b6 hF bL aB bK bJ hm c8 ho kL aR be bf hx kF G;gi_wp2_with (fail);refine⟨trivial,?_⟩;gi_at_call 31;refine(CallsIn.inRound la (callsIn_wide.2 cY.out)).mono ?_;rintro e V2 ⟨rfl,C⟩
     cases F with
     | false=>
      have hN:=H.out.next C;have Y:gotT P seen tol (d++[⟨pa,S,q,bk⟩])=gotT P seen tol d:=by rw[bd.out];simp
      have⟨aj,aH,af⟩:=hyd3 C hN Y;clear Y hN C;gi_wp2;exact⟨KeepsFrom.of_grownBy (qDs aj.out) (λj e=>by cases e),KeepX.fresh aj.out,by show TrI w W7 W3.heap.size W4.heap.size (L++gotT P seen tol (d++[⟨pa,S,q,bk⟩])) V2;rw[af.out];exact aH.out⟩
     | true=>
      have hN:=H.out.next C;have Y:L++gotT P seen tol (d++[⟨pa,S,q,bk⟩])=(L++gotT P seen tol d)++[⟨pa,S,q,bk⟩]:=by rw[bd.out];simp
      have aq:=blk C cN.out;have bH:=blk C dJ.out;clear b0 b1 b2 d0 d1 d2 d3;obtain⟨d0,d1,d2,d3⟩:=pc4 bH;have b3:=qAO aq;have fL:=pfrz aq 0;obtain⟨Wa,eL,a2,ka⟩:=newb V2 (.cells #[.int .i64 (pa:Int),.int .i64 (S:Int),.int .i64 (q:Int),.bool bk] 37);have U:=belT C a2;have b9:=qAK bh.out U;have dF:W4.heap.size<=Wa.heap.size:=Nat.le_trans H.out.bz U.size
      have bg:∀(i:Nat) (y:Value),(qCU ⟨pa,S,q,bk⟩)[i]? =some y->Wa.cell? ⟨V2.heap.size,i,none⟩=some y:=λi y hu=>by
       have d9:i<4:=(List.getElem?_eq_some_iff.1 hu).1;obtain⟨n0,n1,n2,n3⟩:=pc4 ka
       match i,d9 with
       | 0,_=>rw[n0];simpa[qCU]using hu
       | 1,_=>rw[n1];simpa[qCU]using hu
       | 2,_=>rw[n2];simpa[qCU]using hu
       | 3,_=>rw[n3];simpa[qCU]using hu
      have Z:∀w7,Wa.grownBy w7 (Value.slice AO m cO).ownBlock ->w7.heap[W3.heap.size]? =some (.cells #[.slice AO m cO] 26):=λw7 hg=>by
       have eN:=H.out.lb;refine(hg.block W3.heap.size (by have:=gsl (blk a2 aq);omega) (λe=>?_)).trans (blk a2 aq);have:=(b9.lt _ e.symm).1;omega
      have b7:((L++gotT P seen tol d)++[(⟨pa,S,q,bk⟩:Tra)]).length =m+1:=by rw[List.length_append,aL.out];rfl
      have bi:=λw7 v7 (hg:Wa.grownBy w7 (Value.slice AO m cO).ownBlock) (q1:w7.ownsRow W4.heap.size 37 4 v7 (m+1) (((L++gotT P seen tol d)++[(⟨pa,S,q,bk⟩:Tra)]).flatMap qCU))=>TrI.put (x:=⟨pa,S,q,bk⟩) (v7:=v7) W7.heap.size H.out cN.out bh.out U hg (by rw[b7];exact q1);have⟨aj,aH,af,ew,eu,ej,eW,d5⟩:=hyd8 C hN Y aq bH a2 ka U;have⟨c9,b8,a4,cy,bB⟩:=hyd5 b9 bg Z b7 bi;clear bi b7 Z bg b9 U ka a2 bH aq Y hN C;gi_wp2_with (first | (gi_at_builtin;refine qE5 (enc:=qCU) (k:=4) (bytes:=32) _ rfl _ _ 26 (λ_=>rfl) (λx u hu=>by simp[qCU]at hu;rcases hu with rfl|rfl|rfl|rfl<;>rfl) (by decide) rfl (by decide) rfl W4.heap.size 37 Tryz.underlying26 qR1 (.slice AO m cO) (L++gotT P seen tol d) rfl c9.out V2.heap.size ⟨pa,S,q,bk⟩ rfl b8.out (by rw[aL.out];omega) dF ?_;intro v7 w7 q1 q2 q3;rw[cy.out]at q1;(obtain⟨A7,c7,rfl⟩:=qCk q1);have cP:=a4.out w7 q2;have eX:=qAO cP;have eY:=pfrz cP 0));obtain⟨p1,p2,p3⟩:=bB.out w7 _ q2 q1;exact⟨p2,p1,by show TrI w W7 W3.heap.size W4.heap.size (L++gotT P seen tol (d++[⟨pa,S,q,bk⟩])) _;rw[af.out];exact p3⟩
    case done=>
     rintro D xs V hD rfl G bq;have hN:=TrI.over cb.out (Below.refl _ _) G;rw[<-ag.out]at hN
     have ci:Marks w.heap.size V ({target:= .collected D,args:=#[]}::ds):=
      MarksT.cons (w:=W7) (aY.out.keep λD' _ h=>G.df D' _ h) (MarksT.lt aY.out) hD (by omega) bq
     have a0:=cp.out;rw[<-ag.out]at a0;have⟨H,ec,aH,cj,bu⟩:=hyd5 G bq hN ci a0;clear a0 ci hN bq G;go_wp2;exact⟨⟨_,_,k+1,_,rfl,qAL _ _ (by kernel_rfl),by omega,bu.out,aH.out,cj.out⟩,by simp[intOf];omega⟩
    case stop=>
     rintro D cc d V _ _ h _;exact h.elim
  ·obtain rfl:pl=k:=by omega
   obtain⟨v,Z,O⟩:=G.row;have am:TraL wr v L:=SV.of_own (e:=37) (enc:=qCU) (λ_=>rfl) O;obtain⟨m,hm⟩:∃m,L.length=m:=⟨_,rfl⟩;rw[hm]at O;obtain⟨AO,cO,rfl⟩:=qCk O;have ck:=qAO Z;have aK:=G.bw;have I:=co.out;rw[hL]at I;dsimp only at I
   by_cases h0:m=0
   ·subst h0;rw[if_pos (List.eq_nil_of_length_eq_zero hm)]at I;have⟨a4,bA,a8,aL,H,ao,az,a3⟩:=hyd8 Z O am hm G hM hL aK;have T:=hyd1 I;clear I aK hL hM G hm am O Z;go_wp2;refine qAI w.heap.size ds _ ao.out λw9 hb r=>?_;exact⟨.tuple #[.slice none 0 0,.int .i64 6],by simp[results,Tryz.results7,go_sem],a3.out.trans hb,_,_,rfl,by rw[T.out];exact⟨rfl,rfl⟩⟩
   ·rw[if_neg (λh=>h0 (by rw[<-hm,h];rfl))]at I;have h1:¬(m:Int)=0:=by omega
    have h2:0<m:=by omega
    have⟨a4,bA,a8,aL,H,ao,az,a3⟩:=hyd8 Z O am hm G hM hL aK;have T:=hyd1 I;clear I aK hL hM G hm am O Z;go_wp2;refine qAI w.heap.size ds _ ao.out λw9 hb r=>?_;exact⟨.tuple #[.slice AO m cO,.int .i64 0],by simp[results,Tryz.results7,go_sem],a3.out.trans hb,_,_,rfl,by rw[T.out];exact⟨SVT.keepC a8.out r hb.size (λ_ _=>by show 0<4;decide),rfl⟩⟩
end Go.Proofs.YtabfaobakmjiaaaGreat

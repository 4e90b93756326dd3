/- The heads at work, one by one: read.mounts and its iterator. What is found, one by one: read.found and its iterator. -/
import Derived.Test.YtabfaobakmjiaaaGreatPy16
namespace Go.Proofs.YtabfaobakmjiaaaGreat
set_option maxRecDepth 100000
set_option maxHeartbeats 1000000
open Go.RowKit Go.Shelf
set_option linter.unusedVariables false
set_option linter.unusedSimpArgs false
attribute [local go_sem] Oper.semAt_some
theorem qBp {W W':World} (h:Below W.heap.size W W'):W.grownBy W' none:=⟨h.os,h.tape,h.output,h.size,λk hk _=>h.block k hk⟩
theorem OwnFrom.later {β:Type} {B:Nat} {I:β->World->Prop} (h:OwnFrom B I) {s:β} {W W':World} (hs:I s W) (hb:Below W.heap.size W W'):I s W':=h s W W' none hs (qBp hb) (λr e=>by cases e)
def mtsH (p:Pic) (k:Nat):List (Nat×Int):=(List.range k).flatMap λh=>(upTo p.tl p.th).map λt=>(h,t)
def mtsL (p:Pic):List (Nat×Int):=mtsH p p.hs.length
def thrN (p:Pic) (k j:Nat):List (Nat×Int):=(List.range j).map λ(i:Nat)=>(k,p.tl+(i:Int))
theorem qO3 (p:Pic) (k:Nat):thrN p k 0=[]:=rfl
theorem qGZ (p:Pic) (k j:Nat):thrN p k (j+1)=thrN p k j++[(k,p.tl+(j:Int))]:=by unfold thrN;rw[List.range_succ,List.map_append];rfl
theorem qG0 (p:Pic) (k:Nat):mtsH p (k+1)=mtsH p k++thrN p k (p.th - p.tl+1).toNat :=by
 unfold mtsH;rw[List.range_succ,List.flatMap_append,List.flatMap_singleton];unfold thrN upTo;rw[List.map_map]
 rfl
theorem qO4 (p:Pic) {a b:Nat} (h:a<=b):mtsH p a<+:mtsH p b:=by
 induction h with
 | refl=>exact List.prefix_rfl
 | step _ ih=>exact ih.trans (by rw[qG0];exact List.prefix_append _ _)
theorem qO5 (p:Pic) (k:Nat) {a b:Nat} (h:a<=b):thrN p k a<+:thrN p k b:=by
 induction h with
 | refl=>exact List.prefix_rfl
 | step _ ih=>exact ih.trans (by rw[qGZ];exact List.prefix_append _ _)
theorem qQv (p:Pic) {k j:Nat} (hk:k<p.hs.length) (hj:j<=(p.th - p.tl+1).toNat):mtsH p k++thrN p k j<+:mtsL p:=by
 have b:mtsH p k++thrN p k j<+:mtsH p (k+1):=by rw[qG0,List.prefix_append_right_inj];exact qO5 p k hj
 exact b.trans (qO4 p hk)
def mtK (x:Nat×Int×Nat):Nat×Int:=(x.1,x.2.1)
def qNT (x:Nat×Int×Nat):Array Value:=#[.agg #[.int .i64 (x.1:Int),.int .i64 x.2.1,.map (some x.2.2)]]
def MtG (p:Pic) (z:Nat) (pre:List (Nat×Int×Nat)) (x:Nat×Int×Nat) (W:World):Prop:=pre.map mtK++[mtK x]<+:mtsL p/\(x.1<p.hs.length/\p.tl<=x.2.1/\x.2.1<=p.th)/\z<=x.2.2/\∃n D bl Z,n<=60/\Bases W x.2.2 n D bl Z p.steps (hasC p.rds) (rowS p.rds (p.lift x.1) x.2.1 p.steps)
theorem qIo (p:Pic) (v:Value) (cs:Array Value) (w0 w:World) (Bp n₀:Nat) (hp:IsPic w0 v p) (hok:PicM p) (h0:w0.heap.size<=n₀) (hn₀:n₀<=w.heap.size) (hb:Below w0.heap.size w0 w) (hv:v= .agg cs) (hB:w.heap[Bp]? =some (.cells cs 51)):
  SeqO Fence.wide 3 Tryz.prog 152 #[.pointer (some ⟨Bp,0,none⟩)] qNT (MtG p w.heap.size) (KeepT n₀) (λxs=>xs.map mtK=mtsL p) (λpre=>pre.map mtK<+:mtsL p) (mtsL p).length w:=by
 intro l J Jx W X af E hY a7;have am:Below w0.heap.size w0 W:=hb.trans (X.mono (Nat.le_trans h0 hn₀));have bh:n₀<=W.heap.size:=Nat.le_trans hn₀ X.size;have kB:=(X.block _ (gsl hB)).trans hB;have bp:=X.size;obtain⟨vh,vr,rfl,hh,hr⟩:=id hp;injection hv with hv;subst hv;obtain⟨HA,hc,rfl,bf⟩:=hh.slice;obtain⟨RA,rc,rfl,bj⟩:=hr.slice;have aS:=hok.heads;have bm:=hok.tl;have bk:=hok.th;have bg:=hok.tle;obtain⟨N,hN⟩:∃N,(p.th - p.tl+1).toNat =N:=⟨_,rfl⟩;have aZ:p.tl+(N:Int)=p.th+1:=by omega
 have L:∀k j:Nat,k<p.hs.length->j<=N->mtsH p k++thrN p k j<+:mtsL p:=λk j hk hj=>qQv p hk (by rw[hN];exact hj);have i:=λk=>qG0 p k;rw[hN]at i;obtain⟨c0,c1,c2,c3,c4,c5⟩:=pc6 kB;have⟨aD,ar,bc,aX,bb,ag,a8,aA⟩:=hyd8 hp hok hb hB X af E hY;have⟨an,av,be,bi,V,B,aY⟩:=hyd7 am kB hh hr L i hN;clear hN i L hr hh kB am hY E af X hB hb hok hp;refine callsIn_of_wp Tryz.func152 rfl trivial ?_ rfl;simp only[Tryz.ntmps152,List.size_toArray,List.length_cons,List.length_nil,Nat.reduceAdd,Nat.reduceSub,Array.replicate_succ,Array.replicate_zero,List.push_toArray,List.append_toArray,List.nil_append,List.cons_append];gi_wp2;clear c0 c1 c2 c3 c4 c5;gi_loopw [8] (λix wr=>∃(k:Nat) (pre:List (Nat×Int×Nat)),k<=p.hs.length/\ix= .int .i64 (k:Int)/\Hid (pre.map mtK=mtsH p k)/\Hid (J pre wr/\KeepT n₀ W wr)) (λix _=>p.hs.length - (intOf ix).toNat)
 case atStart=>exact⟨0,[],Nat.zero_le _,rfl,Lib.hid rfl,Lib.hid ⟨a7,KeepT.refl _ _⟩⟩
 case round=>
  obtain⟨k,pre,hk,rfl,o,r⟩:=hrel;obtain⟨y,s⟩:=r.out
  by_cases R:k<p.hs.length
  ·obtain⟨c0,c1,c2,c3,c4,c5⟩:=pc6 (s.tag _ _ _ av.out (.inr (.inr (.inl rfl))));have br:(k:Int)<(p.hs.length:Int):=by omega
   have Y:(pre.map mtK=mtsH p k++thrN p k 0):=by rw[qO3,List.append_nil];exact o.out
   have⟨ah,q,F,au,aa⟩:=hyd5 r y s o Y;clear Y o s y r;gi_wp2;clear c0 c1 c2 c3 c4 c5;gi_loopw [4] (λtx wv=>∃(j:Nat) (b:List (Nat×Int×Nat)),j<=N/\tx= .int .i64 (p.tl+(j:Int))/\Hid (b.map mtK=mtsH p k++thrN p k j)/\Hid (J b wv/\KeepT n₀ W wv)) (λtx _=>N - (intOf tx - p.tl).toNat)
   case atStart=>exact⟨0,pre,Nat.zero_le _,by go_num,aa,Lib.hid ⟨q.out,F.out⟩⟩
   case round=>
    obtain⟨j,b,hj,rfl,d,f⟩:=hrel;obtain⟨m,c⟩:=f.out;have t:=c.tag _ _ _ av.out (.inr (.inr (.inl rfl)));obtain⟨c0,c1,c2,c3,c4,c5⟩:=pc6 t
    by_cases aC:j<N
    ·have aG:p.tl+(j:Int)<=p.th:=by omega
     have ax:=qGH _ p k (p.tl+(j:Int)) wr (aD.out.le (an.out.trans (c.below.mono h0))) ar.out R ⟨by omega,by omega⟩;have S:b.map mtK++[(k,p.tl+(j:Int))]<+:mtsL p:=by rw[d.out,List.append_assoc,<-qGZ];exact V.out k (j+1) R aC
     have ap:b.length<(mtsL p).length :=by have:=S.length_le;simp at this;omega
     have H:∀x:Nat×Int×Nat,mtK x=(k,p.tl+(j:Int))->(b++[x]).map mtK=mtsH p k++thrN p k (j+1):=λx hx=>by rw[List.map_append,d.out,qGZ,List.append_assoc,List.map_singleton,hx]
     have bq:=c.below.size;have⟨ay,O,g,h,T,G,U,aw⟩:=hyd8 ax f m c d S H t;clear t H S d c m f ax;gi_wp2_with (first | (refine⟨trivial,?_⟩;gi_at_call 44;refine(callsIn_wide.2 (ay.out)).mono ?_;rintro e w' ⟨Bm,n,D,bl,Z,rfl,z,aq,M,bd⟩;(obtain⟨fn,aT,az,aK,hy,hR⟩:=aA.out b (k,p.tl+(j:Int),Bm) w' (OwnFrom.later (I:=J) ag.out g.out z) ⟨G.out,⟨R,(by show p.tl<=p.tl+(j:Int);omega),(by show p.tl+(j:Int)<=p.th;omega)⟩,(by show w.heap.size<=Bm;omega),n,D,bl,Z,aq,M⟩ ap);dsimp only[qNT]at hy));have ai:KeepT n₀ wr w':=KeepT.fresh z (by omega);have⟨aO,aL,aj⟩:=hyd3 z M ai;clear ai M z;refine hR.mono ?_;rintro e W3 ⟨A,(⟨rfl,ad,Q⟩| ⟨rfl,C⟩)⟩
     ·have ak:=(h.out.trans aj.out).trans Q;have⟨ao,ae,aR,al⟩:=hyd4 A ad Q ak;clear ak Q ad A;gi_wp2;go_roundw
      case rel=>exact⟨j+1,_,by omega,by go_num,Lib.hid (U.out _ rfl),Lib.hid ⟨ae.out,al.out⟩⟩
      case measure=>simp[intOf];omega
     ·have⟨ao,P⟩:=hyd2 A C;clear C A;gi_wp2;refine bodyPost_ret (results_none rfl _ _ _) rfl ?_;exact⟨⟨_,rfl⟩,.inr ⟨_,by rw[List.map_append];exact G.out,P.out⟩⟩
    ·obtain rfl:j=N:=by omega
     have aG:¬p.tl+(j:Int)<=p.th:=by omega
     have ab:b.map mtK=mtsH p (k+1):=by rw[B.out];exact d.out
     have⟨O,g,h,T,aw,ac⟩:=hyd6 f m c d t ab;clear ab t d c m f;gi_wp2;go_roundw
     case rel=>exact⟨k+1,b,by omega,by go_num,ac,Lib.hid ⟨g.out,h.out⟩⟩
     case measure=>simp[intOf];omega
  ·obtain rfl:k=p.hs.length:=by omega
   have hS:=o.out;have⟨ah,q,F,au,a9⟩:=hyd5 r y s o hS;clear hS o s y r;gi_wp2;go_end0;exact⟨⟨_,rfl⟩,.inl ⟨pre,a9.out,q.out⟩⟩
theorem qKu (v:Value) (cs:Array Value) (w:World) (hv:v= .agg cs) (hs:cs.size=6):
  Calls Tryz.prog 97 #[v] w λe w'=>e= .returned (.func (.func 152) #[] #[.pointer (some ⟨w.heap.size,0,none⟩)])/\w.alloc (.cells cs 51)=w':=by
 have i:∀(fn:Fn) (first cap:Array Value) (w:World),(Instr.makeFunc fn first cap).run Tryz.prog w= .ok (.func fn first cap) w:=λ_ _ _ _=>rfl;obtain⟨l,rfl⟩:∃l:List Value,cs=l.toArray:=⟨cs.toList,by simp⟩
 obtain⟨b,c,d,f,g,h,rfl⟩:∃b c d f g h,l=[b,c,d,f,g,h]:=by
  match l,hs with
  | [b,c,d,f,g,h],_=>exact⟨_,_,_,_,_,_,rfl⟩
 subst hv;go_enter Tryz.func97,Tryz.ntmps97;go_wp2;go_ret;exact⟨rfl,rfl⟩
end Go.Proofs.YtabfaobakmjiaaaGreat
namespace Go.Proofs.YtabfaobakmjiaaaGreat
set_option maxRecDepth 100000
set_option maxHeartbeats 1000000
open Go.RowKit Go.Shelf
set_option linter.unusedVariables false
set_option linter.unusedSimpArgs false
attribute [local go_sem] Oper.semAt_some
def fndM (p:Pic) (ms:List (Nat×Int)):List Fnd:=ms.flatMap λm=>(upTo p.al p.ah).flatMap λa=>qCB p m.1 m.2 a
def advN (p:Pic) (m:Nat) (t:Int) (j:Nat):List Fnd:=(List.range j).flatMap λ(i:Nat)=>qCB p m t (p.al+(i:Int))
theorem qJ4 (p:Pic) (ms:List (Nat×Int)) (m:Nat) (t:Int):fndM p (ms++[(m,t)])=fndM p ms++advN p m t (p.ah - p.al+1).toNat :=by
 unfold fndM;rw[List.flatMap_append,List.flatMap_singleton];unfold advN upTo;rw[List.flatMap_map]
theorem qG1 (p:Pic) (m:Nat) (t:Int) (j:Nat):advN p m t (j+1)=advN p m t j++qCB p m t (p.al+(j:Int)):=by unfold advN;rw[List.range_succ,List.flatMap_append,List.flatMap_singleton]
theorem qO6 (p:Pic) (m:Nat) (t:Int) {a b:Nat} (h:a<=b):advN p m t a<+:advN p m t b:=by
 induction h with
 | refl=>exact List.prefix_rfl
 | step _ ih=>exact ih.trans (by rw[qG1];exact List.prefix_append _ _)
theorem qKv (p:Pic):fndM p (mtsL p)=qBH p:=by
 unfold fndM mtsL mtsH qBH;rw[List.flatMap_assoc]
 congr 1
 funext h
 rw[List.flatMap_map]
theorem qPj (p:Pic) {a b:List (Nat×Int)} (h:a<+:b):fndM p a<+:fndM p b:=by
 obtain⟨c,rfl⟩:=h;unfold fndM;rw[List.flatMap_append];exact List.prefix_append _ _
theorem qRg (p:Pic) {ms:List (Nat×Int)} {m:Nat} {t:Int} (h:ms++[(m,t)]<+:mtsL p) {j:Nat} (hj:j<(p.ah - p.al+1).toNat) (i:Nat):fndM p ms++advN p m t j++(qCB p m t (p.al+(j:Int))).take i<+:qBH p:=by
 have b:=qPj p h;rw[qKv,qJ4]at b;refine List.IsPrefix.trans ?_ b;rw[List.append_assoc,List.prefix_append_right_inj];refine List.IsPrefix.trans ?_ (qO6 p m t hj);rw[qG1,List.prefix_append_right_inj];exact List.take_prefix _ _
theorem qKC (p:Pic) (m:Nat) (t a:Int):(qCB p m t a).length =(fitL p.rds (p.lift m) t a).length :=by unfold qCB;simp
theorem qNU (p:Pic) (m:Nat) (t a:Int) {i:Nat} (h:i<(fitL p.rds (p.lift m) t a).length):(qCB p m t a)[i]? =some ⟨m,t,a,(fitL p.rds (p.lift m) t a)[i].1,(fitL p.rds (p.lift m) t a)[i].2⟩:=by unfold qCB;simp[h]
theorem qME (p:Pic) (m:Nat) (t a:Int) {i:Nat} (h:i<(fitL p.rds (p.lift m) t a).length):(qCB p m t a).take (i+1)=(qCB p m t a).take i++[⟨m,t,a,(fitL p.rds (p.lift m) t a)[i].1,(fitL p.rds (p.lift m) t a)[i].2⟩]:=by
 rw[List.take_add_one,qNU p m t a h]
 rfl
def qKQ (f:Fnd):Array Value:=#[fndV f]
theorem qFR (F:(Nat->Value)->Array Value) (t:Array Value) (h:t=F (λi=>t.getD i undef)):∃u,t=F u:=⟨_,h⟩
def FnI (p:Pic) (n₀:Nat) (J:List Fnd->World->Prop) (Wr:World) (pre:List (Nat×Int×Nat)) (W:World):Prop:=J (fndM p (pre.map mtK)) W/\KeepT n₀ Wr W
def FnX (p:Pic) (Jx:List Fnd->World->Prop) (c:Code) (pre:List (Nat×Int×Nat)) (W:World):Prop:=c= .ret /\∃ys,Jx ys W/\ys<+:qBH p/\ys≠[]
def FnA (p:Pic) (Bp Yb z:Nat) (Wr:World) (pre:List (Nat×Int×Nat)) (x:Nat×Int×Nat) (a:Act) (W:World):Prop:=∃(u:Nat->Value) (Bx:Nat),a={tmps:=#[u 0,.pointer (some ⟨Bp,0,none⟩),.pointer (some ⟨Yb,0,none⟩),.pointer (some ⟨Bx,0,none⟩),(u 4),(u 5),(u 6),(u 7),(u 8),(u 9),(u 10),(u 11),(u 12),(u 13),(u 14),(u 15),(u 16),(u 17),(u 18),(u 19),(u 20),(u 21),(u 22),(u 23),(u 24),(u 25),(u 26),(u 27),(u 28),(u 29),(u 30),(u 31),(u 32),(u 33),(u 34),(u 35),(u 36),(u 37),(u 38),(u 39)],defers:=[]}/\Wr.heap.size<=Bx/\W.heap[Bx]? =some (.cells #[.int .i64 (x.1:Int),.int .i64 x.2.1,.map (some x.2.2)] 108)/\MtG p z pre x W
theorem Bases.turn {w:World} {B n r:Nat} {D:DataW Unit} {bl:Int->Nat} {Z len:Nat} {cs:Int->Bool} {row:Int->List Spn} (h:Bases w B n D bl Z len cs row) {o:Loop} (hr:w.heap[r]? =some (.loop o)) (o':Obj):Bases (w.putObj r o') B n D bl Z len cs row:=by
 refine⟨?_,h.has,h.wf,h.get,λc d=>⟨(h.blk c d).1,(World.putObj_heap_other (λe=>by have:=(h.blk c d).2;rw[e,hr]at this;cases this)).trans (h.blk c d).2⟩,h.len,h.apart⟩;obtain⟨g,f,b,i⟩:=h.own;exact⟨g,f,(World.putObj_heap_other (λe=>by rw[e,hr]at b;cases b)).trans b,i⟩
theorem FnA.turn {p:Pic} {Bp Yb z:Nat} {Wr:World} {pre:List (Nat×Int×Nat)} {x:Nat×Int×Nat} {a:Act} {W:World} {r:Nat} {o:Loop} (o':Obj) (h:FnA p Bp Yb z Wr pre x a W) (hr:W.heap[r]? =some (.loop o)):FnA p Bp Yb z Wr pre x a (W.putObj r o'):=by
 obtain⟨u,c,g,i,b,f,j,k,n,D,d,Z,l,m⟩:=h;exact⟨u,c,g,i,(World.putObj_heap_other (λe=>by rw[e,hr]at b;cases b)).trans b,f,j,k,n,D,d,Z,l,m.turn hr o'⟩
theorem qGK (hun:∀(v:Value) (L:List Spn) (W:World),SpnL W v L->0<L.length->L.length<=10000->SpB L->Calls Tryz.prog 154 #[v] W λe w'=>∃v',e= .returned v'/\Below W.heap.size W w'/\SpnL w' v' (qBj L))
  (p:Pic) (v:Value) (cs:Array Value) (w0 w:World) (Bp n₀:Nat) (hp:IsPic w0 v p) (hok:PicM p) (hst:p.steps<=24) (h0:w0.heap.size<=n₀) (hn₀:n₀<=w.heap.size) (hb:Below w0.heap.size w0 w) (hv:v= .agg cs) (hB:w.heap[Bp]? =some (.cells cs 51)):
  SeqO Fence.wide 4 Tryz.prog 96 #[.pointer (some ⟨Bp,0,none⟩)] qKQ (λpre x _=>pre++[x]<+:qBH p) (KeepT n₀) (λxs=>xs=qBH p) (λpre=>pre<+:qBH p/\pre≠[]) (qBH p).length w:=by
 intro l J Jx W hW bt a4 hY br;have b5:Below w0.heap.size w0 W:=hb.trans (hW.mono (Nat.le_trans h0 hn₀));have dH:n₀<=W.heap.size:=Nat.le_trans hn₀ hW.size;have kB:=(hW.block _ (gsl hB)).trans hB;obtain⟨vh,vr,rfl,hh,T⟩:=id hp;injection hv with hv;subst hv;obtain⟨HA,hc,rfl,dF⟩:=hh.slice;obtain⟨RA,rc,rfl,dJ⟩:=T.slice;obtain⟨W1,d9,aI,k1⟩:=newb W (.cells #[.func (.yield l) #[] #[]] 178);obtain⟨c0,c1,c2,c3,c4,c5⟩:=pc6 (blk aI kB);have y0:=qAO k1;have cA:=λW=>qKu (.agg #[.slice HA p.hs.length hc,.int .i64 p.tl,.int .i64 p.th,.int .i64 p.al,.int .i64 p.ah,.slice RA p.rds.length rc]) _ W rfl rfl;have⟨cq,a7,dD,d2,d8,d,ae,ck⟩:=hyd8 hp hok hb hB hW bt a4 hY;have⟨b6,c8,dE,dI,b4,cy,bs⟩:=hyd7 b5 kB hh T aI k1 br;clear br k1 aI T hh kB b5 hY a4 bt hW hB hb hok hp;refine callsIn_of_wp_marks Tryz.func96 rfl trivial ?_ rfl;simp only[Tryz.ntmps96,List.size_toArray,List.length_cons,List.length_nil,Nat.reduceAdd,Nat.reduceSub,Array.replicate_succ,Array.replicate_zero,List.push_toArray,List.append_toArray,List.nil_append,List.cons_append];gi_wp2_with (first | (refine⟨trivial,?_⟩;gi_at_call 97;refine(callsIn_wide.2 (cA _)).mono ?_;rintro e w' ⟨rfl,rfl⟩));obtain⟨E,b3,ar,k2⟩:=newb W1 (.cells #[.slice HA p.hs.length hc,.int .i64 p.tl,.int .i64 p.th,.int .i64 p.al,.int .i64 p.ah,.slice RA p.rds.length rc] 51);rw[b3];clear b3 c0 c1 c2 c3 c4 c5 y0
 have y:=qAA b4.out ar;have az:W.heap.size<=E.heap.size:=y.size;have aj:=qAA b6.out y;have bL:=blk y c8.out;have bN:=blk ar cy.out;have cp:=qIo p _ _ w0 E W1.heap.size n₀ cq.out a7.out h0 (by omega) aj rfl k2;have⟨cU,dQ,aJ,cl,bM,bO⟩:=hyd6 ar k2 y aj bL bN;clear bN bL aj y k2 ar;refine qBU rfl (by omega) (gf:=152) (lb:=#[.pointer (some ⟨W1.heap.size,0,none⟩)]) rfl trivial (enters_of Tryz.func152 (by kernel_rfl) rfl)
  cp KeepT.trans (λV l o o' hl h hc _=>KeepT.put o' (by omega) h hc) (Below.refl _ _) (λ_=>rfl)
  (FnI p n₀ J E) (FnX p Jx) (λs A B a0 hs hg T=>⟨OwnFrom.wider (I:=J) d.out az _ A B a0 hs.1 hg T,qJv (w:=E) (by omega) (by omega) s A B a0 hs.2 hg T⟩)
  (λc s A B a0 hs hg T=>by obtain⟨e,ys,h1,h2⟩:=hs;exact⟨e,ys,OwnFrom.wider (I:=Jx) ae.out az _ A B a0 h1 hg T,h2⟩)
  ⟨OwnFrom.later (I:=J) d.out bs.out aJ.out,KeepT.refl _ _⟩ (FnA p Bp W.heap.size E.heap.size E) (λpre x a' V o o' h T=>h.turn o' T) ?assign ?body ?done ?stop
 case assign=>
  intro la pre x V K hI hG hK;dsimp only[qNT];gi_wp2;have au:Below V.heap.size V (V.alloc (.cells #[.int .i64 (x.1:Int),.int .i64 x.2.1,.map (some x.2.2)] 108)):=(Below.refl _ V).alloc (Nat.le_refl _) _;have cu:=hI.2.below.size;obtain⟨g0,g1,g2,n,D,bl,Z,g3,g4⟩:=hG;refine hK _ _ ((KeepsOthers.alloc _ _).from _) (KeepT.fresh au (by omega)) ⟨OwnFrom.later (I:=J) d.out hI.1 au,hI.2.trans (KeepT.fresh au (by omega))⟩ ?_;obtain⟨u,hu⟩:=qFR (λu:Nat->Value=>#[u 0,.pointer (some ⟨Bp,0,none⟩),.pointer (some ⟨W.heap.size,0,none⟩),.pointer (some ⟨V.heap.size,0,none⟩),(u 4),(u 5),(u 6),(u 7),(u 8),(u 9),(u 10),(u 11),(u 12),(u 13),(u 14),(u 15),(u 16),(u 17),(u 18),(u 19),(u 20),(u 21),(u 22),(u 23),(u 24),(u 25),(u 26),(u 27),(u 28),(u 29),(u 30),(u 31),(u 32),(u 33),(u 34),(u 35),(u 36),(u 37),(u 38),(u 39)]) _ (by kernel_rfl);exact⟨u,V.heap.size,congrArg (λt=>({tmps:=t,defers:=[]}:Act)) hu,by omega,heap_alloc_new _ _,g0,g1,g2,n,D,bl,Z,g3,g4.le au⟩
 case body=>
  intro la pre x a' V hI hA dc;obtain⟨aE,af⟩:=hI;obtain⟨u,Bx,rfl,d3,kx,aR,⟨hm,cr,ct⟩,bK,n,D,bl,Z,bC,aA⟩:=hA;obtain⟨m,t,BM⟩:=x;dsimp only at kx hm cr ct bK aA;have cu:=af.below.size;have aU:=af.tag _ _ _ bM.out (.inr (.inr (.inl rfl)));have bP:=af.tag _ _ _ bO.out (.inr (.inr (.inr rfl)));obtain⟨c0,c1,c2,c3,c4,c5⟩:=pc6 aU;have b:=a7.out;have dC:=b.al;have cT:=b.ale;have dB:=b.ah;have dN:=b.tl;have dM:=b.th;obtain⟨NA,aG⟩:∃N,(p.ah - p.al+1).toNat =N:=⟨_,rfl⟩;have cO:p.al+(NA:Int)=p.ah+1:=by omega
  have bi:J (fndM p (pre.map mtK)++advN p m t 0) V/\KeepT n₀ V V/\KeepsFrom E.heap.size V V:=⟨by show J (_++[]) V;rw[List.append_nil];exact aE,KeepT.refl _ _,KeepsFrom.refl _ _⟩;have am:fndM p ((pre++[(m,t,BM)]).map mtK)=fndM p (pre.map mtK)++advN p m t NA:=by rw[List.map_append,<-aG];exact qJ4 p _ m t
  have aR:pre.map mtK++[(m,t)]<+:mtsL p:=aR;have⟨cM,bz,bT,bf,a9,bQ,H,bj⟩:=hyd8 aE af kx aA aU bP b bi;have⟨cN,ay⟩:=hyd2 aG am;clear am aG bi b bP aU aA kx af aE;gi_wp2;clear c0 c1 c2 c3 c4 c5;gi_loopw [4] (λax wv=>∃j:Nat,j<=NA/\ax= .int .i64 (p.al+(j:Int))/\Hid (J (fndM p (pre.map mtK)++advN p m t j) wv/\KeepT n₀ V wv/\KeepsFrom E.heap.size V wv)) (λax _=>NA - (intOf ax - p.al).toNat)
  case atStart=>exact⟨0,Nat.zero_le _,by go_num,bj⟩
  case round=>
   obtain⟨j,hj,rfl,ac⟩:=hrel;obtain⟨ab,k,X⟩:=ac.out
   by_cases dG:j<NA
   ·have cw:p.al+(j:Int)<=p.ah:=by omega
    obtain⟨c0,c1,c2,c3,c4,c5⟩:=pc6 (k.tag _ _ _ a9.out (.inr (.inr (.inl rfl))));have aV:=k.tag _ _ _ bT.out (.inr (.inl rfl));obtain⟨x0,x1,x2⟩:=pc3 aV;have ap:=bf.out.keep k X bK;have Q:=H.out.head _ (List.getElem_mem hm);have bB:(p.lift m).length =p.steps:=by unfold Pic.lift;rw[List.getD_eq_getElem?_getD,List.getElem?_eq_getElem hm];show(qCX p.hs[m].ros p.hs[m].rub).length =_;rw[qBD];exact Q.1
    have aO:qAY (p.lift m)=true:=by unfold Pic.lift;rw[List.getD_eq_getElem?_getD,List.getElem?_eq_getElem hm];exact qIg (f:=p.hs[m].ros) Q.2.1 (by rw[Q.1];exact Q.2.2)
    have dL:0<p.steps:=by have:=H.out.steps.1;omega
    rw[<-bB]at ap;have bR:=qKt hun m t (p.al+(j:Int)) BM n D bl Z p.rds (p.lift m) wr ap bC aO (λr T=>by rw[bB];exact H.out.rd r T) ⟨by omega,by omega⟩ ⟨by omega,by omega⟩ (by omega) (by omega);have bE:=λi=>qRg p (ms:=pre.map mtK) (m:=m) (t:=t) aR (j:=j) (by omega) i;have⟨bv,a3,M,aa,cH,dj,cZ,de⟩:=hyd8 ac ab k X ap aV Q aO;have⟨bS,bF⟩:=hyd2 bR bE;clear bE bR aO Q aV ap X k ab ac;gi_wp2_with (first | (refine⟨trivial,?_⟩;gi_at_call 98;refine(callsIn_wide.2 (bS.out)).mono ?_;rintro e w' ⟨v9,rfl,ai,ak⟩;(obtain⟨A9,c9,rfl,a6⟩:=id ak.1.slice)));unfold maxLen at a6;have aT:KeepT n₀ V w':=M.out.trans (KeepT.fresh ai (by have:=M.out.below.size;omega));have aK:KeepsFrom E.heap.size V w':=aa.out.trans (KeepsFrom.of_grownBy (qBp ai) (λj e=>by cases e));obtain⟨L,hL⟩:∃L,fitL p.rds (p.lift m) t (p.al+(j:Int))=L:=⟨_,rfl⟩;have av:=λi=>qME p m t (p.al+(j:Int)) (i:=i);rw[hL]at ak av a6 ⊢;have aL:(qCB p m t (p.al+(j:Int))).length =L.length:=by rw[qKC,hL]
    obtain⟨FA,U⟩:∃F,qCB p m t (p.al+(j:Int))=F:=⟨_,rfl⟩;rw[U]at av aL;have O:=bF.out;rw[U]at O;obtain⟨Y,ag⟩:∃Y,fndM p (pre.map mtK)++advN p m t j=Y:=⟨_,rfl⟩;rw[ag]at O;have aM:J (Y++FA.take 0) w':=by rw[List.take_zero,List.append_nil,<-ag];exact OwnFrom.later (I:=J) d.out a3.out ai
    have a5:fndM p (pre.map mtK)++advN p m t (j+1)=Y++FA:=by rw[qG1,<-List.append_assoc,ag,U]
    have bk:J (Y++FA.take 0) w'/\KeepT n₀ V w'/\KeepsFrom E.heap.size V w'/\SpT w' (.slice A9 L.length c9) L:=⟨aM,aT,aK,ak⟩;clear c0 c1 c2 c3 c4 c5 x0 x1 x2;have⟨cW,df,di,cY,d6,b7,b8,cJ⟩:=hyd8 ai ak aT aK hL av aL U;have⟨aP,cS,da,aH,bm⟩:=hyd5 O ag aM a5 bk;clear bk a5 aM ag O U aL av hL aK aT ak ai;gi_loopw [22] (λix wq=>∃i:Nat,i<=L.length/\ix= .int .i64 (i:Int)/\Hid (J (Y++FA.take i) wq/\KeepT n₀ V wq/\KeepsFrom E.heap.size V wq/\SpT wq (.slice A9 L.length c9) L)) (λix _=>L.length - (intOf ix).toNat)
    case atStart=>exact⟨0,Nat.zero_le _,rfl,bm⟩
    case round=>
     rename World=>wq
     obtain⟨i,hi,rfl,q⟩:=hrel;obtain⟨G,g,P,S⟩:=q.out;have ao:=g.tag _ _ _ bT.out (.inr (.inl rfl))
     by_cases bA:i<L.length
     ·obtain⟨b1,o1,z1,cm,cX,g0,g1⟩:=SpnL.cells S.1 bA;injection cm with e1 e2 e3;subst e1 e3;clear e2;have an:=b7.out i bA;obtain⟨⟨lo,co⟩,hs⟩:∃s,L[i]=s:=⟨_,rfl⟩;rw[hs]at g0 g1 an;dsimp only at g0 g1 an;obtain⟨W5,dA,z,k5⟩:=newb wq (.cells #[.int .i64 lo,.int .i64 co] 115);obtain⟨d0,d1⟩:=pc2 k5;obtain⟨x0,x1,x2⟩:=pc3 (blk z ao);have y0:=qAO (blk z (g.tag _ _ _ bQ.out (.inr (.inr (.inr rfl)))));have aB:=OwnFrom.later (I:=J) d.out G z;have dh:=g.below.size;have bw:=g.trans (KeepT.fresh (n₀:=n₀) z (by omega));have bg:=P.trans (KeepsFrom.of_grownBy (B:=E.heap.size) (qBp z) (λj e=>by cases e));have bG:=S.le z;have C:=aP.out (i+1);rw[an,<-List.append_assoc]at C;have aN:(Y++FA.take i).length <(qBH p).length :=by have:=C.length_le;simp at this ⊢;omega
      obtain⟨fn,tmps,assign,body,hy,hR⟩:=ck.out _ _ W5 aB C aN;dsimp only[qKQ,fndV]at hy;have j1:(i:Int)<(L.length:Int):=by omega
      have j2:(0:Int)<=(i:Int):=by omega
      have⟨aF,bu,b0,bh,bI,bU,bJ,dK⟩:=hyd8 q G g P S ao an hs;have⟨cV,dR,cK,bx,a2,bH,aS,dd⟩:=hyd8 z k5 aB bw bg bG C aN;clear aN C bG bg bw aB k5 z hs an ao S P g G q;gi_wp2;refine(qLr rfl hR).mono ?_;rintro e W6 ⟨R,(⟨rfl,aC,aw⟩| ⟨rfl,ad⟩)⟩
      ·have bn:J (Y++FA.take (i+1)) W6/\KeepT n₀ V W6/\KeepsFrom E.heap.size V W6/\SpT W6 (.slice (some ⟨b1,o1,none⟩) L.length c9) L:=⟨by rw[bJ.out,<-List.append_assoc];exact aC,bx.out.trans aw,a2.out.trans (qCy R az),bH.out.keep aw⟩;have⟨b9,cL,db,bo⟩:=hyd4 R aC aw bn;clear bn aw aC R;gi_wp2;go_roundw
       case rel=>exact⟨i+1,by omega,by go_num,bo⟩
       case measure=>simp[intOf];omega
      ·have hX:KeepsFrom E.heap.size V W6/\FnX p Jx .ret (pre++[(m,t,BM)]) W6:=⟨a2.out.trans (qCy R az),rfl,_,ad,aS.out,by simp⟩;have⟨b9,ci,cj⟩:=hyd3 R ad hX;clear hX ad R;gi_wp2;exact cj.out
     ·obtain rfl:i=L.length:=by omega
      rw[List.take_of_length_le (by have:=b8.out;omega)]at G;have bp:J (fndM p (pre.map mtK)++advN p m t (j+1)) wq/\KeepT n₀ V wq/\KeepsFrom E.heap.size V wq:=⟨by rw[aH.out];exact G,g,P⟩;have⟨aF,bu,b0,bh,bI,bU,bq⟩:=hyd7 q G g P S ao bp;clear bp ao S P g G q;gi_wp2;go_roundw
      case rel=>exact⟨j+1,by omega,by go_num,bq⟩
      case measure=>simp[intOf];omega
   ·obtain rfl:j=NA:=by omega
    have cw:¬p.al+(j:Int)<=p.ah:=by omega
    obtain⟨c0,c1,c2,c3,c4,c5⟩:=pc6 (k.tag _ _ _ a9.out (.inr (.inr (.inl rfl))));have hF:FnI p n₀ J E (pre++[(m,t,BM)]) wr:=⟨by rw[ay.out];exact ab,bz.out.trans k⟩;have⟨bv,a3,M,aa,ch⟩:=hyd5 ac ab k X hF;clear hF X k ab ac;gi_wp2;exact⟨aa.out,M.out,ch.out⟩
 case done=>
  intro D xs V hD hS hI hK;have aD:J (qBH p) V:=by have:=hI.1;rw[show xs.map mtK=mtsL p from hS,qKv]at this;exact this
  gi_wp2;refine⟨by simp,.inl ⟨D,_,rfl,run_takeDeferred hK,?_⟩⟩;exact⟨_,results_none rfl _ _ _,⟨_,rfl⟩,.inl ⟨_,rfl,OwnFrom.putObj (I:=J) d.out _ aD (by omega) hK rfl⟩⟩
 case stop=>
  intro D c pre V hD hS hI hK;obtain⟨rfl,ys,aD,aQ,bD⟩:=hI;gi_wp2;refine⟨by simp,.inl ⟨D,_,rfl,run_takeDeferred hK,?_⟩⟩;exact⟨_,results_none rfl _ _ _,⟨_,rfl⟩,.inr ⟨_,⟨aQ,bD⟩,OwnFrom.putObj (I:=Jx) ae.out _ aD (by omega) hK rfl⟩⟩
end Go.Proofs.YtabfaobakmjiaaaGreat

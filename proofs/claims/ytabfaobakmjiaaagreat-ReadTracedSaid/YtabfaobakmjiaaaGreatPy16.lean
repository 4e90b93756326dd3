/- The program's Fits, plain and in memory: rows of phases under way; the last cut over a map. What the program's starts finds, plain: one cut after another, in .. -/
import Derived.Test.YtabfaobakmjiaaaGreatPy15
import Derived.Test.YtabfaobakmjiaaaGreatPy12
namespace Go.Proofs.YtabfaobakmjiaaaGreat
set_option maxRecDepth 100000
open Go.RowKit
set_option linter.unusedVariables false
set_option linter.unusedSimpArgs false
theorem hasC_iff {rds:List Rd} {c:Int}:hasC rds c=true↔∃r∈rds,r.cut=c:=by unfold hasC;simp
def fitP (rds:List Rd) (lift:List Int) (throw adv start c:Int) (ph:Nat):Bool:=if hasC rds c then qAE (start+c*adv) (qAk rds lift throw c ph).1 (qAk rds lift throw c ph).2 else true
theorem qM7 {rds:List Rd} {lift:List Int} {throw adv start c:Int} {ph:Nat} (hs:0<=start/\start<=10000) (ha: -1000<=adv/\adv<=1000) (hc:0<=c/\c<=11):fitP rds lift throw adv start c ph=inB start (qC7 rds lift throw adv c ph):=by
 have f: -11000<=c*adv/\c*adv<=11000:=by
  have a:=Int.mul_le_mul_of_nonneg_left ha.1 hc.1;have b:=Int.mul_le_mul_of_nonneg_left ha.2 hc.1;omega
 rw[Bool.eq_iff_iff,qQn,startS_in];unfold fitP
 by_cases h:hasC rds c=true
 ·rw[if_pos h,within_iff,<-qFh (adv:=adv) (by omega)];constructor
  ·intro q;exact⟨hs,by omega,by omega⟩
  ·intro q;exact⟨by omega,by omega⟩
 ·rw[if_neg h];refine⟨λ_=>⟨hs,λr d e=>absurd (hasC_iff.2 ⟨r,d,e⟩) h⟩,λ_=>rfl⟩
theorem qPh {rds:List Rd} (hr:∀r∈rds,0<=r.cut/\r.cut<=11) {m:Int} (h0:0<=m) (h1:∀c,hasC rds c=true->c<=m) (h2:m=0∨hasC rds m=true):m=qCY rds:=by
 obtain⟨a,-,b,c⟩:=qK6 hr
 have d:m<=qCY rds:=by
  rcases h2 with rfl|h2
  ·exact a
  ·obtain⟨r,hr,rfl⟩:=hasC_iff.1 h2;exact b r hr
 have q2:qCY rds<=m:=by
  rcases c with e| ⟨r,hr,e⟩
  ·omega
  ·exact h1 _ (hasC_iff.2 ⟨r,hr,e⟩)
 omega
theorem Ints.kept {w W:World} {g:Nat} {vs:List Value} {t:TypeId} {v:Value} {xs:List Int} (h:Ints w v xs) (hg:w.heap[g]? =some (.cells vs.toArray t)) (hsl:∀u∈vs,IsSl u) (hs:w.heap.size<=W.heap.size) (hk:∀b,b<w.heap.size->b≠g->W.heap[b]? =w.heap[b]?):Ints W v xs:=by
 obtain⟨A,c,z,m,p,s,q⟩:=h;refine⟨A,c,z,m,p,s,λi=>?_⟩;obtain⟨b,off,x,d,l⟩:=q i
 have f:b≠g:=by
  rintro rfl;have k:=l 0 i;simp only[World.cell?,hg]at k;have r:vs[off+0]? =some (Value.int .i64 xs[0]):=by simpa using k
  obtain⟨_,_,_,C⟩:=hsl _ (List.mem_of_getElem? r)
  cases C
 exact⟨b,off,x,Nat.lt_of_lt_of_le d hs,λj y=>(World.cell?_of_block (hk b d f)).trans (l j y)⟩
structure RowsTo (w:World) (g N c:Nat) (f:Nat->List Int) (vs:List Value):Prop where
 len:vs.length=N
 blk:w.heap[g]? =some (.cells vs.toArray 56)
 done:∀i (h:i<vs.length),i<c->Ints w vs[i] (f i)
 nil:∀i (h:i<vs.length),c<=i->vs[i]= .slice none 0 0
 sl:∀u∈vs,IsSl u
theorem RowsTo.grid {w:World} {g N:Nat} {f:Nat->List Int} {vs:List Value} (h:RowsTo w g N N f vs) (hN:N<=1000000):GridL w (.slice (some ⟨g,0,none⟩) N N) ((List.range N).map f):=by
 refine⟨some ⟨g,0,none⟩,N,by simp,by simp,by unfold maxLen;omega,λe=>(by cases e),λ_=>⟨g,0,rfl,gsl h.blk,λj d=>?_⟩⟩;have b:j<N:=by simpa using d
 have c:j<vs.length:=by rw[h.len];exact b
 refine⟨vs[j],?_,?_⟩
 ·simp only[World.cell?,h.blk];simp[c]
 ·have:=h.done j c b;simpa using this
theorem RowsTo.start {w:World} {g N:Nat} {f:Nat->List Int} (h:w.heap[g]? =some (.cells (List.replicate N (Value.slice none 0 0)).toArray 56)):RowsTo w g N 0 f (List.replicate N (.slice none 0 0)):=
 ⟨by simp,h,λi _ h=>absurd h (Nat.not_lt_zero i),λi h1 _=>by simp,λu hu=>by rw[List.eq_of_mem_replicate hu];exact⟨_,_,_,rfl⟩⟩
theorem qQu (n:Nat):madeCells #[Value.slice none 0 0] n=(List.replicate n (Value.slice none 0 0)).toArray :=by
 apply Array.ext';apply List.ext_getElem
 ·simp[madeCells]
 ·intro i b c;simp[madeCells,Nat.mod_one]
structure RowOn (w:World) (W:World) (g c:Nat) (vs:List Value) (vl:Value) (l:List Int):Prop where
 blk:W.heap[g]? =some (.cells (vs.set c vl).toArray 56)
 own:W.ownsRow w.heap.size 3 1 vl l.length (l.map vint)
 size:w.heap.size<=W.heap.size
 kept:∀b,b<w.heap.size->b≠g->W.heap[b]? =w.heap[b]?
 below:Below g w W
theorem RowsTo.on {w:World} {g N c:Nat} {f:Nat->List Int} {vs:List Value} (h:RowsTo w g N c f vs) (hc:c<N):RowOn w w g c vs (.slice none 0 0) []:=by
 have d:=h.len;have b:=h.nil c (by omega) (Nat.le_refl _);refine⟨?_,World.ownsRow_nil _ _ _ _,Nat.le_refl _,λ_ _ _=>rfl,Below.refl _ _⟩;rw[<-b,List.set_getElem_self];exact h.blk
theorem RowOn.cell {w W:World} {g c:Nat} {vs:List Value} {vl:Value} {l:List Int} (h:RowOn w W g c vs vl l) (hc:c<vs.length):W.cell? ⟨g,c,none⟩=some vl:=by
 simp only[World.cell?,h.blk];simp[hc]
theorem RowsTo.next {w W:World} {g N c:Nat} {f:Nat->List Int} {vs:List Value} (h:RowsTo w g N c f vs) (hc:c<N) {vl:Value} {l:List Int} (ho:RowOn w W g c vs vl l) (hf:f c=l) (hsl:IsSl vl):RowsTo W g N (c+1) f (vs.set c vl):=by
 have m:=h.len;refine⟨by simpa using m,ho.blk,λi b j=>?_,λi b j=>?_,λu k=>?_⟩
 ·by_cases e:c=i
  ·subst e;rw[List.getElem_set_self,hf];exact qFf ho.own
  ·rw[List.getElem_set_ne e];have d:i<vs.length:=by simpa using b
   exact(h.done i d (by omega)).kept h.blk h.sl ho.size ho.kept
 ·rw[List.getElem_set_ne (by omega)];exact h.nil i (by simpa using b) (by omega)
 ·rcases List.mem_or_eq_of_mem_set k with k|rfl
  ·exact h.sl u k
  ·exact hsl
theorem RowOn.push {w W W2:World} {g c:Nat} {vs:List Value} {vl v2:Value} {l:List Int} {x:Int} (h:RowOn w W g c vs vl l) (hg:g<w.heap.size) (h1:W2.ownsRow w.heap.size 3 1 v2 (l++[x]).length ((l++[x]).map vint)) (h2:Below w.heap.size W W2):RowOn w (W2.setCell ⟨g,c,none⟩ v2) g c vs v2 (l++[x]):=by
 refine⟨?_,qCA h1 hg _,?_,λb f d=>?_,(h.below.trans (h2.mono (Nat.le_of_lt hg))).setCell (p:=⟨g,c,none⟩) (Nat.le_refl _) _⟩
 ·have:=(h2.block g hg).trans h.blk;simp only[World.setCell,Array.getElem?_modify,this];simp
 ·have:=h2.size;have:=h.size;simp[World.setCell];omega
 ·exact(Below.heap_setCell _ ⟨g,c,none⟩ _ b d).trans ((h2.block b f).trans (h.kept b f d))
section
variable {w:World} {ops:Array Oper} {rest:List Oper} {o:Oper} {a:Act} {Q:Exit->Act->World->Prop} {B n:Nat} {D:DataW Unit}
theorem qKr (hg:o.guard=none) (m x:Operand) (hop:o.op=Op.lookup 106 m x true) (hm:a.eval m= .map (some B)) (hown:w.ownsMap Tryz.prog 3 hdR B n D)
  (c:Int) (hx:a.eval x= .int .i64 c) (hc:(Lit.int .i64 c).wf =true) (b l k:Nat) (hat:∀z,D.atKey (.int .i64 c) z=hdD b l k) (hh:Maps.has D (.int .i64 c)=true)
  (hK:wpList Tryz.prog ops Q rest (a.put o.dst (.tuple #[.slice (some ⟨b,0,none⟩) l k,.bool true])) w):wpList Tryz.prog ops Q (o::rest) a w:=by
 refine qGE hg m x hop hm hown c hx hc λy d=>?_;rw[hat]at d;obtain rfl:=qGo d;rw[hh];exact hK
theorem qKs (hg:o.guard=none) (m x:Operand) (hop:o.op=Op.lookup 106 m x true) (hm:a.eval m= .map (some B)) (hown:w.ownsMap Tryz.prog 3 hdR B n D)
  (c:Int) (hx:a.eval x= .int .i64 c) (hc:(Lit.int .i64 c).wf =true) (hh:Maps.has D (.int .i64 c)=false)
  (hK:wpList Tryz.prog ops Q rest (a.put o.dst (.tuple #[.slice none 0 0,.bool false])) w):wpList Tryz.prog ops Q (o::rest) a w:=by
 refine qGE hg m x hop hm hown c hx hc λy b=>?_;rw[Maps.atKey_of_not_has hh]at b;obtain rfl:=qM3 b;rw[hh];exact hK
theorem qGJ {B r:Nat} {left:Lit->Bool} {cnt:Nat} (hg:o.guard=none) (it:Operand) (hop:o.op=Op.next it false) (hit:a.eval it= .pointer (some ⟨r,0,none⟩)) (h:w.ranges Tryz.prog 3 hdR B r n D left cnt)
  (hDone:cnt=0->(∀kl,left kl=false)->wpList Tryz.prog ops Q rest (a.put o.dst (.tuple #[.bool false])) w)
  (hMore:∀(x:Int) (y:Option (Nat×Nat×Nat)) (w':World) (cnt':Nat),(Lit.int .i64 x).wf =true->left (.int .i64 x)=true->(∀zd,D.atKey (.int .i64 x) zd=hdY y)->w'.ranges Tryz.prog 3 hdR B r n D (λz=>left z&& !z.sameKey (.int .i64 x)) cnt'->cnt'<cnt→
   w.grownBy w' (some r)->w'.heap.size=w.heap.size->(Instr.entry (.pointer (some ⟨r,0,none⟩))).run Tryz.prog w'= .ok (.tuple #[.int .i64 x,hdV y]) w'->wpList Tryz.prog ops Q rest (a.put o.dst (.tuple #[.bool true,.int .i64 x,hdV y])) w'):
  wpList Tryz.prog ops Q (o::rest) a w:=
 wpList_next_ranges w hg it hop 3 qER hdR (Value.int .i64) hdV (λkey kl hkey=>by obtain⟨x,rfl,_⟩:=Maps.keyOf_int_inv Tryz.underlying3 hkey;exact⟨x,rfl⟩) (λv y hv=>by obtain⟨c,rfl,_⟩:=qFa hv;exact⟨c,rfl⟩)
  B r n D left cnt hit h hDone (λx c kl y w' cnt' hkey hlk hv hat hrg hlt hgr hsz hen=>by
   obtain⟨x',ex,rfl,hwx⟩:=Maps.keyOf_int_inv Tryz.underlying3 hkey
   cases ex
   rw[qF9]at hv;injection hv with hv;subst hv
   exact hMore x c w' cnt' hwx hlk hat hrg hlt hgr hsz hen)
end
end Go.Proofs.YtabfaobakmjiaaaGreat
namespace Go.Proofs.YtabfaobakmjiaaaGreat
set_option maxRecDepth 100000
set_option maxHeartbeats 1000000
set_option linter.unusedVariables false
def qBN (d:Int) (L:List Spn):List Spn:=L.map λs=>(s.1 - d,s.2 - d)
theorem qE4 (d:Int) (L:List Spn):(qBN d L).length =L.length:=by unfold qBN;simp
theorem qNQ {d:Int} {L:List Spn} (h:∀s∈L,(-1500000000000<=s.1/\s.1<=1500000000000)/\(-1500000000000<=s.2/\s.2<=1500000000000)) (hd: -11000<=d/\d<=11000):SpB (qBN d L):=λs hs=>by
 obtain⟨t,ht,rfl⟩:=List.mem_map.1 hs;have:=h t ht;simp only;omega
theorem qMD {d:Int} {L:List Spn} {k:Nat} (h:k<L.length):qBN d (L.take (k+1))=qBN d (L.take k)++[(L[k].1 - d,L[k].2 - d)]:=by unfold qBN;rw[List.take_succ_eq_append_getElem h,List.map_append];rfl
def qNR (rds:List Rd) (lift:List Int) (throw adv:Int) (len:Nat) (c x:Int):Prop:=∃ph,ph<len/\(qAk rds lift throw c ph).1 - c*adv<=x/\x<=(qAk rds lift throw c ph).2 - c*adv
theorem qO1 {rds:List Rd} {lift:List Int} {throw adv c x:Int} {len:Nat}:inL (qBN (c*adv) (rowS rds lift throw len c)) x↔qNR rds lift throw adv len c x:=by
 unfold inL qBN rowS qNR;constructor
 ·rintro⟨s,f,h⟩;obtain⟨t,g,rfl⟩:=List.mem_map.1 f;obtain⟨d,b,rfl⟩:=List.mem_map.1 g;exact⟨d,List.mem_range.1 b,h⟩
 ·rintro⟨d,b,h⟩;exact⟨_,List.mem_map.2 ⟨_,List.mem_map.2 ⟨d,List.mem_range.2 b,rfl⟩,rfl⟩,h⟩
section
variable {rds:List Rd} {lift:List Int} {throw adv:Int}
structure StaI (rds:List Rd) (lift:List Int) (throw adv:Int) (done:Int->Prop) (l:List Spn):Prop where
 nm:Nm l
 mem:∀x,inL l x↔(0<=x/\x<=10000)/\∀c,done c->qNR rds lift throw adv lift.length c x
theorem StaI.start:StaI rds lift throw adv (λ_=>False) [(0,10000)]:=⟨qEr (by decide),λx=>by
 rw[inL_cons];simp only[qBP,or_false]
 exact⟨λh=>⟨h,λc hc=>hc.elim⟩,λh=>h.1⟩⟩
theorem StaI.step {done:Int->Prop} {l:List Spn} (h:StaI rds lift throw adv done l) (c:Int):StaI rds lift throw adv (λd=>done d∨d=c) (qA5 l (qBj (qBN (c*adv) (rowS rds lift throw lift.length c)))):=by
 obtain⟨j,k⟩:=qF6 (qBN (c*adv) (rowS rds lift throw lift.length c));obtain⟨g,i⟩:=qIh h.nm j;refine⟨g,λx=>?_⟩;rw[i,k,qO1,h.mem];constructor
 ·rintro⟨⟨a,b⟩,d⟩;exact⟨a,λe f=>f.elim (b e) λq=>by rw[q];exact d⟩
 ·rintro⟨a,b⟩;exact⟨⟨a,λe f=>b e (.inl f)⟩,b c (.inr rfl)⟩
theorem StaI.congr {done done':Int->Prop} {l:List Spn} (h:StaI rds lift throw adv done l) (he:∀c,done c↔done' c):StaI rds lift throw adv done' l:=⟨h.nm,λx=>by rw[h.mem];exact and_congr_right λ_=>⟨λq c hc=>q c ((he c).2 hc),λq c hc=>q c ((he c).1 hc)⟩⟩
theorem StaI.fin {done:Int->Prop} {l:List Spn} (h:StaI rds lift throw adv done l) (h0:0<lift.length) (hadv: -1000<=adv/\adv<=1000) (hcut:∀r∈rds,0<=r.cut/\r.cut<=11) (hd:∀c,done c↔∃r∈rds,r.cut=c):l=fitL rds lift throw adv:=
 qQm h.nm h0 hadv hcut λx=>by
  rw[h.mem];exact and_congr_right λ_=>⟨λq r hr=>q r.cut ((hd _).2 ⟨r,hr,rfl⟩),λq c hc=>by obtain⟨r,hr,rfl⟩:=(hd c).1 hc;exact q r hr⟩
theorem StaI.none {done:Int->Prop} (h:StaI rds lift throw adv done []) (h0:0<lift.length) (hadv: -1000<=adv/\adv<=1000) (hcut:∀r∈rds,0<=r.cut/\r.cut<=11) (hd:∀c,done c->∃r∈rds,r.cut=c):fitL rds lift throw adv=[]:=by
 refine qHp (qM2 ..) qEq λx=>⟨λf=>?_,λf=>absurd f (qBP x)⟩;rw[h.mem];obtain⟨a,b⟩:=fitL_in.1 f;refine⟨a,λc j=>?_⟩;obtain⟨r,k,rfl⟩:=hd c j;obtain⟨d,m⟩:=hcut r k;obtain⟨l,i,g⟩:=b r.cut.toNat (by omega);rw[Int.toNat_of_nonneg d]at g;have p:=Int.mul_le_mul_of_nonneg_left hadv.1 d;have q2:=Int.mul_le_mul_of_nonneg_left hadv.2 d;exact⟨l,i,(qFh (by omega)).2 g⟩
end
end Go.Proofs.YtabfaobakmjiaaaGreat
namespace Go.Proofs.YtabfaobakmjiaaaGreat
set_option maxRecDepth 100000
set_option maxHeartbeats 1000000
open Go.RowKit
set_option linter.unusedVariables false
set_option linter.unusedSimpArgs false
theorem qGY {H:Type} {P:Program} {k:TypeId} {R:Value->Option (DataW H×List MemPlace)} {w W:World} {b r n:Nat} {D:DataW H} {left:Lit->Bool} {cnt:Nat} (h:w.ranges P k R b r n D left cnt) (hb:Below w.heap.size w W):W.ranges P k R b r n D left cnt:=by
 obtain⟨l,c,d,f,j,g,m,p,q,i,s⟩:=h;exact⟨l,c,d,f,j,(hb.block _ (gsl g)).trans g,m,p,q,(hb.block _ (gsl i)).trans i,s⟩
theorem qID {H:Type} {P:Program} {k:TypeId} {R:Value->Option (DataW H×List MemPlace)} {w:World} {b r n:Nat} {D:DataW H} {left:Lit->Bool} {cnt:Nat} (h:w.ranges P k R b r n D left cnt):cnt<=n:=by
 obtain⟨g,d,f,c,i,j,l,m,p,q,s,t,v⟩:=h;have:(leftOf g c).size <=g.size:=by unfold leftOf;exact Array.size_filter_le
 omega
def StW (rds:List Rd) (lift:List Int) (throw adv:Int) (W1:World) (B n:Nat) (D:DataW Unit) (lx:Value) (wr:World):Prop:=∃(l:List Spn) (left:Lit->Bool) (cnt:Nat),wr.ranges Tryz.prog 3 hdR B W1.heap.size n D left cnt/\Below W1.heap.size W1 wr/\SpT wr lx l/\l.length+cnt*24<=1+n*24/\StaI rds lift throw adv (λc=>hasC rds c=true/\left (.int .i64 c)=false) l
def StR (d:Int) (row:List Spn) (Wd:World) (k:Nat) (vo:Value) (W:World):Prop:=Below Wd.heap.size Wd W/\W.ownsRow Wd.heap.size 115 2 vo k ((qBN d (row.take k)).flatMap qAD)
theorem qO2 {w:World} {B n:Nat} {D:DataW Unit} {bl:Int->Nat} {Z len:Nat} {cs:Int->Bool} {row:Int->List Spn} (h:Bases w B n D bl Z len cs row) (hl:len<=maxLen) {c:Int} (hc:cs c=true):SpnL w (.slice (some ⟨bl c,0,none⟩) len len) (row c):=by
 have e:=h.len c hc;have b:=(h.blk c hc).2;refine⟨some ⟨bl c,0,none⟩,len,by rw[e],by omega,hl,(λh=>by cases h),λg=>⟨bl c,0,rfl,gsl b,λj f i u d=>?_⟩⟩;have l:i<2:=(List.getElem?_eq_some_iff.1 d).1;have:=qCo (enc:=qAD) (k:=2) (λ_=>rfl) (row c) j f i u d;rw[Nat.zero_add];simp only[World.cell?,b];simpa using this
theorem qNS {L:List Spn} (h:SpB L):SpB (qBj L)/\(qBj L).length <=L.length:=by
 obtain⟨-,b,c⟩:=qLx h [] qEq (λs d=>by cases d);exact⟨b,by show(L.foldl qBW []).length <=_;simpa using c⟩
theorem qPi {rds:List Rd} {lift:List Int} {throw adv:Int} {done:Int->Prop} {l:List Spn} (h:StaI rds lift throw adv done l):SpB l:=SpB.of_in h.nm λx hx=>by
 have:=((h.mem x).1 hx).1;omega
theorem qKt (hun:∀(v:Value) (L:List Spn) (W:World),SpnL W v L->0<L.length->L.length<=10000->SpB L->Calls Tryz.prog 154 #[v] W λe w'=>∃v',e= .returned v'/\Below W.heap.size W w'/\SpnL w' v' (qBj L))
  (head throw adv:Int) (B n:Nat) (D:DataW Unit) (bl:Int->Nat) (Z:Nat) (rds:List Rd) (lift:List Int) (w:World) (hB:Bases w B n D bl Z lift.length (hasC rds) (rowS rds lift throw lift.length)) (hn:n<=60) (hlo:qAY lift=true) (hr:∀r∈rds,RdOk lift.length r) (ht:0<=throw/\throw<=16) (ha: -1000<=adv/\adv<=1000) (h24:lift.length<=24) (h0:0<lift.length):
  Calls Tryz.prog 98 #[.agg #[.int .i64 head,.int .i64 throw,.map (some B)],.int .i64 adv] w λe w'=>∃v',e= .returned v'/\Below w.heap.size w w'/\SpT w' v' (fitL rds lift throw adv):=by
 obtain⟨W0,cT,aK,k0⟩:=newb w (.cells #[.int .i64 head,.int .i64 throw,.map (some B)] 108);obtain⟨t,cU,ap,k1⟩:=newb W0 (.cells #[.int .i64 0,.int .i64 10000] 115);have X:=qAA aK ap;have bh:=hB.le X;obtain⟨c0,c1,c2⟩:=pc3 (blk ap k0);have hcut:∀r∈rds,0<=r.cut/\r.cut<=11:=λr h=>(hr r h).1
 have ak:SpT t (.slice (some ⟨W0.heap.size,0,none⟩) 1 1) [(0,10000)]:=⟨⟨some ⟨W0.heap.size,0,none⟩,1,rfl,Nat.le_refl _,by unfold maxLen;omega,λh=>(by cases h),λ_=>⟨W0.heap.size,0,rfl,gsl k1,λj hj i u hu=>by
  obtain rfl:j=0:=by simpa using hj
  obtain⟨x0,x1⟩:=pc2 k1;have hi:i<2:=(List.getElem?_eq_some_iff.1 hu).1
  match i,hi with
  | 0,_=>show t.cell? ⟨W0.heap.size,0,none⟩=some u;rw[x0];simpa[qAD]using hu
  | 1,_=>show t.cell? ⟨W0.heap.size,1,none⟩=some u;rw[x1];simpa[qAD]using hu⟩⟩,λa n c e=>by
  injection e with e;injection e with e;subst e
  exact⟨_,k1⟩⟩
 have⟨bA,cS,bu,b2,cu,cv,dl,dm⟩:=hyd8 hun hB hlo hr aK ap k0 k1;have⟨E,m,Y,aA⟩:=hyd4 X bh hcut ak;clear ak hcut bh X k1 k0 ap aK hr hlo hB hun;go_enter Tryz.func98,Tryz.ntmps98;go_wp2_with (first | (at_range;refine wpList_range_own _ rfl _ 106 rfl 3 110 qER Tryz.underlying106 hdR B n D rfl m.out.own ?_;intro w5 ah aO bX)|fail)
 go_frame
 have ar:Below t.heap.size t w5:=Below.grown (Below.refl _ _) aO (Nat.le_refl _) (λk e=>by cases e);have aV:=aA.out.le ar;have P:StW rds lift throw adv t B n D (.slice (some ⟨W0.heap.size,0,none⟩) 1 1) w5:=⟨[(0,10000)],_,_,ah,ar,aV,by have:=qID ah;simp;omega,StaI.start.congr λc=>⟨λh=>h.elim,λ⟨h1,h2⟩=>(by rw[m.out.has c (m.out.wf c h1),h1]at h2;cases h2)⟩⟩;clear ah bX c0 c1 c2;have⟨c3,cx,c6,R⟩:=hyd4 aO ar aV P;clear P aV ar aO;go_loopw [5] (λlx wr=>Hid (StW rds lift throw adv t B n D lx wr)) (λ_ wr=>wr.rangeLeft B t.heap.size)
 case atStart=>exact R
 case round=>
  obtain⟨l,left,cQ,G,C,I,dc,O⟩:=hrel.out;have aw:=qPi O;obtain⟨LA,lc,rfl,-⟩:=id I.1.slice;have bB:=qAA E.out C;go_wp2_with (first | (at_next;refine qGJ rfl _ rfl rfl G ?_ ?_)|fail)
  ·intro cY F;have aa:l=fitL rds lift throw adv:=O.fin h0 ha Y.out λc=>⟨λh=>hasC_iff.1 h.1,λh=>⟨hasC_iff.2 h,F _⟩⟩;have aB:SpT wr (.slice LA l.length lc) (fitL rds lift throw adv):=by rw[<-aa];exact I
   have⟨aR,ag,bp,b8,a6,aE,bR,aW⟩:=hyd8 hrel G C I aw O aa aB;have⟨bC,bs⟩:=hyd2 bB F;clear F bB aB aa O aw I C G hrel;go_wp2;go_ret;exact⟨_,rfl,bC.out,aW.out⟩
  ·intro x y w6 cp cb de ao ai bq av ak bP
   have ab:hasC rds x=true:=by
    rw[<-m.out.has x cb];exact Maps.has_true_of_atKey ao
   obtain⟨q1,q2⟩:=qM5 b2.out ab
   have hy:y=some (bl x,lift.length,lift.length):=by
    have:=ao .nil;rw[m.out.get x ab]at this;exact qGo this.symm
   subst hy;dsimp only[hdV]at bP ⊢;have J:Below t.heap.size t w6:=Below.grown C av C.size (λk e=>by injection e with e;omega);have ae:w6.rangeLeft B t.heap.size<wr.rangeLeft B t.heap.size:=by rw[ai.left_eq,G.left_eq];exact bq
   have aG:=qAA E.out J;have aj:=qO2 (m.out.le J) (by unfold maxLen;omega) ab;have aC:=I.turn av (by obtain⟨o,ho,hw⟩:=G.iter_walk;exact⟨o,ho,Obj.not_cells_of_walk hw⟩);have m1:=qHx q1 q2 (b:=adv) (B:=1000) (by omega) (by omega) (by decide);have b4:(rowS rds lift throw lift.length x).length =lift.length:=qF0 ..;obtain⟨f,ay⟩:∃r,rowS rds lift throw lift.length x=r:=⟨_,rfl⟩;rw[ay]at aj b4
   have b3:∀s∈f,(-1500000000000<=s.1/\s.1<=1500000000000)/\(-1500000000000<=s.2/\s.2<=1500000000000):=λs hs=>by
    rw[<-ay]at hs;obtain⟨ph,-,rfl⟩:=List.mem_map.1 hs;have:=qJZ (c:=x) (ph:=ph) bu.out ht b2.out;omega
   have P:StR (x*adv) f w6 0 (.slice none 0 0) w6:=⟨Below.refl _ _,World.ownsRow_nil _ _ _ _⟩;have⟨aR,ag,bp,b8,a6,aE,ct,aS⟩:=hyd8 hrel G C I aw O ao ai;have⟨c4,aA,a5,S,bH,ca,aU,aX⟩:=hyd8 av ak ab J ae aG aj aC;have⟨b6,a8,R⟩:=hyd3 ay b3 P;clear P b3 ay aC aj aG ae J ab ak av ai ao O aw I C G hrel;go_wp2_with (fail);go_loopw [23,8] (λkx vo wv=>∃k:Nat,k<=lift.length/\kx= .int .i64 (k:Int)/\Hid (StR (x*adv) f w6 k vo wv)) (λkx _ _=>lift.length - (intOf kx).toNat)
   case atStart=>exact⟨0,Nat.zero_le _,rfl,R⟩
   case round=>
    rename World=>wv
    obtain⟨k,hk,rfl,hI⟩:=hrel;obtain⟨z,ho⟩:=hI.out;obtain⟨AO,cO,rfl⟩:=qAH ho
    by_cases dd:k<lift.length
    ·obtain⟨b1,o1,x1,bQ,cz,g0,g1⟩:=SpnL.cells (aU.out.le z) (j:=k) (by omega);injection bQ with e1 e2 e3;injection e1 with e1;injection e1 with e1 e4;subst e1 e4;clear e2 e3;rw[Nat.zero_add]at g0 g1;have a2:=qMD (d:=x*adv) (L:=f) (k:=k) (by omega);have bk:=a8.out _ (List.getElem_mem (l:=f) (n:=k) (by omega));obtain⟨⟨a,b⟩,hs⟩:∃s,f[k]'(by omega)=s:=⟨_,rfl⟩;rw[hs]at g0 g1 a2 bk;dsimp only at g0 g1 a2 bk;obtain⟨W4,cV,aq,k4⟩:=newb wv (.cells #[.int .i64 a,.int .i64 b] 115);obtain⟨d0,d1⟩:=pc2 k4;have aQ:=qAK ho aq;have U:=qAA z aq;have j1:(k:Int)<(lift.length:Int):=by omega
     have j2:(0:Int)<=(k:Int):=by omega
     obtain⟨Wa,cW,au,ka⟩:=newb W4 (.cells #[.int .i64 (a - x*adv),.int .i64 (b - x*adv)] 115);obtain⟨ch,ci⟩:=pc2 ka;have bz:=qAK aQ au;have V:=qAA U au;have cc:=V.size;have bt:(qBN (x*adv) (f.take k)).length =k:=by rw[qE4,List.length_take];omega
     have a7:(qBN (x*adv) (f.take (k+1))).length =k+1:=by rw[qE4,List.length_take];omega
     have⟨bN,bo,bV,df,b9,cw,dn,c5⟩:=hyd8 hI z ho hs a2 aq k4 aQ;have⟨bO,cy,dp,b0,aN,ad,bS⟩:=hyd7 U au ka bz V bt a7;clear a7 bt V bz ka au U aQ k4 aq a2 hs ho z hI;go_wp2_with (first | (at_builtin;go_must (refine qEL _ rfl _ _ 110 rfl w6.heap.size 115 Tryz.underlying110 qES (.slice AO k cO) (qBN (x*adv) (f.take k)) rfl (by rw[ad.out];exact b0.out) W4.heap.size (a - x*adv,b - x*adv) rfl ch ci (by rw[ad.out];omega) cc ?_)));intro v7 w7 r1 r2 r3;have a3:w7.ownsRow w6.heap.size 115 2 v7 (k+1) ((qBN (x*adv) (f.take (k+1))).flatMap qAD):=by rw[ad.out]at r1;rw[b9.out,List.flatMap_append,List.flatMap_singleton];exact r1
     obtain⟨A7,c7,rfl⟩:=qAH a3;have hN:StR (x*adv) f w6 (k+1) (.slice A7 (k+1) c7) w7:=⟨aN.out.trans (r2 _ (Nat.le_refl _)),a3⟩;have⟨dt,cC,du,dv,aI⟩:=hyd5 r1 a3 r2 r3 hN;clear hN r3 r2 a3 r1;go_wp2;go_roundw
     case rel=>exact⟨k+1,by omega,by go_num,aI⟩
     case measure=>simp[intOf];omega
    ·obtain rfl:k=lift.length:=by omega
     have b5:(qBN (x*adv) f).length =lift.length:=by rw[qE4,b4]
     rw[List.take_of_length_le (by omega)]at ho;have aZ:SpnL wv (.slice AO lift.length cO) (qBN (x*adv) f):=SV.of_own (base:=w6.heap.size) (e:=115) (enc:=qAD) (λ_=>rfl) (by rw[b5];exact ho);have a0:SpB (qBN (x*adv) f):=qNQ a8.out (by omega);obtain⟨aP,bU⟩:=qNS a0;have bd:=bA.out _ _ wv aZ (by omega) (by omega) a0;have a9:=qGY aS.out z;have aD:=aX.out.le z;have A:=aE.out.step x;have aF:Below t.heap.size t wv:=S.out.trans (z.mono S.out.size);rw[b6.out]at A;obtain⟨NL,aJ⟩:∃n,qBj (qBN (x*adv) f)=n:=⟨_,rfl⟩;rw[aJ]at aP bU bd A;have bT:=qCq l NL;have cZ:=qID ag.out;have⟨bN,bo,bV,cB,cA,bx,bG,aT⟩:=hyd8 hI z ho aZ a0 aP bd a9;have⟨aY,a1,bc,cs⟩:=hyd4 aD A aF aJ;clear aJ aF A aD a9 bd aP a0 aZ ho z hI;go_wp2_with (fail);go_at_call 154;refine bG.out.mono ?_;rintro e W7 ⟨v7,rfl,aL,az⟩;obtain⟨A7,c7,rfl,-⟩:=id az.slice;have al:=aY.out.le aL;have bE:=qNN _ _ l NL W7 al.1 az a6.out bx.out (by omega) (by omega);have⟨bm,c9,bY,bF⟩:=hyd4 aL az al bE;clear bE al az aL;go_wp2_with (fail);go_at_call 153;refine bF.out.mono ?_;rintro e W8 ⟨v8,rfl,T,H⟩;obtain⟨A8,c8,rfl,-⟩:=id H.1.slice;obtain⟨l',ac⟩:∃l',qA5 l NL=l':=⟨_,rfl⟩;have g:=a1.out;rw[ac]at g H bT ⊢;have p:=qAA bm.out T;have q:Below t.heap.size t W8:=qAA bc.out p
     have N:=qAA E.out q
     by_cases hz:l'.length=0
     ·have F:l'=[]:=List.eq_nil_of_length_eq_zero hz;rw[F]at g;have af:=g.none h0 ha Y.out (λc hc=>hasC_iff.1 (hc.elim (λh=>h.1) (λh=>by rw[h];exact a5.out)));have⟨b7,br,ba,bn,aM,bb,am,bs⟩:=hyd8 H ac g T p q N F;have ax:=hyd1 af;clear af F N q p T g ac H;go_wp2;go_ret;exact⟨_,rfl,am.out,by rw[ax.out];exact SpT.nil _⟩
     ·have dk:¬(l'.length:Int)=0:=by omega
      have M:=qGY aT.out p;have bv:W8.rangeLeft B t.heap.size<wr.rangeLeft B t.heap.size:=by rw[M.left_eq,ag.out.left_eq];exact bq
      have hN:StW rds lift throw adv t B n D (.slice A8 l'.length c8) W8:=⟨l',_,_,M,q,H,by omega,g.congr λc=>by
       by_cases e:c=x
       ·subst e;refine⟨λ_=>⟨a5.out,by simp[Lit.sameKey]⟩,λ_=> .inr rfl⟩
       ·have h9:(Lit.int .i64 c).sameKey (.int .i64 x)=false:=by simp[Lit.sameKey,e]
        simp[h9,e]⟩
      have⟨b7,br,ba,bn,aM,bb,am,bW⟩:=hyd8 H ac g T p q N M;have⟨bw,aI⟩:=hyd2 bv hN;clear hN bv M N q p T g ac H;go_wp2;go_roundw
      case rel=>exact aI
      case measure=>exact bw.out
end Go.Proofs.YtabfaobakmjiaaaGreat

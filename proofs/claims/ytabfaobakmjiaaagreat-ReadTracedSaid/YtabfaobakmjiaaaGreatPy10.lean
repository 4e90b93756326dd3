/- The reference's Steps and Check: whether a picture is valid. The reference's starts: the Starts with which a phase fits a cut. A valid picture, or one whose .. -/
import Derived.Test.YtabfaobakmjiaaaGreatPy09
import Derived.Test.YtabfaobakmjiaaaGreatPy07
import Derived.StillTail
import Derived.StillTailTactics
import Derived.Deep.RegionLaw
import Derived.Laws.MakeOwn
namespace Go.Proofs.YtabfaobakmjiaaaGreat
set_option maxRecDepth 100000
open Go.RowKit
set_option linter.unusedVariables false
set_option linter.unusedSimpArgs false
def RdOk (n:Nat) (r:Rd):Prop:=(0<=r.cut/\r.cut<=11)/\(0<=r.step/\r.step<=(n:Int) - 1)/\ -300000<=r.lo/\r.lo<=r.hi/\r.hi<=300000
theorem qM4 {lift:List Int} (h:qAY lift=true) (r:Rd) (ph:Nat):0<=hAt lift r ph/\hAt lift r ph<=10000:=by
 obtain⟨f,g,d⟩:=rosOk_iff.1 h;unfold hAt atR
 have c:((r.step - (ph:Int))%(lift.length:Int)).toNat <lift.length:=by
  have a:=Int.emod_nonneg (r.step - (ph:Int)) (show(lift.length:Int)≠0 by omega);have b:=Int.emod_lt_of_pos (r.step - (ph:Int)) (show(0:Int)<lift.length by omega);omega
 rw[List.getD_eq_getElem?_getD,List.getElem?_eq_getElem c];exact d _ c
theorem qHx {a b A B:Int} (h0:0<=a) (h1:a<=A) (h2: -B<=b) (h3:b<=B) (hB:0<=B): -(A*B)<=a*b/\a*b<=A*B:=by
 have x:=Int.mul_le_mul_of_nonneg_left h3 h0;have y:=Int.mul_le_mul_of_nonneg_left h2 h0;have z:=Int.mul_le_mul_of_nonneg_right h1 hB;rw[Int.mul_neg]at y;omega
theorem qSB (a b:Int):(if a<b then b else a)=max a b:=by omega
theorem qSC (a b:Int):(if b<a then b else a)=min a b:=by omega
structure PicM (p:Pic):Prop where
 heads:1<=p.hs.length/\p.hs.length<=4
 reads:p.rds.length<=60
 head:∀h∈p.hs,h.ros.length=p.steps/\qAY h.ros=true/\qAo h.rub p.steps=true
 tl:1<=p.tl
 tle:p.tl<=p.th
 th:p.th<=16
 al: -1000<=p.al
 ale:p.al<=p.ah
 ah:p.ah<=1000
 span:p.ah - p.al<=40
 rd:∀r∈p.rds,RdOk p.steps r
theorem PicOk.toM {p:Pic} (h:PicOk p):PicM p:=⟨h.heads,h.reads.2,h.head,h.tl,h.tle,h.th,h.al,h.ale,h.ah,h.span,h.rd⟩
theorem PicM.sub {p:Pic} (h:PicM p) {l:List Int} (hl:∀i∈l,0<=i/\i<(p.rds.length:Int)) (h60:l.length<=60):PicM (p.with (subR p.rds l)):=
 ⟨h.heads,by show(subR p.rds l).length <=60;unfold subR;rw[List.length_map];exact h60,h.head,h.tl,h.tle,h.th,h.al,h.ale,h.ah,h.span,λr hr=>h.rd r (qP6 hl r hr)⟩
theorem PicM.steps {p:Pic} (h:PicM p):3<=p.steps/\p.steps<=96:=by
 obtain⟨f,g⟩:=h.heads;have b:0<p.hs.length:=by omega
 have d:p.hs.getD 0 default∈p.hs:=by
  rw[List.getD_eq_getElem?_getD,List.getElem?_eq_getElem b];exact List.getElem_mem b
 have c:=rosOk_iff.1 (h.head _ d).2.1;exact⟨c.1,c.2.1⟩
def hasC (rds:List Rd) (c:Int):Bool:=rds.any λr=>decide (r.cut=c)
def rowS (rds:List Rd) (lift:List Int) (throw:Int) (n:Nat) (c:Int):List Spn:=(List.range n).map λph=>qAk rds lift throw c ph
def rowK (rds:List Rd) (lift:List Int) (throw:Int) (n:Nat) (c:Int) (r:Rd) (k:Nat):List Spn:=(List.range n).map λph=>if ph<k then qAk (rds++[r]) lift throw c ph else qAk rds lift throw c ph
theorem qF0 (rds:List Rd) (lift:List Int) (throw:Int) (n:Nat) (c:Int):(rowS rds lift throw n c).length =n:=by simp[rowS]
theorem qCd (rds:List Rd) (lift:List Int) (throw:Int) (n:Nat) (c:Int) (r:Rd) (k:Nat):(rowK rds lift throw n c r k).length =n:=by simp[rowK]
theorem qJY (rds:List Rd) (lift:List Int) (throw:Int) (n:Nat) (c:Int) (r:Rd):rowK rds lift throw n c r 0=rowS rds lift throw n c:=by
 unfold rowK rowS;exact List.map_congr_left λb _=>by rw[if_neg (Nat.not_lt_zero _)]
theorem qPb (rds:List Rd) (lift:List Int) (throw:Int) (n:Nat) (c:Int) (r:Rd):rowK rds lift throw n c r n=rowS (rds++[r]) lift throw n c:=by
 unfold rowK rowS;exact List.map_congr_left λb h=>by rw[if_pos (List.mem_range.1 h)]
theorem qKc {rds:List Rd} {lift:List Int} {throw:Int} {n:Nat} {c:Int} {r:Rd} {k:Nat} (h:k<(rowK rds lift throw n c r k).length):(rowK rds lift throw n c r k)[k]=qAk rds lift throw c k:=by
 simp[rowK]
theorem qPc {rds:List Rd} {lift:List Int} {throw:Int} {n:Nat} {c:Int} {r:Rd} {k:Nat}:(rowK rds lift throw n c r k).set k (qAk (rds++[r]) lift throw c k)=rowK rds lift throw n c r (k+1):=by
 apply List.ext_getElem
 ·rw[List.length_set,qCd,qCd]
 ·intro i b d;rw[List.getElem_set]
  by_cases e:k=i
  ·subst e;simp[rowK]
  ·rw[if_neg e];simp only[rowK,List.getElem_map,List.getElem_range]
   by_cases q:i<k
   ·rw[if_pos q,if_pos (by omega)]
   ·rw[if_neg q,if_neg (by omega)]
theorem qHy (rds:List Rd) (lift:List Int) (throw c:Int) (ph:Nat) (r:Rd):qAk (rds++[r]) lift throw c ph=if r.cut=c then(max (qAk rds lift throw c ph).1 (r.lo - throw*hAt lift r ph),min (qAk rds lift throw c ph).2 (r.hi - throw*hAt lift r ph))else qAk rds lift throw c ph:=by
 unfold qAk;rw[List.foldl_append];rfl
theorem qND {lift:List Int} {throw c:Int} {ph:Nat}:∀{rds:List Rd},hasC rds c=false->qAk rds lift throw c ph=(-1099511627776,1099511627776):=by
 intro rds h;unfold qAk hasC at*
 induction rds with
 | nil=>rfl
 | cons r rds ih=>
  simp only[List.any_cons,Bool.or_eq_false_iff,decide_eq_false_iff_not]at h;rw[List.foldl_cons,if_neg h.1];exact ih h.2
theorem qON {lift:List Int} {throw c:Int} {n:Nat} {rds:List Rd} (h:hasC rds c=false):rowS rds lift throw n c=List.replicate n (-1099511627776,1099511627776):=by
 unfold rowS;rw[List.map_congr_left λb _=>qND h];apply List.ext_getElem<;>simp
theorem qOO (rds:List Rd) (r:Rd) (c:Int):hasC (rds++[r]) c=(hasC rds c||decide (r.cut=c)):=by unfold hasC;simp
theorem qNE {rds:List Rd} {lift:List Int} {throw c:Int} {n:Nat} {r:Rd} (h:r.cut≠c):rowS (rds++[r]) lift throw n c=rowS rds lift throw n c:=by
 unfold rowS;exact List.map_congr_left λb _=>by rw[qHy,if_neg h]
theorem qHJ {n:Nat} {lift:List Int} {throw c:Int} {ph:Nat} (hl:qAY lift=true) (ht:0<=throw/\throw<=16):∀(rds:List Rd),(∀r∈rds,RdOk n r)->∀o:Spn,-1099511627776<=o.1->o.1<=1000000-> -1000000<=o.2->o.2<=1099511627776→
  -1099511627776<=(rds.foldl (λo r=>if r.cut=c then(max o.1 (r.lo - throw*hAt lift r ph),min o.2 (r.hi - throw*hAt lift r ph))else o) o).1/\(rds.foldl (λo r=>if r.cut=c then(max o.1 (r.lo - throw*hAt lift r ph),min o.2 (r.hi - throw*hAt lift r ph))else o) o).1<=1000000∧
  -1000000<=(rds.foldl (λo r=>if r.cut=c then(max o.1 (r.lo - throw*hAt lift r ph),min o.2 (r.hi - throw*hAt lift r ph))else o) o).2/\(rds.foldl (λo r=>if r.cut=c then(max o.1 (r.lo - throw*hAt lift r ph),min o.2 (r.hi - throw*hAt lift r ph))else o) o).2<=1099511627776
 | [],_,o,h0,h1,h2,h3=>⟨h0,h1,h2,h3⟩
 | r::rds,hr,o,h0,h1,h2,h3=>by
  have hro:=hr r List.mem_cons_self;have hh:=qM4 hl r ph;have m2:=qHx ht.1 ht.2 (b:=hAt lift r ph) (B:=10000) (by omega) (by omega) (by decide);have m3:=Int.mul_nonneg ht.1 hh.1;unfold RdOk at hro;simp only[List.foldl_cons];apply qHJ hl ht rds (λq hq=>hr q (List.mem_cons_of_mem _ hq))
  all_goals
   split
   ·simp only;omega
   ·assumption
theorem qJZ {n:Nat} {rds:List Rd} {lift:List Int} {throw c:Int} {ph:Nat} (hl:qAY lift=true) (ht:0<=throw/\throw<=16) (hr:∀r∈rds,RdOk n r): -1099511627776<=(qAk rds lift throw c ph).1/\(qAk rds lift throw c ph).1<=1000000/\ -1000000<=(qAk rds lift throw c ph).2/\(qAk rds lift throw c ph).2<=1099511627776:=
 qHJ hl ht rds hr (-1099511627776,1099511627776) (by decide) (by decide) (by decide) (by decide)
theorem Bases.congr {w:World} {B n:Nat} {D:DataW Unit} {bl:Int->Nat} {Z len:Nat} {cs cs':Int->Bool} {row row':Int->List Spn} (h:Bases w B n D bl Z len cs row) (h1:∀c,cs c=cs' c) (h2:∀c,cs c=true->row c=row' c):Bases w B n D bl Z len cs' row':=by
 obtain rfl:cs=cs':=funext h1;exact⟨h.own,h.has,h.wf,h.get,λc b=>by rw[<-h2 c b];exact h.blk c b,λc b=>by rw[<-h2 c b];exact h.len c b,h.apart⟩
theorem qJw {w:World} {B:Nat} (h:w.heap[B]? =some (.map #[] 0)):w.ownsMap Tryz.prog 3 hdR B 0 (.map []):=by
 obtain⟨f,d,b,c⟩:=World.ownsMap_made w Tryz.prog 3 hdR;have e:(w.alloc (.map #[] 0)).heap[w.heap.size]? =some (.map #[] 0):=qCN _ _;rw[e]at b;injection b with b;injection b with h3 h4;subst h3 h4;exact⟨_,_,h,c⟩
theorem Bases.start {w:World} {B Z len:Nat} {row:Int->List Spn} (h:w.heap[B]? =some (.map #[] 0)):Bases w B 0 (.map []) (λ_=>0) Z len (λ_=>false) row:=
 ⟨qJw h,λ_ _=>rfl,λ_ hc=>(by cases hc),λ_ hc=>(by cases hc),λ_ hc=>(by cases hc),λ_ hc=>(by cases hc),λ_ _ hc=>(by cases hc)⟩
theorem qGp {w:World} {b X:Nat} {cs cs':Array Value} {t:TypeId} (h:w.heap[b]? =some (.cells cs 115)) (h':w.heap[X]? =some (.cells cs' t)) (ht:115≠t):b≠X:=by
 rintro rfl;rw[h]at h';injection h' with h';injection h' with _ h2;exact ht h2
theorem Bases.other {w W:World} {B n:Nat} {D:DataW Unit} {bl:Int->Nat} {Z len:Nat} {cs:Int->Bool} {row:Int->List Spn} (h:Bases w B n D bl Z len cs row) {X:Nat} {vs:Array Value} {t:TypeId} (hX:w.heap[X]? =some (.cells vs t)) (ht:115≠t) (hk:∀k,k≠X->W.heap[k]? =w.heap[k]?):Bases W B n D bl Z len cs row:=by
 refine⟨?_,h.has,h.wf,h.get,λc b=>⟨(h.blk c b).1,(hk _ (qGp (h.blk c b).2 hX ht)).trans (h.blk c b).2⟩,h.len,h.apart⟩;obtain⟨f,d,g,i⟩:=h.own;exact⟨f,d,(hk B (qCp h.own hX).symm).trans g,i⟩
theorem qNF (W:World) (X i j:Nat) (u v:Value) (k:Nat) (hk:k≠X):((W.setCell ⟨X,i,none⟩ u).setCell ⟨X,j,none⟩ v).heap[k]? =W.heap[k]? :=(Below.heap_setCell _ ⟨X,j,none⟩ _ k hk).trans (Below.heap_setCell _ ⟨X,i,none⟩ _ k hk)
theorem qSD {n:Nat} {w W:World} {X i j:Nat} (h:Below n w W) (hX:n<=X) (u v:Value):Below n w ((W.setCell ⟨X,i,none⟩ u).setCell ⟨X,j,none⟩ v):=(Below.setCell h (p:=⟨X,i,none⟩) hX _).setCell (p:=⟨X,j,none⟩) hX _
theorem qSE {W:World} {X:Nat} {a b c:Value} {t:TypeId} (h:W.heap[X]? =some (Obj.cells #[a,b,c] t)) (u0 u1 u2:Value):(((W.setCell ⟨X,0,none⟩ u0).setCell ⟨X,1,none⟩ u1).setCell ⟨X,2,none⟩ u2).heap[X]? =some (.cells #[u0,u1,u2] t):=by
 simp only[World.setCell,Array.getElem?_modify,h];simp
theorem qRa {n:Nat} {w W:World} {X:Nat} (h:Below n w W) (hX:n<=X) (u0 u1 u2:Value):Below n w (((W.setCell ⟨X,0,none⟩ u0).setCell ⟨X,1,none⟩ u1).setCell ⟨X,2,none⟩ u2):=
 (((Below.setCell h (p:=⟨X,0,none⟩) hX _).setCell (p:=⟨X,1,none⟩) hX _).setCell (p:=⟨X,2,none⟩) hX _)
theorem qRb (W:World) (X:Nat) (u0 u1 u2:Value) (k:Nat) (hk:k≠X):(((W.setCell ⟨X,0,none⟩ u0).setCell ⟨X,1,none⟩ u1).setCell ⟨X,2,none⟩ u2).heap[k]? =W.heap[k]? :=(Below.heap_setCell _ ⟨X,2,none⟩ _ k hk).trans ((Below.heap_setCell _ ⟨X,1,none⟩ _ k hk).trans (Below.heap_setCell _ ⟨X,0,none⟩ _ k hk))
open Go.RowKit Go.Shelf
section
variable {P:Program} {ops:Array Oper} {C:World->Prop} {md:Region.Mode} {n m:Nat} {F:Fence}

end
theorem qLu {P:Program} {f:FuncId} {args:Array Value} {W:World} {n:Nat} {v:Value} (h:Calls P f args (W.drewN n) λe w'=>e= .returned v/\W.drewN n=w'):
  Calls P f args (W.drewN n) λe w''=>e= .returned v/\∃m,w''=W.drewN m:=h.mono λ_ _ ⟨he,hw⟩=>⟨he,n,hw.symm⟩
theorem qAL (F:(Nat->Value)->Array Value) (t:Array Value) (h:t=F (λi=>t.getD i undef)):∃u,t=F u:=⟨_,h⟩
def qAm (n:Nat):Code->List Code
 | .region m o d=>if m=n then[.region m o d]else[]
 | .seq a b=>match a with
  | .region m _ _=>if m=n then[.seq a b]else qAm n b
  | _=>qAm n a++qAm n b
 | .block _ c=>qAm n c
 | .scope c=>qAm n c
 | .loop c=>qAm n c
 | .cond _ a b=>qAm n a++qAm n b
 | _=>[]
end Go.Proofs.YtabfaobakmjiaaaGreat
namespace Go.Proofs.YtabfaobakmjiaaaGreat
set_option maxRecDepth 100000
set_option maxHeartbeats 4000000
open Go.RowKit
set_option linter.unusedVariables false
set_option linter.unusedSimpArgs false

structure Prog where
 ros:List Int
 rub:List Int
 start:Int
 throw:Int
 adv:Int
 shifts:List Int
theorem Arr.look {α:Type} {f:α->Value} {w:World} {A:Option Addr} {n c:Nat} {xs:List α} (h:Arr f w (.slice A n c) xs) {k:Nat} (hk:k<xs.length):
  ∃b off,A=some ⟨b,off,none⟩/\b<w.heap.size/\w.cell? ⟨b,off+k,none⟩=some (f xs[k]):=by
 obtain⟨o,p,l,_,_,_,j⟩:=h;injection l with h1 h2 h3;subst h1;obtain⟨b,off,d,g,i⟩:=j (by omega);exact⟨b,off,d,g,i k hk⟩
open Go.RowKit Go.Shelf
theorem qJ0 {W W':World} {row:Option Nat} {base e n size:Nat} {v:Value} {xs:List Value} (h:W.ownsRow base e size v n xs) (hg:W.grownBy W' row) (hr:∀r,row=some r->∃o:Obj,W.heap[r]? =some o/\o.isCells=false):W'.ownsRow base e size v n xs:=
 qFI h λk o hk hc=>(hg.block k (gsl hk) (λe=>by
  obtain⟨o',ho',hc'⟩:=hr k e.symm;rw[hk]at ho'
  cases ho'
  rw[hc]at hc'
  cases hc')).trans hk
set_option maxHeartbeats 1000000
theorem qQo (n:Nat) (hn:n<=1000000) (w:World):Calls Tryz.prog 150 #[.int .u64 1,.int .u64 (n:Int)] w λe w'=>e= .returned (.tuple #[.int .u64 0,.int .u64 (n:Int)])/\w=w':=by
 have c:=λW=>qP8 n hn W;have b:=hyd1 c;clear c;go_enter Tryz.func150,Tryz.ntmps150;go_wp2_with (first | (go_at_call 189;((with_reducible refine(b.out _).mono ?_);rintro e w' ⟨rfl,rfl⟩)));go_ret2;exact⟨rfl,rfl⟩
theorem qGV {P:Program} (w:World) {ops:Array Oper} {rest:List Oper} {o:Oper} {a:Act} {Q:Exit->Act->World->Prop} (hg:o.guard=none) (l c:Operand) (t:TypeId) (hop:o.op=Op.makeSlice t l c) (e:TypeId) (z:Value) (sz bytes:Nat)
  (ht:P.underlying t=some (.slice e)) (hi:(P.info? e).map (λi=>(i.zero,i.size,i.bytes))=some (some z,sz,bytes)) (hb5:bytes<=1000) (n:Nat) (hl:a.eval l= .int .i64 (n:Int)) (hc:a.eval c= .int .i64 (n:Int)) (hn:n<=1000000)
  (hK:∀w',Hid (w'.heap[w.heap.size]? =some (.cells (madeCells z.cells (n*sz)) e))->Below w.heap.size w w'->wpList P ops Q rest (a.put o.dst (.slice (some ⟨w.heap.size,0,none⟩) n n)) w'):wpList P ops Q (o::rest) a w:=by
 obtain⟨i,g,k,j,q⟩:=info_parts hi;refine wpList_plain hg λp d=>?_
 have f:(i.bytes:Int)*(n:Int)<=281474976710656:=by
  have:i.bytes*n<=1000*1000000:=Nat.mul_le_mul (by omega) hn;have h:((i.bytes*n:Nat):Int)<=281474976710656:=by omega
  rwa[Int.natCast_mul]at h
 have b:=run_make (P:=P) w t e i z ht g k .i64 .i64 (n:Int) (n:Int) (by omega) (Int.le_refl _) f (by omega);rw[Int.toNat_natCast,j]at b;unfold Oper.wp;simp[execOp,hop,hl,hc,b,Result.andThen];exact d _ _ (hK _ (qCN _ _) (alc1 _ _))
theorem qNG {P:Program} {ops:Array Oper} {o:Oper} {a:Act} {w:World} {K:Act->World->Prop} {Q:Exit->Act->World->Prop} {E:Prop} (hgd:o.guard=none) (d s:Operand) (dT sT:TypeId)
  (ho:o.op= .call {callee:= .builtin .copy,args:=#[d,s],argTypes:=#[dT,sT]}) (elem:TypeId) (hu:P.underlying dT=some (.slice elem)) (sz:Nat) (hsz:(P.info? elem).map (·.size)=some sz)
  (g off dLen dCap:Nat) (ad:Addr) (sLen sCap:Nat) (hd:a.eval d= .slice (some ⟨g,off,none⟩) dLen dCap) (hs:a.eval s= .slice (some ad) sLen sCap)
  (cur:List Value) (t:TypeId) (hg:w.heap[g]? =some (.cells cur.toArray t (0,0))) (n:Nat) (hmin:Nat.min sLen dLen=n) (cs:List Value) (hn:cs.length=n*sz)
  (hsrc:∀j v,cs[j]? =some v->w.cell? (ad.add j)=some v) (hfit:off+cs.length<=cur.length) (h1:∀v∈cs,v.oneCell'=true)
  (h:∀w',Hid (w'.heap[g]? =some (.cells (splice cur off cs).toArray t (0,0)))->Below g w w'->K (a.put o.dst (.int .i64 (n:Int))) w'):
  if Region.wanted o (yielded ops a.tmps)=true then Oper.wp P o a w K Q else E:=by
 have c:Region.wanted o (yielded ops a.tmps)=true:=by simp[Region.wanted,hgd]
 rw[if_pos c];have b:=qGD (P:=P) w dT sT o.type elem sz g off dLen dCap ad sLen sCap cur.toArray t cs hu hsz hg (by rw[hmin];exact hn) hsrc (by simpa using hfit) h1;rw[hmin]at b;unfold Oper.wp;simp[execOp,ho,resolve,invoke,builtin,hd,hs,b,Result.andThen];refine h _ ?_ (below_setRow (Below.refl _ _) (Nat.le_refl _) _);show _=_;simpa[splice]using setRow_heap w g _ _ t _ hg
theorem qQp (n:Nat):madeCells #[.int .i64 0,.int .i64 0] (n*2)=(qAl (0,0) n).toArray :=by
 apply Array.ext';apply List.ext_getElem
 ·simp[madeCells,qBE]
 ·intro i h c;simp[madeCells,Value.cells]
  have g:∀v∈qAl (0,0) n,v= .int .i64 0:=by
   intro v b;unfold qAl at b;rw[List.mem_flatMap]at b;obtain⟨x,f,b⟩:=b;obtain rfl:=List.eq_of_mem_replicate f;simpa[qAD]using b
  have d:=g _ (List.getElem_mem c);rw[show(qAl (0,0) n).toArray.toList[i]=Value.int .i64 0 from d];have:i%2=0∨i%2=1:=by omega
  rcases this with e|e<;>simp[e]
theorem qPd:(Tryz.prog.info? 115).map (λi=>(i.zero,i.size,i.bytes))=some (some (.agg #[.int .i64 0,.int .i64 0]),2,16):=by kernel_rfl
theorem qKd:(Tryz.prog.info? 115).map (·.size)=some 2:=by kernel_rfl
theorem qOP (X n:Nat) (s:Spn) (w:World) (h0:0<n) (hn:n<=1000) (hX:X<w.heap.size) (hk:w.heap[X]? =some (.cells #[.int .i64 s.1,.int .i64 s.2] 115)):
  Calls Tryz.prog 93 #[.slice (some ⟨X,0,none⟩) 1 1,.int .i64 (n:Int)] w λe w'=>e= .returned (.slice (some ⟨w.heap.size,0,none⟩) n n)/\Below w.heap.size w w'/\w'.heap[w.heap.size]? =some (.cells ((List.replicate n s).flatMap qAD).toArray 115):=by
 have hm:=λW=>qQo n (by omega) W;have j1:¬(n:Int)<0:=by omega
 have j2:(0:Int)<=(n:Int):=by omega
 have j3:(n:Int)<=1000:=by omega
 have j4:¬(9223372036854775807:Int)<(n:Int):=by omega
 have⟨Z,Y⟩:=hyd2 hm hk;clear hk hm;go_enter Tryz.func93,Tryz.ntmps93;go_wp2_with (first | (go_at_call 150;((with_reducible refine(Z.out _).mono ?_);rintro e w' ⟨rfl,rfl⟩))| (at_make;go_must (refine qGV _ rfl _ _ 110 rfl 115 _ 2 16 Tryz.underlying110 qPd (by decide) n rfl rfl (by omega) ?_)));intro w1 T g;have L:w1.heap[w.heap.size]? =some (.cells (qAl (0,0) n).toArray 115):=by rw[T.out,qQp]
 have r:=blk g Y.out;obtain⟨x0,x1⟩:=pc2 r;have ar:X≠w.heap.size:=by omega
 clear T;have⟨M,E,aj⟩:=hyd3 L g r;clear r g L;generalize hG:w.heap.size=G at*;go_wp2_with (first |refine qK7 rfl (.tmp 31) (.tmp 32) _ _ rfl 115 Tryz.underlying110 2 qKd G 0 n n ⟨X,0,none⟩ 1 1 rfl rfl (qAl (0,0) n) 115 M.out 1 (Nat.min_eq_left (by omega)) (qAD s) rfl ?_ (by rw[qBE];show 0+2<=_;omega) (by simp[qAD,Value.oneCell']) ?_)
 ·intro j v S;have hj:j<2:=(List.getElem?_eq_some_iff.1 S).1;have b:(⟨X,0,none⟩:Addr).add j=⟨X,j,none⟩:=by unfold Addr.add;split<;>simp_all
  rw[b];have:j=0∨j=1:=by omega
  rcases this with rfl|rfl
  ·rw[x0];simpa[qAD]using S
  ·rw[x1];simpa[qAD]using S
 intro U p i
 have O:U.heap[G]? =some (.cells (repS s 1 n).toArray 115):=by
  have h:=p.out;rw[<-qOL s,show qAl (0,0) n=repS s 0 n from by unfold repS;rw[Nat.sub_zero];simp[qAl],show(0:Nat)=0*2 from rfl,qHI (by omega)]at h;simpa using h
 have H:Below G w U:=E.out.trans i;have z:Below G w U/\U.heap[G]? =some (.cells (repS s 1 n).toArray 115):=⟨H,O⟩;clear x0 x1 O H;have⟨A,ai,af⟩:=hyd3 z p i;clear i p z;go_wp2;go_loopw [8] (λnx wr=>∃m:Nat,1<=m/\m<=n/\nx= .int .i64 (m:Int)/\Hid (Below G w wr/\wr.heap[G]? =some (.cells (repS s m n).toArray 115))) (λnx _=>n - (intOf nx).toNat)
 case atStart=>exact⟨1,by omega,by omega,rfl,A⟩
 case round=>
  obtain⟨m,aa,aq,rfl,y⟩:=hrel
  by_cases ap:m<n
  ·obtain⟨I,t⟩:=y.out;obtain⟨q,hq,ac,R⟩:∃q,Nat.min m (n - m)=q/\q<=m/\m+q<=n:=⟨_,rfl,Nat.min_le_left _ _,by have h:Nat.min m (n - m)<=n - m:=Nat.min_le_right m (n - m);have h2:m+(n - m)=n:=(by omega);exact Nat.le_trans (Nat.add_le_add_left h m) (Nat.le_of_eq h2)⟩;have au:1<=q:=by rw[<-hq];exact Nat.le_min.2 ⟨aa,by omega⟩
   have e1:(m:Int)<(n:Int):=by omega
   have e2:(0:Int)<=(m:Int):=by omega
   have e3:(m:Int)<=(n:Int):=by omega
   have e4:(m:Int)+(q:Int)<=1000:=by omega
   have e6:IntKind.i64.wrap ((m:Int)+(q:Int))=(m:Int)+(q:Int):=by rw[IntKind.wrap_i64];omega
   have d:∀j v,(qAl s q)[j]? =some v->wr.cell? ((⟨G,0,none⟩:Addr).add j)=some v:=by
    intro j v S;have b:(⟨G,0,none⟩:Addr).add j=⟨G,j,none⟩:=by unfold Addr.add;split<;>simp_all
    have h:=qP7 (N:=n) ac S;rw[b];simp only[World.cell?,t];simpa using h
   have c:m*2+(qAl s q).length <=(repS s m n).length :=by rw[qBE,qLq (by omega)];omega
   have⟨f,J,Q,ab,x,l,V⟩:=hyd7 y I t hq d c e6;clear e6 c d hq t I y;go_wp2_with (fail);go_region_law (refine qNG rfl (.tmp 41) (.tmp 44) _ _ rfl 115 Tryz.underlying110 2 qKd G (m*2) (n - m) (n - m) ⟨G,0,none⟩ m n (by simp[Act.eval,Act.put];omega) (by simp[Act.eval,Act.put]) (repS s m n) 115 Q.out q ab.out (qAl s q) (qBE s q) x.out l.out (qLp s q) ?_;intro w4 o k);have B:Below G w w4/\w4.heap[G]? =some (.cells (repS s (m+q) n).toArray 115):=⟨(qAQ J.out 1).trans k,by rw[<-qHI R];exact o.out⟩;have⟨D,ah,ag⟩:=hyd3 B o k;clear k o B;go_wp2;simp only[V.out];go_roundw
   case rel=>exact⟨m+q,by omega,R,by go_num,D⟩
   case measure=>simp[intOf];omega
  ·obtain rfl:m=n:=by omega
   have f:=hyd1 y;clear y;go_wp2;go_ret;subst hG;exact⟨rfl,f.out.out.1,by rw[<-qOM];exact f.out.out.2⟩
theorem qAH {w:World} {base e size n:Nat} {v:Value} {xs:List Value} (h:w.ownsRow base e size v n xs):∃A c,v= .slice A n c:=by
 rcases h.2 with⟨rfl,rfl⟩| ⟨g,cap,cur,rfl,_⟩
 ·exact⟨none,0,rfl⟩
 ·exact⟨_,cap,rfl⟩
def SpB (L:List Spn):Prop:=∀s∈L,(-2000000000000<=s.1/\s.1<=2000000000000)/\(-2000000000000<=s.2/\s.2<=2000000000000)
theorem qPe (L:List Spn) (x:Spn):(L++[x]).flatMap qAD=L.flatMap qAD++[.int .i64 x.1,.int .i64 x.2]:=by rw[List.flatMap_append];simp[qAD]
theorem qEL {P:Program} (w:World) {ops:Array Oper} {rest:List Oper} {o:Oper} {a:Act} {Q:Exit->Act->World->Prop} (hgd:o.guard=none) (s x:Operand) (t:TypeId)
  (ho:o.op= .call {callee:= .builtin .append,args:=#[s,x],argTypes:=#[t,t]})
  (base:Nat) (e:TypeId) (ht:P.underlying t=some (.slice e)) (hinfo:(P.info? e).map (λi=>(i.zero,i.size,i.bytes))=some (some (.agg #[.int .i64 0,.int .i64 0]),2,16))
  (v:Value) (L:List Spn) (hs:a.eval s=v) (hown:w.ownsRow base e 2 v L.length (L.flatMap qAD))
  (B:Nat) (y:Spn) (hx:a.eval x= .slice (some ⟨B,0,none⟩) 1 1) (hc0:w.cell? ⟨B,0,none⟩=some (.int .i64 y.1)) (hc1:w.cell? ⟨B,1,none⟩=some (.int .i64 y.2)) (hlen:L.length<=1000000) (hbase:base<=w.heap.size)
  (h:∀v' w',w'.ownsRow base e 2 v' (L++[y]).length ((L++[y]).flatMap qAD)->(∀n,n<=base->Below n w w')->(∀k,v'.ownBlock=some k->v.ownBlock=some k∨w.heap.size<=k)->wpList P ops Q rest (a.put o.dst v') w'):wpList P ops Q (o::rest) a w:=by
 obtain⟨A,d,f,g,l⟩:=info_parts hinfo;refine qCn w hgd s x t ho base e A _ 2 16 ht d f g l rfl (by decide) v L.length (L.flatMap qAD) hs hown ⟨B,0,none⟩ 1 1 [.int .i64 y.1,.int .i64 y.2] hx rfl (λj u b=>?_) (λu b=>?_) (by unfold maxLen;omega) (by omega) hbase ?_
 ·have z:j<2:=(List.getElem?_eq_some_iff.1 b).1;have c:(⟨B,0,none⟩:Addr).add j=⟨B,j,none⟩:=by unfold Addr.add;split<;>simp_all
  rw[c]
  match j,z with
  | 0,_=>rw[hc0];simpa using b
  | 1,_=>rw[hc1];simpa using b
 ·simp at b;rcases b with rfl|rfl<;>rfl
 ·intro v' w' p q r;refine h v' w' (by rw[qPe,show(L++[y]).length =L.length+1 by simp];exact p) (λn D=>?_) r;exact Below.grown (Below.refl n w) q (by omega) (λk e=>by have:=(hown.lt k e).1;omega)
end Go.Proofs.YtabfaobakmjiaaaGreat

/- Moves; slices.SortStableFunc at short lists of them. Rows of moves that a function owns, and their sorting. What bench.search finds, as a plain function; who .. -/
import Derived.Test.YtbcbcdgbliheoaaGreatPk13
import Derived.Shelf.SlSortCmp.InsertionK
import Derived.LoopN
namespace Go.Proofs.YtbcbcdgbliheoaaGreat
set_option maxRecDepth 100000
open Go.RowKit Go.Shelf Go.Sort Go.Lib
set_option linter.unusedVariables false
set_option linter.unusedSimpArgs false
structure Mv where
 cuts:Int
 turn:Int
 mirror:Bool
 back:Bool
 deriving DecidableEq,Inhabited
def Mv.enc (m:Mv):List Value:=[.int .i64 m.cuts,.int .i64 m.turn,.bool m.mirror,.bool m.back]
def Mv.val (m:Mv):Value:= .agg #[.int .i64 m.cuts,.int .i64 m.turn,.bool m.mirror,.bool m.back]
def qDj (x y:Mv):Int:=wrap64 (x.turn - y.turn)
def qNl:Ren:=⟨λx=>if x=20 then 98 else x,λx=>if x=22 then 94 else if x=24 then 39 else if x=25 then 106 else if x=0 then 0 else if x=3 then 3 else if x=4 then 4 else x,λx=>x⟩
theorem qNm:SlLaysF0.n20 Tryz.prog qNl where
 mixed:=by kernel_rfl
 f20:=⟨(Tryz.f98).name,by kernel_rfl,by kernel_rfl⟩
 t0:=by kernel_rfl
 a0:=λ_=>by kernel_rfl
 z0:=λ_=>by kernel_rfl
 v0:=λ_=>by kernel_rfl
 t3:=by kernel_rfl
 a3:=λ_=>by kernel_rfl
 z3:=λ_=>by kernel_rfl
 v3:=λ_=>by kernel_rfl
 t4:=by kernel_rfl
 a4:=λ_=>by kernel_rfl
 z4:=λ_=>by kernel_rfl
 v4:=λ_=>by kernel_rfl
 t22:=by kernel_rfl
 a22:=λ_=>by kernel_rfl
 z22:=λ_=>by kernel_rfl
 v22:=λ_=>by kernel_rfl
 t25:=by kernel_rfl
 a25:=λ_=>by kernel_rfl
 z25:=λ_=>by kernel_rfl
 v25:=λ_=>by kernel_rfl
theorem qMg (x y:Mv) (W:World):
  Calls Tryz.prog 57 #[.agg x.enc.toArray,.agg y.enc.toArray] W λe w'=>e= .returned (.int .i64 (qDj x y))/\∃q os',w'=grow (W.drewN q) os':=by
 obtain⟨d,f,h,i⟩:=x;obtain⟨j,k,l,m⟩:=y;show Calls _ _ #[.agg #[.int .i64 d,.int .i64 f,.bool h,.bool i],.agg #[.int .i64 j,.int .i64 k,.bool l,.bool m]] W _;go_enter Tryz.func57,Tryz.ntmps57;go_wp2;go_ret;exact⟨rfl,0,#[_,_],by rw[alloc_eq_grow,alloc_eq_grow,grow_grow];rfl⟩
theorem qIk (blk cap:Nat) (d:Array Mv) (w:World) (hH:HoldsK Mv.enc 4 w blk 0 d) (hblk:blk<w.heap.size) (hsz:d.size<=1000):
  Calls Tryz.prog 98 #[.slice (some ⟨blk,0,none⟩) d.size cap,.int .i64 0,.int .i64 d.size,.func (.func 57) #[] #[]] w λe w'=>
   e= .returned (.tuple #[])/\∃n os,w'=sortWorldK Mv.enc 4 w blk 0 n (Sort.insertionSort (ltOf qDj) d 0 d.size) os:=by
 have h:∀args w,(callFunc 57 args).run Tryz.prog w= .ok (.enter 57 args) w:=enters_of Tryz.func57 (by kernel_rfl) rfl;exact AnyQ.insertionSortCmpFunc qNm 4 (λ_=>by kernel_rfl) (λ_=>by kernel_rfl) Mv.enc (λ_=>rfl) (λx v f=>by simp[Mv.enc]at f;rcases f with rfl|rfl|rfl|rfl<;>rfl) qDj 57 #[] blk 0 cap 0 d.size d w h (λ_ _ _ _ x y=>qMg x y _) hH hblk (Nat.zero_le _) (Nat.le_refl _) (by omega)
theorem qIO (blk cap:Nat) (d:Array Mv) (w:World) (hH:HoldsK Mv.enc 4 w blk 0 d) (hblk:blk<w.heap.size) (hsz:d.size<=19):
  Calls Tryz.prog 56 #[.slice (some ⟨blk,0,none⟩) d.size cap,.func (.func 57) #[] #[]] w λe w'=>
   e= .returned (.tuple #[])/\∃n os,w'=sortWorldK Mv.enc 4 w blk 0 n (Sort.insertionSort (ltOf qDj) d 0 d.size) os:=by
 have f:=qIk blk cap d w hH hblk (by omega);generalize Sort.insertionSort (ltOf qDj) d 0 d.size=r at f ⊢;generalize d.size=n at f hsz ⊢
 have i:Calls Tryz.prog 80 #[.slice (some ⟨blk,0,none⟩) n cap,.int .i64 n,.func (.func 57) #[] #[]] w λe w'=>
   e= .returned (.tuple #[])/\∃n os,w'=sortWorldK Mv.enc 4 w blk 0 n r os:=by
  have h:=hyd1 f;clear f;clear hH;go_enter Tryz.func80,Tryz.ntmps80;have l:(n:Int)<20:=by omega
  go_wp2;refine wp_loop_rounds 1 ?_;rw[rounds_succ];go_wp2_with (first | (go_at_call 98;((with_reducible refine(h.out).mono ?_);rintro e w' ⟨rfl,k⟩)));refine wp_loop_rounds 1 ?_;rw[rounds_succ];go_wp2;go_end0;exact⟨rfl,k⟩
 have j:=hyd1 i;clear i;clear f hH;go_enter Tryz.func56,Tryz.ntmps56;go_wp2_with (first | (go_at_call 80;((with_reducible refine(j.out).mono ?_);rintro e w' ⟨rfl,k⟩)));go_end0;exact⟨rfl,k⟩
def qAL (L:List Mv):List Value:=L.flatMap Mv.enc
theorem qEa (L:List Mv):(qAL L).length =L.length*4:=by
 unfold qAL
 induction L with
 | nil=>rfl
 | cons x xs ih=>rw[List.flatMap_cons,List.length_append,ih];simp[Mv.enc];omega
theorem qD3 (L:List Mv):∀t,t<L.length*4->(qAL L)[t]? =some ((Mv.enc (L[t / 4]!))[t%4]!):=by
 unfold qAL
 induction L with
 | nil=>intro t h;simp at h
 | cons x xs ih=>
  intro t h;rw[List.flatMap_cons]
  by_cases i:t<4
  ·rw[List.getElem?_append_left (by simpa[Mv.enc]using i)];have d:t / 4=0:=by omega
   have f:t%4=t:=by omega
   rw[d,f];simp only[List.getElem!_cons_zero];rw[List.getElem?_eq_getElem (by simpa[Mv.enc]using i),getElem!_pos _ t (by simpa[Mv.enc]using i)]
  ·rw[List.getElem?_append_right (by simp[Mv.enc];omega)];have j:x.enc.length=4:=rfl;rw[j,ih (t - 4) (by simp at h;omega)];have d:t / 4=(t - 4) / 4+1:=by omega
   have f:(t - 4)%4=t%4:=by omega
   rw[d,f];simp
theorem qNn (L:List Mv):(flatK Mv.enc 4 L.toArray).toList =qAL L:=by
 apply List.ext_getElem?;intro t
 by_cases h:t<L.length*4
 ·rw[qD3 L t h];have d:t<(flatK Mv.enc 4 L.toArray).toList.length :=by simp;omega
  rw[List.getElem?_eq_getElem d];have:=get_flatK Mv.enc 4 L.toArray t (by simpa using h);rw[getElem!_pos _ t (by simp;omega)]at this;simp only[Array.getElem_toList];rw[this];simp
 ·rw[List.getElem?_eq_none (by simp;omega),List.getElem?_eq_none (by rw[qEa];omega)]
theorem qLi {W:World} {base e g c:Nat} {L:List Mv} (h:W.ownsRow base e 4 (.slice (some ⟨g,0,none⟩) L.length c) L.length (qAL L)):HoldsK Mv.enc 4 W g 0 L.toArray:=by
 intro j f;have d:j<L.length*4:=by simpa using f
 rw[Nat.zero_add];refine⟨?_,h.frozenAt j⟩;rw[h.cellAt j d];rw[qD3 L j d,get_flatK Mv.enc 4 L.toArray j (by simpa using d)];simp
theorem qK9 {W:World} {base e g c:Nat} {L:List Mv} (h:W.ownsRow base e 4 (.slice (some ⟨g,0,none⟩) L.length c) L.length (qAL L)) (d:Array Mv) (hd:d.size=L.length) (n:Nat) (os:Array Obj):
  (sortWorldK Mv.enc 4 W g 0 n d os).ownsRow base e 4 (.slice (some ⟨g,0,none⟩) L.length c) L.length (qAL d.toList)/\W.heap.size<=(sortWorldK Mv.enc 4 W g 0 n d os).heap.size ∧
   ∀k,k<W.heap.size->k≠g->(sortWorldK Mv.enc 4 W g 0 n d os).heap[k]? =W.heap[k]? :=by
 have m:(putRowK Mv.enc 4 (Sort.ahead W n) g 0 d).heap.size =W.heap.size:=by rw[size_putRowK];rfl
 refine⟨⟨by rw[qEa];simp[hd],?_⟩,?_,?_⟩
 ·rcases h.2 with⟨h',_⟩| ⟨g',cap,cur,hv,hb,hh,hnc,hcm,hs,htake⟩
  ·simp at h'
  ·injection hv with h1 _ h3;injection h1 with h1;injection h1 with h1;subst h1 h3;refine .inr ⟨g,c,putCells id 0 (flatK Mv.enc 4 d) cur,rfl,hb,?_,hnc,hcm,by simp[putCells,hs],?_⟩
   ·unfold sortWorldK;rw[heap_grow_old _ _ (by rw[m];exact(gsl hh))];show((Sort.ahead W n).heap.modify g _)[g]? =_;rw[Array.getElem?_modify,if_pos rfl];show Option.map _ (W.heap[g]?)=_;rw[hh]
    rfl
   ·have i:(flatK Mv.enc 4 d).toList =qAL d.toList:=by have:=qNn d.toList;simpa using this
    rw[<-i];apply List.ext_getElem?;intro t;rw[List.getElem?_take]
    by_cases f:t<L.length*4
    ·rw[if_pos f];have l:t<cur.size:=by rw[hs];exact Nat.lt_of_lt_of_le f (Nat.mul_le_mul_right 4 hnc)
     have q:t<d.size*4:=by rw[hd];exact f
     simp only[Array.getElem?_toList];unfold putCells;rw[Array.getElem?_mapIdx,Array.getElem?_eq_getElem l,Option.map_some];rw[if_pos ⟨Nat.zero_le _,by simp;omega⟩,Nat.sub_zero];rw[Array.getElem?_eq_getElem (by simp;omega),getElem!_pos _ t (by simp;omega)]
     rfl
    ·rw[if_neg f,List.getElem?_eq_none (by simp[hd];omega)]
 ·unfold sortWorldK;rw[size_grow,m];omega
 ·intro k p j;unfold sortWorldK;rw[heap_grow_old _ _ (by rw[m];exact p)];show((Sort.ahead W n).heap.modify g _)[k]? =_;rw[Array.getElem?_modify,if_neg (Ne.symm j)]
  rfl
def qA3 (p q:Prog) (k:Int) (mi ba:Bool) (j:Nat):Int:=
 ((if mi then(offV p q true:Int)+qAS p j else(offV p q false:Int) - qAS p j)+qAS q (if ba then k - j else k+j))%(per p:Int)
def qBd:Nat->Bool×Bool
 | 0=>(false,false)
 | 1=>(false,true)
 | 2=>(true,false)
 | _=>(true,true)
def barB (p q:Prog) (how:Nat) (mi ba:Bool):Bool:=ba&&(how / 2%2==0)||mi&&(how%2==0)||mi&& !offB p q true|| !mi&& !offB p q false
def qDk (p q:Prog) (n:Nat) (k:Int) (mi ba:Bool):Bool:=(List.range n).all λj=>qA3 p q k mi ba j==qA3 p q k mi ba 0
def qGk (p q:Prog) (how n:Nat) (k:Int) (mb:Bool×Bool):Option Mv:=if barB p q how mb.1 mb.2 then none else if qDk p q n k mb.1 mb.2 then some ⟨k,qA3 p q k mb.1 mb.2 0,mb.1,mb.2⟩else none
def qAB (p q:Prog) (how n:Nat) (k:Int) (i:Nat):List Mv:=(List.range i).filterMap λa=>qGk p q how n k (qBd a)
def qCU (l:List Mv):List Mv:=(Sort.insertionSort (ltOf qDj) l.toArray 0 l.length).toList
def qBe (p q:Prog) (how n:Nat) (k:Nat):List Mv:=qCU (qAB p q how n k 4)
def qBU (p q:Prog) (how n:Nat) (k:Nat):List Mv:=(List.range k).flatMap λa=>qBe p q how n a
def qGl (p q:Prog):Bool:=p.ros.length==q.ros.length&&per p==per q&&qAD p==qAD q
def qBR (p q:Prog) (how:Nat):List Mv:=if qGl p q then qBU p q how (qAD p) (qAD p)else[]
def qBk (goes:Bool) (l:List Mv):List Mv:=if goes then l else l.take 1
theorem qLj (goes:Bool):qBk goes []=[]:=by cases goes<;>rfl
theorem qEG (p q:Prog) (how n:Nat) (k:Int) (i:Nat):qAB p q how n k (i+1)=qAB p q how n k i++(qGk p q how n k (qBd i)).toList :=by
 unfold qAB;rw[List.range_succ,List.filterMap_append]
 congr 1
theorem qC3 (p q:Prog) (how n:Nat) (k:Int) (i:Nat):(qAB p q how n k i).length <=i:=by
 unfold qAB;exact Nat.le_trans (List.length_filterMap_le ..) (by simp)
theorem qDl (p q:Prog) (how n k:Nat):qBU p q how n (k+1)=qBU p q how n k++qBe p q how n k:=by
 unfold qBU;rw[List.range_succ,List.flatMap_append];simp
theorem qMh (d:Array Mv) (i j:Nat):(swp d i j).size =d.size:=by simp[swp]
theorem qFM (lt:Mv->Mv->Bool) (a:Nat):∀(j:Nat) (d:Array Mv),(insInner lt a j d).size =d.size
 | 0,d=>rfl
 | j+1,d=>by
  unfold insInner
  split
  ·rw[qFM lt a j,qMh]
  ·rfl
theorem qFN (lt:Mv->Mv->Bool) (a b i:Nat) (d:Array Mv):(insOuter lt a b i d).size =d.size:=by
 unfold insOuter
 split
 ·rw[qFN lt a b (i+1),qFM]
 ·rfl
termination_by b - i
theorem qCC (l:List Mv):(qCU l).length =l.length:=by
 unfold qCU Sort.insertionSort;rw[Array.length_toList,qFN];simp
def qEu (Own:World->Nat->Prop) (W W':World):Prop:=∀k,k<W.heap.size->¬Own W k->W'.heap[k]? =W.heap[k]?
structure Recv (P:Program) (n0 g:Nat) (cb:Array Value) (goes:Bool) (Own:World->Nat->Prop) (Inv:List Mv->World->Prop):Prop where
 enters:∀args w,(callFunc g args).run P w= .ok (.enter g args) w
 own:∀pre W k,Inv pre W->Own W k->n0<=k/\k<W.heap.size
 cells:∀pre W k,Inv pre W->Own W k->∃o:Obj,W.heap[k]? =some o/\o.isCells=true
 frame:∀pre W W',Inv pre W->W.heap.size<=W'.heap.size->(∀k,Own W k->W'.heap[k]? =W.heap[k]?)->Inv pre W'/\∀k,Own W' k->Own W k
 call:∀pre x W,Inv pre W->pre.length<=10000->Calls P g (#[x.val]++cb) W λe w'=>e= .returned (.bool goes)/\Inv (pre++[x]) w'/\Below n0 W w'/\qEu Own W w'/\∀k,Own w' k->Own W k∨W.heap.size<=k
section
variable {P:Program} {n0 g:Nat} {cb:Array Value} {goes:Bool} {T84 T3:TypeId} {w0:World} {B4 B5 B9 B11 b c s o:Nat} {Own:World->Nat->Prop} {Inv:List Mv->World->Prop} {pre:List Mv} {W W':World}
end
def OMarks (Own:World->Nat->Prop) (B:Nat) (W:World):List Deferred->Prop
 | []=>True
 | d::ds=>(∃D,d={target:= .collected D,args:=#[]}/\B<=D/\W.heap[D]? =some (.deferred (some []))/\¬Own W D/\∀d'∈ds,d'≠d)/\OMarks Own B W ds
theorem OMarks.keep {Own:World->Nat->Prop} {B:Nat} {W W':World}:∀{ds:List Deferred},OMarks Own B W ds->(∀D,W.heap[D]? =some (.deferred (some []))->¬Own W D->W'.heap[D]? =some (.deferred (some []))/\¬Own W' D)->OMarks Own B W' ds
 | [],_,_=>trivial
 | d::ds,⟨⟨D,hd,hB,hD,hO,hne⟩,hr⟩,hk=>⟨⟨D,hd,hB,(hk D hD hO).1,(hk D hD hO).2,hne⟩,OMarks.keep hr hk⟩
theorem OMarks.marks {Own:World->Nat->Prop} {B:Nat} {W:World}:∀{ds:List Deferred},OMarks Own B W ds->Marks B W ds
 | [],_=>trivial
 | d::ds,⟨⟨D,hd,hB,hD,hO,hne⟩,hr⟩=>⟨⟨D,hd,hB,hD,hne⟩,OMarks.marks hr⟩
theorem OMarks.lt {Own:World->Nat->Prop} {B:Nat} {W:World}:∀{ds:List Deferred},OMarks Own B W ds->∀d∈ds,∃D,d={target:= .collected D,args:=#[]}/\D<W.heap.size
 | [],_,_,h=>by cases h
 | d::ds,⟨⟨D,hd,hB,hD,hO,hne⟩,hr⟩,d',h=>by
  rcases List.mem_cons.1 h with rfl|h
  ·exact⟨D,hd,(gsl hD)⟩
  ·exact OMarks.lt hr d' h
theorem OMarks.next {P:Program} {n0 g:Nat} {cb:Array Value} {goes:Bool} {Own:World->Nat->Prop} {Inv:List Mv->World->Prop} {pre:List Mv} {B:Nat} {W W':World} {ds:List Deferred} (hR:Recv P n0 g cb goes Own Inv) (hI:Inv pre W) (h:OMarks Own B W ds) (hb:Below W.heap.size W W'):OMarks Own B W' ds:=
 h.keep λD hD hO=>⟨(hb.block D (gsl hD)).trans hD,λhk=>hO ((hR.frame pre W W' hI hb.size (λk hk=>hb.block k (hR.own pre W k hI hk).2)).2 D hk)⟩
theorem OMarks.step {Own:World->Nat->Prop} {B:Nat} {W W':World} {ds:List Deferred} (h:OMarks Own B W ds) (hs:qEu Own W W') (ho:∀k,Own W' k->Own W k∨W.heap.size<=k):OMarks Own B W' ds:=
 h.keep λD hD hO=>by
  have hlt:=(gsl hD);exact⟨(hs D hlt hO).trans hD,λhk=>(ho D hk).elim hO (λhk=>by omega)⟩
theorem qMi {W W':World} {base e g c n size:Nat} {xs:List Value} (h:W.ownsRow base e size (.slice (some ⟨g,0,none⟩) n c) n xs) (hk:W'.heap[g]? =W.heap[g]?):W'.ownsRow base e size (.slice (some ⟨g,0,none⟩) n c) n xs:=by
 refine⟨h.1,?_⟩
 rcases h.2 with h'| ⟨g',cap,cur,hv,hb,hh,r⟩
 ·exact .inl h'
 ·refine .inr ⟨g',cap,cur,hv,hb,?_,r⟩;injection hv with h1;injection h1 with h1;injection h1 with h1;subst h1;exact hk.trans hh
end Go.Proofs.YtbcbcdgbliheoaaGreat

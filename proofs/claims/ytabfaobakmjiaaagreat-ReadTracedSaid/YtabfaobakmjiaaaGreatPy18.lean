/- The reference's Fitting: the walk. append of one struct onto a row of one's own, in a plain walk and inside a fence. read.union, read.found, read.some as a .. -/
import Derived.Test.YtabfaobakmjiaaaGreatPy17
namespace Go.Proofs.YtabfaobakmjiaaaGreat
set_option maxRecDepth 100000
open Go.RowKit
set_option linter.unusedVariables false
set_option linter.unusedSimpArgs false
open Go.RowKit Go.Shelf
attribute [local go_sem] Oper.semAt_some
theorem qF1 {α:Type} {enc:α->List Value} {k bytes:Nat} {z:Value} {P:Program} (w:World) {ops:Array Oper} {rest:List Oper} {o:Oper} {a:Act} {Q:Exit->Act->World->Prop} (hgd:o.guard=none) (s x:Operand) (t:TypeId)
  (hk:∀x,(enc x).length =k) (h1c:∀x,∀u∈enc x,u.oneCell'=true) (hk0:0<k) (hzs:z.cells.size=k) (hb8:bytes<=100)
  (ho:o.op= .call {callee:= .builtin .append,args:=#[s,x],argTypes:=#[t,t]})
  (base:Nat) (e:TypeId) (ht:P.underlying t=some (.slice e)) (hinfo:(P.info? e).map (λi=>(i.zero,i.size,i.bytes))=some (some z,k,bytes))
  (v:Value) (L:List α) (hs:a.eval s=v) (hown:w.ownsRow base e k v L.length (L.flatMap enc))
  (B:Nat) (y:α) (hx:a.eval x= .slice (some ⟨B,0,none⟩) 1 1) (hc:∀i u,(enc y)[i]? =some u->w.cell? ⟨B,i,none⟩=some u) (hlen:L.length<=1000000) (hbase:base<=w.heap.size)
  (h:∀v' w',w'.ownsRow base e k v' (L++[y]).length ((L++[y]).flatMap enc)->w.grownBy w' v.ownBlock->(∀j,v'.ownBlock=some j->v.ownBlock=some j∨w.heap.size<=j)->wpList P ops Q rest (a.put o.dst v') w'):wpList P ops Q (o::rest) a w:=by
 obtain⟨q,c,d,f,g⟩:=info_parts hinfo;refine qCn w hgd s x t ho base e q z k bytes ht c d f g hzs hk0 v L.length (L.flatMap enc) hs hown ⟨B,0,none⟩ 1 1 (enc y) hx (by rw[hk,Nat.one_mul]) (λj u p=>?_) (h1c y) (by unfold maxLen;omega) (Nat.le_trans (Nat.mul_le_mul (show L.length+1<=1000001 by omega) hb8) (by decide)) hbase ?_
 ·have b:(⟨B,0,none⟩:Addr).add j=⟨B,j,none⟩:=by unfold Addr.add;split<;>simp_all
  rw[b];exact hc j u p
 ·intro v' w' l m n;refine h v' w' ?_ m n;rw[List.flatMap_append,List.flatMap_singleton,show(L++[y]).length =L.length+1 by simp];exact l
theorem qM8 {w w':World} {base e size n:Nat} {v:Value} {xs:List Value} (h:w.ownsRow base e size v n xs) (hg:w.grownBy w' v.ownBlock) (hb:base<=w.heap.size):Below base w w':=Below.grown (Below.refl _ _) hg hb (λk e=>(h.lt k e).1)
theorem qBe {W:World} {B:Nat} {cs:Array Value} {t:TypeId} (h:W.heap[B]? =some (.cells cs t)) (i:Nat) (v:Value):(W.setCell ⟨B,i,none⟩ v).heap[B]? =some (.cells (cs.setIfInBounds i v) t):=by
 simp only[World.setCell,Array.getElem?_modify,h];simp
theorem qBf {β:Type} (B X:Nat) (cs:Array Value) (t:TypeId):OwnFrom B (λ(_:β) W=>W.heap[X]? =some (.cells cs t)):=λs W W' row hs hg hr=>by
 refine(hg.block X (gsl hs) (λe=>?_)).trans hs;obtain⟨-,o,ho,hc⟩:=hr X e.symm;rw[show W.heap[X]? =_ from hs]at ho
 cases ho
 cases hc
theorem qE5 {α:Type} {enc:α->List Value} {k bytes:Nat} {z:Value} {F:Fence} {n:Nat} {P:Program} (w:World) {ops:Array Oper} {rest:List Oper} {o:Oper} {a:Act} {Q:Exit->Act->World->Prop} (hgd:o.guard=none) (s x:Operand) (t:TypeId)
  (hk:∀x,(enc x).length =k) (h1c:∀x,∀u∈enc x,u.oneCell'=true) (hk0:0<k) (hzs:z.cells.size=k) (hb8:bytes<=100)
  (ho:o.op= .call {callee:= .builtin .append,args:=#[s,x],argTypes:=#[t,t]})
  (base:Nat) (e:TypeId) (ht:P.underlying t=some (.slice e)) (hinfo:(P.info? e).map (λi=>(i.zero,i.size,i.bytes))=some (some z,k,bytes))
  (v:Value) (L:List α) (hs:a.eval s=v) (hown:w.ownsRow base e k v L.length (L.flatMap enc))
  (B:Nat) (y:α) (hx:a.eval x= .slice (some ⟨B,0,none⟩) 1 1) (hc:∀i u,(enc y)[i]? =some u->w.cell? ⟨B,i,none⟩=some u) (hlen:L.length<=1000000) (hbase:base<=w.heap.size)
  (h:∀v' w',w'.ownsRow base e k v' (L++[y]).length ((L++[y]).flatMap enc)->w.grownBy w' v.ownBlock->(∀j,v'.ownBlock=some j->v.ownBlock=some j∨w.heap.size<=j)->wpListIn F n P ops Q rest (a.put o.dst v') w'):wpListIn F n P ops Q (o::rest) a w:=by
 obtain⟨E,g,l,m,p⟩:=info_parts hinfo;refine wpListIn_plain hgd λK d=>?_
 obtain⟨v',w',C,q,r,G,A⟩:=qD5 (P:=P) w base t o.type e E z k bytes ht g l m p hzs hk0 v L.length (L.flatMap enc) hown ⟨B,0,none⟩ 1 1 (enc y) (by rw[hk,Nat.one_mul]) (λj u D=>by
  have b:(⟨B,0,none⟩:Addr).add j=⟨B,j,none⟩:=by unfold Addr.add;split<;>simp_all
  rw[b]
  exact hc j u D) (h1c y) (by unfold maxLen;omega) (Nat.le_trans (Nat.mul_le_mul (show L.length+1<=1000001 by omega) hb8) (by decide)) hbase
 unfold Oper.wpIn;refine⟨?_,?_⟩
 ·simp[Oper.about,ho,resolve,Target.leads,Sem.run_pure]
 ·rw[Oper.semAt_plain F _ _ (by rw[ho];intro c f;cases f)];simp[execOp,ho,resolve,invoke,builtin,hs,hx,C,Result.andThen];refine d _ _ (h v' w' ?_ r A);rw[List.flatMap_append,List.flatMap_singleton,show(L++[y]).length =L.length+1 by simp];exact q
end Go.Proofs.YtabfaobakmjiaaaGreat
namespace Go.Proofs.YtabfaobakmjiaaaGreat
set_option maxRecDepth 100000
set_option maxHeartbeats 1000000
open Go.RowKit Go.Shelf
set_option linter.unusedVariables false
set_option linter.unusedSimpArgs false
attribute [local go_sem] Oper.semAt_some
theorem qKw (v:Value) (L:List Spn) (W:World) (hv:SpnL W v L) (h0:0<L.length) (hl:L.length<=10000) (hb:SpB L):Calls Tryz.prog 154 #[v] W λe w'=>∃v',e= .returned v'/\Below W.heap.size W w'/\SpnL w' v' (qBj L):=qMC qOZ v L W hv h0 hl hb
theorem qHL (v:Value) (cs:Array Value) (w:World) (hv:v= .agg cs) (hs:cs.size=6):
  Calls Tryz.prog 48 #[v] w λe w'=>e= .returned (.func (.func 96) #[] #[.pointer (some ⟨w.heap.size,0,none⟩)])/\w.alloc (.cells cs 51)=w':=by
 have i:∀(fn:Fn) (first cap:Array Value) (w:World),(Instr.makeFunc fn first cap).run Tryz.prog w= .ok (.func fn first cap) w:=λ_ _ _ _=>rfl;obtain⟨l,rfl⟩:∃l:List Value,cs=l.toArray:=⟨cs.toList,by simp⟩
 obtain⟨b,c,d,f,g,h,rfl⟩:∃b c d f g h,l=[b,c,d,f,g,h]:=by
  match l,hs with
  | [b,c,d,f,g,h],_=>exact⟨_,_,_,_,_,_,rfl⟩
 subst hv;go_enter Tryz.func48,Tryz.ntmps48;go_wp2;go_ret;exact⟨rfl,rfl⟩
theorem qM9:(Tryz.prog.info? 60).map (λi=>(i.zero,i.size,i.bytes))=some (some (.agg #[.int .i64 0,.int .i64 0,.int .i64 0,.int .i64 0]),4,32):=by kernel_rfl
def FwI (W2:World) (rds:List Rd) (l:List Int) (k:Nat) (vo:Value) (W:World):Prop:=Below W2.heap.size W2 W/\W.ownsRow W2.heap.size 60 4 vo k ((subR rds (l.take k)).flatMap qBA)
theorem qO7 {rds:List Rd} {l:List Int} {k:Nat} (h:k<l.length) (h2:l[k].toNat <rds.length):subR rds (l.take (k+1))=subR rds (l.take k)++[rds[l[k].toNat]]:=by
 unfold subR;rw[List.take_succ_eq_append_getElem h,List.map_append,List.map_singleton,List.getD_eq_getElem?_getD,List.getElem?_eq_getElem h2]
 rfl
theorem qHM (rds:List Rd) (l:List Int):(subR rds l).length =l.length:=by unfold subR;simp
theorem qIE (v vl:Value) (p:Pic) (l:List Int) (w:World) (hp:IsPic w v p) (hok:PicM p) (hst:p.steps<=24) (hvl:Ints w vl l) (hl:∀i∈l,0<=i/\i<(p.rds.length:Int)) (h60:l.length<=60):
  Calls Tryz.prog 45 #[v,vl] w λe w'=>e= .returned (.bool (qEK p l))/\Below w.heap.size w w':=by
 have aF:=hp;obtain⟨vh,vr,rfl,hh,O⟩:=hp;obtain⟨HA,hc,rfl,bj⟩:=hh.slice;obtain⟨RA,rc,rfl,bt⟩:=O.slice;unfold maxLen at bj bt;obtain⟨LA,lc,rfl,cp,bn,-,bo⟩:=id hvl;unfold maxLen at bn;clear bo;obtain⟨W1,be,af,k1⟩:=newb w (.cells #[.slice HA p.hs.length hc,.int .i64 p.tl,.int .i64 p.th,.int .i64 p.al,.int .i64 p.ah,.slice RA p.rds.length rc] 51);obtain⟨S,cj,M,k2⟩:=newb W1 (.cells #[.bool false] 4);have aK:=blk M k1;have T:=qAA af M;have a0:FwI S p.rds l 0 (.slice none 0 0) S:=⟨Below.refl _ _,World.ownsRow_nil _ _ _ _⟩;have bv:W1.heap.size=w.heap.size+1:=by rw[<-be];simp
 have⟨bN,aE,bi,bs,aH,a9,bG,cr⟩:=hyd8 aF hok hh O hvl hl af k1;have⟨a2,bx,aL,ag,a1⟩:=hyd5 M k2 aK T a0;clear a0 T aK k2 M k1 af hl hvl O hh hok aF;refine(callsIn_wide (n:=5)).1 ?_;refine callsIn_of_wp_marks Tryz.func45 rfl trivial ?_ rfl;simp only[Tryz.ntmps45,List.size_toArray,List.length_cons,List.length_nil,Nat.reduceAdd,Nat.reduceSub,Array.replicate_succ,Array.replicate_zero,List.push_toArray,List.append_toArray,List.nil_append,List.cons_append];refine wpIn_wide.2 ?_;go_wp2_with (fail);go_loopw [10,5] (λkx vo wr=>∃k:Nat,k<=l.length/\kx= .int .i64 (k:Int)/\Hid (FwI S p.rds l k vo wr)) (λkx _ _=>l.length - (intOf kx).toNat)
 case atStart=>exact⟨0,Nat.zero_le _,rfl,a1⟩
 case round=>
  obtain⟨k,hk,rfl,hI⟩:=hrel;obtain⟨f,Z⟩:=hI.out;obtain⟨AO,cO,rfl⟩:=qAH Z;have z:=qAA ag.out f;have g:=blk f aL.out
  by_cases am:k<l.length
  ·obtain⟨b,off,c2,ak,cn,-,-,m⟩:=Ints.cells (aH.out.below z) (by omega);injection ak with e1 e2 e3;subst e1 e3;clear e2;have bg:=m k am;have bl:=a9.out _ (List.getElem_mem am);obtain⟨i,hi⟩:∃i:Nat,l[k]=(i:Int):=⟨l[k].toNat,by omega⟩;have P:=qO7 (rds:=p.rds) am (by omega);rw[hi]at bg bl;simp only[hi,Int.toNat_natCast]at P;have bm:i<p.rds.length:=by omega
   obtain⟨b1,o1,z1,ak,bH,g0,g1,g2,g3⟩:=RdsL.cells (bs.out.le z) bm;injection ak with e1 e2 e3;subst e1 e3;clear e2;obtain⟨⟨r1,r2,r3,r4⟩,ap⟩:∃r,p.rds[i]=r:=⟨_,rfl⟩;rw[ap]at g0 g1 g2 g3 P;dsimp only at g0 g1 g2 g3;obtain⟨c0,c1,c2,c3,c4,c5⟩:=pc6 g;obtain⟨Wa,cm,N,ka⟩:=newb wr (.cells #[.int .i64 r1,.int .i64 r2,.int .i64 r3,.int .i64 r4] 60);obtain⟨aQ,aR,aS,aT⟩:=pc4 ka
   have Y:∀(i:Nat) (u:Value),(qBA ⟨r1,r2,r3,r4⟩)[i]? =some u->Wa.cell? ⟨wr.heap.size,i,none⟩=some u:=λi u L=>by
    have bk:i<4:=(List.getElem?_eq_some_iff.1 L).1
    match i,bk with
    | 0,_=>rw[aQ];simpa[qBA]using L
    | 1,_=>rw[aR];simpa[qBA]using L
    | 2,_=>rw[aS];simpa[qBA]using L
    | 3,_=>rw[aT];simpa[qBA]using L
   have aD:=qAK Z N;have G:=qAA f N;have aJ:=G.size;have aA:(subR p.rds (l.take k)).length =k:=by rw[qHM,List.length_take];omega
   have j1:(k:Int)<(l.length:Int):=by omega
   have j2:(0:Int)<=(k:Int):=by omega
   have j3:(i:Int)<(p.rds.length:Int):=by omega
   have j4:(0:Int)<=(i:Int):=by omega
   have⟨bb,a5,bq,aI,aM,aV,aG,bO⟩:=hyd8 hI f Z z g m P ap;have⟨bK,cu,an,aa,aj,H,co⟩:=hyd7 N ka Y aD G aA hi;clear hi aA G aD Y ka N ap P m g z Z f hI;clear aQ aR aS aT;go_wp2_with (first | (at_builtin;go_must (refine qF1 (enc:=qBA) (k:=4) (bytes:=32) _ rfl _ _ 49 (λ_=>rfl) (λx u L=>by simp[qBA]at L;rcases L with rfl|rfl|rfl|rfl<;>rfl) (by decide) rfl (by decide) rfl S.heap.size 60 Tryz.underlying49 qM9 (.slice AO k cO) (subR p.rds (l.take k)) rfl (by rw[H.out];exact aa.out) wr.heap.size ⟨r1,r2,r3,r4⟩ rfl an.out (by rw[H.out];omega) aJ ?_)));intro v7 w7 q1 q2 q3;have R:w7.ownsRow S.heap.size 60 4 v7 (k+1) ((subR p.rds (l.take (k+1))).flatMap qBA):=by rw[H.out]at q1;rw[aG.out,List.flatMap_append,List.flatMap_singleton];exact q1
   obtain⟨A7,c7,rfl⟩:=qAH R;have hN:FwI S p.rds l (k+1) (.slice A7 (k+1) c7) w7:=⟨aj.out.trans (qM8 aa.out q2 aJ),R⟩;have⟨cx,bV,cy,cz,bc⟩:=hyd5 q1 R q2 q3 hN;clear hN q3 q2 R q1;go_wp2;go_roundw
   case rel=>exact⟨k+1,by omega,by go_num,bc⟩
   case measure=>simp[intOf];omega
  ·obtain rfl:k=l.length:=by omega
   rw[List.take_length]at Z;obtain⟨c0,c1,c2,c3,c4,c5⟩:=pc6 g;have f5:=pfrz g 5;have bu:=qHM p.rds l;have Q:=blk f bx.out;rw[bv]at Q
   obtain⟨W4,ck,F,k4,au,ao⟩:∃V,wr.setCell ⟨w.heap.size,5,none⟩ (.slice AO l.length cO)=V/\Below w.heap.size w V/\V.heap[w.heap.size]? =some (.cells #[.slice HA p.hs.length hc,.int .i64 p.tl,.int .i64 p.th,.int .i64 p.al,.int .i64 p.ah,.slice AO l.length cO] 51)/\V.heap[w.heap.size+1]? =some (.cells #[.bool false] 4)/\V.ownsRow S.heap.size 60 4 (.slice AO l.length cO) l.length ((subR p.rds l).flatMap qBA):=
    ⟨_,rfl,Below.setCell z (p:=⟨w.heap.size,5,none⟩) (Nat.le_refl _) _,qBe g 5 _,(Below.heap_setCell _ ⟨w.heap.size,5,none⟩ _ (w.heap.size+1) (by show w.heap.size+1≠w.heap.size;omega)).trans Q,qCA Z (by have:=a2.out.size;omega) _⟩
   have y:IsPic W4 (.agg #[.slice HA p.hs.length hc,.int .i64 p.tl,.int .i64 p.th,.int .i64 p.al,.int .i64 p.ah,.slice AO l.length cO]) (p.with (subR p.rds l)):=⟨_,_,rfl,bi.out.le F,SV.of_own (base:=S.heap.size) (e:=60) (enc:=qBA) (λ_=>rfl) (by show W4.ownsRow _ _ _ _ (subR p.rds l).length _;rw[bu];exact ao)⟩;have I:=aE.out.sub a9.out h60;obtain⟨W5,cl,j,k5⟩:=newb W4 (.cells #[.slice HA p.hs.length hc,.int .i64 p.tl,.int .i64 p.th,.int .i64 p.al,.int .i64 p.ah,.slice AO l.length cO] 51);have a6:=qGK qKw _ _ _ W4 W5 W4.heap.size W4.heap.size y I hst (Nat.le_refl _) j.size j rfl k5;have U:=qAA F j;have aO:=blk j au;obtain⟨d0,d1,d2,d3,d4,d5⟩:=pc6 k4;have cq:=j.size;have bP:=F.size;have⟨bb,a5,bq,aI,aM,bT,bI,cs⟩:=hyd8 hI f Z z g Q F k4;have⟨bS,bM,aX,br,bJ,ct,a7,ai⟩:=hyd8 au ao y I j k5 a6 U;have aP:=hyd1 aO;clear aO U a6 k5 j I y ao au k4 F Q g z Z f hI;go_wp2_with (first | (go_at_call 48;((with_reducible refine(qHL _ _ _ rfl rfl).mono ?_);rintro e w' ⟨rfl,rfl⟩)));refine(wpIn_wide (n:=5)).1 ?_;refine qBU rfl (by omega) (gf:=96) (lb:=#[.pointer (some ⟨W4.heap.size,0,none⟩)]) rfl trivial (enters_of Tryz.func96 (by kernel_rfl) rfl)
    a7.out KeepT.trans (λV l o o' hl h hc _=>KeepT.put o' (by omega) h hc) (Below.refl _ _) (λ_=>rfl)
    (λC W=>C=[]/\Below w.heap.size w W/\W.heap[w.heap.size+1]? =some (.cells #[.bool false] 4))
    (λc C W=>c= .ret /\C≠[]/\Below w.heap.size w W/\W.heap[w.heap.size+1]? =some (.cells #[.bool true] 4))
    (λs A B J hs hg O=>⟨hs.1,qCz (w:=w) (by omega) (Nat.le_refl _) s A B J hs.2.1 hg O,qBf W5.heap.size _ _ _ s A B J hs.2.2 hg O⟩)
    (λc s A B J hs hg O=>⟨hs.1,hs.2.1,qCz (w:=w) (by omega) (Nat.le_refl _) s A B J hs.2.2.1 hg O,qBf W5.heap.size _ _ _ s A B J hs.2.2.2 hg O⟩)
    ⟨rfl,ai.out,aP.out⟩ (λ_ x a' _=>∃u:Nat->Value,a'={tmps:=#[u 0,(u 1),(u 2),(u 3),.pointer (some ⟨w.heap.size+1,0,none⟩),(u 5),(u 6),(u 7),(u 8),(u 9),(u 10),(u 11),(u 12),(u 13),(u 14),(u 15),(u 16),(u 17),(u 18),(u 19),(u 20),(u 21),(u 22),(u 23),(u 24),(u 25),(u 26),(u 27)],defers:=[]}) (λC x a' V o o' h _=>h) ?assign ?body ?done ?stop
   case assign=>
    intro la C x V K hI hG hK;dsimp only[qKQ];gi_wp2;refine hK _ V (KeepsFrom.refl _ _) (KeepT.refl _ _) hI ?_;obtain⟨u,L⟩:=qFR (λu:Nat->Value=>#[u 0,(u 1),(u 2),(u 3),.pointer (some ⟨w.heap.size+1,0,none⟩),(u 5),(u 6),(u 7),(u 8),(u 9),(u 10),(u 11),(u 12),(u 13),(u 14),(u 15),(u 16),(u 17),(u 18),(u 19),(u 20),(u 21),(u 22),(u 23),(u 24),(u 25),(u 26),(u 27)]) _ (by kernel_rfl);exact⟨u,congrArg (λt=>({tmps:=t,defers:=[]}:Act)) L⟩
   case body=>
    rintro la C x a' V ⟨rfl,d,E⟩ ⟨u,rfl⟩ bL;have kc:=qAO E;have kf:=pfrz E 0;gi_wp2;exact⟨(KeepsOthers.setCell _ _ _).from _,rfl,by simp,Below.setCell d (p:=⟨w.heap.size+1,0,none⟩) (Nat.le_succ _) _,qBe E 0 _⟩
   case done=>
    rintro D xs V hD hS ⟨rfl,d,E⟩ hK;have kc:=qAO E;have kf:=pfrz E 0
    have aB:qEK p l=false:=by
     unfold qEK;rw[Bool.eq_false_iff];intro h;exact anyB_iff.1 h hS.symm
    have a3:=Below.setCell d (p:=⟨w.heap.size+1,0,none⟩) (Nat.le_succ _) (.bool false);have k9:=qBe E 0 (.bool false);have ay:=(KeepsOthers.setCell V ⟨w.heap.size+1,0,none⟩ (.bool false)).same D _ hK rfl;have⟨X,aN,aC,a4,b2,az,ci⟩:=hyd7 d E aB a3 k9 ay hK;clear hK ay k9 a3 aB E d;go_wp2;refine qAI w.heap.size [{target:= .collected D,args:=#[]}] _ ⟨⟨D,rfl,by omega,az.out,by simp⟩,trivial⟩ λw9 hb q=>?_;have ar:=qAO (q _ _ b2.out rfl);exact⟨.bool false,by simp[results,Tryz.results45,go_sem,ar],by rw[aC.out],a4.out.trans hb⟩
   case stop=>
    rintro D c C V hD hS ⟨rfl,bp,d,E⟩ hK
    have ac:qEK p l=true:=by
     unfold qEK;rw[anyB_iff];intro h;have:=hS.1;rw[h]at this;exact bp (List.prefix_nil.1 this)
    refine wpIn_wide.2 ?_;have⟨X,aN,aq⟩:=hyd3 d E ac;clear ac E d;go_wp2;refine qAI w.heap.size [{target:= .collected D,args:=#[]}] _ ⟨⟨D,rfl,by omega,hK,by simp⟩,trivial⟩ λw9 hb q=>?_;have ar:=qAO (q _ _ aN.out rfl);exact⟨.bool true,by simp[results,Tryz.results45,go_sem,ar],by rw[aq.out],X.out.trans hb⟩
end Go.Proofs.YtabfaobakmjiaaaGreat
namespace Go.Proofs.YtabfaobakmjiaaaGreat
set_option maxRecDepth 100000
set_option maxHeartbeats 1000000
open Go.RowKit Go.Shelf
set_option linter.unusedVariables false
set_option linter.unusedSimpArgs false
end Go.Proofs.YtabfaobakmjiaaaGreat

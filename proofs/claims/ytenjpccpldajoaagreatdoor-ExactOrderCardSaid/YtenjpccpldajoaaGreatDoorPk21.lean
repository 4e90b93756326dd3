/- Rows of structs: a store into an element; rows of elements that may not be set yet. Polynomials, program side: AddPoly's function. (The regions between --@ARM .. -/
import Derived.Test.YtenjpccpldajoaaGreatDoorPk20
namespace Go.Proofs.YtenjpccpldajoaaGreatDoor
set_option maxRecDepth 100000
open Go.RowKit Go.Shelf
set_option linter.unusedVariables false
set_option linter.unusedSimpArgs false
def setL:List Value→Nat→List Value→List Value
 | l,_,[]=>l
 | l,o,u::us=>setL (l.set o u) (o+1) us
theorem qL0 (c r:List Value):∀(us:List Value) (o:Nat),setL (c++r) (c.length+o) us=c++setL r o us:=by
 intro us
 induction us generalizing r with
 | nil=>intro o;rfl
 | cons u us ih=>
  intro o;show setL ((c++r).set (c.length+o) u) (c.length+o+1) us=c++setL (r.set o u) (o+1) us;rw[List.set_append_right _ _ (by omega),Nat.add_sub_cancel_left,Nat.add_assoc];exact ih (r.set o u) (o+1)
theorem qI4:∀(us c a r:List Value),us.length=c.length→setL (a++(c++r)) a.length us=a++(us++r)
 | [],c,a,r,h=>by
  have:c=[]:=List.eq_nil_of_length_eq_zero (by simpa using h.symm);subst this;rfl
 | u::us,c,a,r,h=>by
  cases c with
  | nil=>simp at h
  | cons x c=>
   show setL ((a++(x::c++r)).set a.length u) (a.length+1) us=_
   rw[List.set_append_right _ _ (by omega),Nat.sub_self];have h1:=qI4 us c (a++[u]) r (by simpa using h);simp only[List.append_assoc,List.singleton_append,List.length_append,List.length_cons,List.length_nil]at h1;simpa using h1
theorem qFj {k:Nat}:∀(css:List (List Value)),(∀c∈css,c.length=k)→∀(i:Nat) (us:List Value),i<css.length→us.length=k→setL css.flatten (i*k) us=(css.set i us).flatten
 | c::cs,h,0,us,_,hu=>by
  have hc:=h c (by simp);have:=qI4 us c [] cs.flatten (by rw[hu,hc]);simpa using this
 | c::cs,h,i+1,us,hi,hu=>by
  have hc:=h c (by simp);have ih:=qFj cs (fun x hx=>h x (by simp[hx])) i us (by simpa using hi) hu;rw[List.flatten_cons,show(i+1)*k=c.length+i*k by rw[hc,Nat.add_mul];omega,qL0,ih];simp
theorem qFk {base:Nat} {e:TypeId} {sz g n cap:Nat}:∀(us:List Value) (o:Nat) (w:World) (xs:List Value),w.ownsRow base e sz (.slice (some ⟨g,0,none⟩) n cap) n xs→(w.setCells g o us).ownsRow base e sz (.slice (some ⟨g,0,none⟩) n cap) n (setL xs o us)
 | [],o,w,xs,h=>h
 | u::us,o,w,xs,h=>qFk us (o+1) _ _ (h.stored o u).1
theorem qIH {p:Value→Prop} {w:World} {v:Value} {g o:Nat} {u:Value} (h:RowAll p w v) (hu:p u):RowAll p (w.setCell ⟨g,o,none⟩ u) v:=by
 intro b cur t hb hc x hx
 by_cases e:b=g
 ·subst e;simp only[World.setCell,Array.getElem?_modify]at hc
  cases hw:w.heap[b]? with
  | none=>rw[hw]at hc;simp at hc
  | some ob=>
   rw[hw]at hc
   cases ob with
   | cells c0 t0 z0=>
    simp at hc;obtain⟨h1,h2,h3⟩:=hc;subst h1 h2 h3;rw[Array.toList_setIfInBounds]at hx
    rcases List.mem_or_eq_of_mem_set hx with h4|rfl
    ·exact h b c0 t0 hb hw x h4
    ·exact hu
   | _=>simp at hc
 ·rw[Below.heap_setCell _ ⟨g,o,none⟩ _ b e]at hc;exact h b cur t hb hc x hx
theorem qEf {p:Value→Prop} {v:Value} {g:Nat}:∀(us:List Value) (o:Nat) (w:World),RowAll p w v→(∀u∈us,p u)→RowAll p (w.setCells g o us) v
 | [],o,w,h,_=>h
 | u::us,o,w,h,hu=>qEf us (o+1) _ (qIH h (hu u (by simp))) (fun x hx=>hu x (by simp[hx]))
theorem qCl {g b:Nat} (hb:b≠g):∀(us:List Value) (o:Nat) (w:World),(w.setCells g o us).heap[b]? =w.heap[b]?
 | [],o,w=>rfl
 | u::us,o,w=>(qCl hb us (o+1) _).trans (Below.heap_setCell _ ⟨g,o,none⟩ _ b hb)
theorem qCm {n g:Nat} (hg:n≤g):∀(us:List Value) (o:Nat) (w W:World),Below n w W→Below n w (W.setCells g o us)
 | [],o,w,W,h=>h
 | u::us,o,w,W,h=>qCm hg us (o+1) w _ (h.setCell (p:=⟨g,o,none⟩) hg u)
theorem RowE.store {α:Type} {K:EK α} {e:TypeId} {base:Nat} {w:World} {g c:Nat} {xs:List α} {n:Nat} (h:RowE K e base w (.slice (some ⟨g,0,none⟩) n c) xs) {i:Nat} (hi:i<xs.length) {cs:List Value} {y:α} (hr:K.rd w cs y):
  RowE K e base (w.setCells g (i*K.sz) cs) (.slice (some ⟨g,0,none⟩) n c) (xs.set i y)∧Kp K.ik w (w.setCells g (i*K.sz) cs):=by
 have hn:=(h.nib (g:=g) rfl).2.2;obtain⟨css,h1,h2,h3,h4⟩:=h;have hcl:=qIC h1 h4
 have hnx:n=xs.length:=by
  rcases h2.2 with⟨hv,-⟩| ⟨g',cap,cur,hv,-⟩
  ·cases hv
  ·injection hv
 subst hnx;have hk:=(qEl (k:=K.ik) cs w (i*K.sz) hn (K.ni hr)).1;refine⟨⟨css.set i cs,by simp[h1],?_,qEf cs _ w h3 (K.ni hr),fun j hj=>?_⟩,hk⟩
 ·have:=qFk cs (i*K.sz) w css.flatten h2;rw[qFj css hcl i cs (by omega) (K.len hr)]at this;rw[List.length_set];exact this
 ·have hj2:j<xs.length:=by simpa using hj
  rw[List.getD_eq_getElem?_getD,List.getElem?_set,List.getElem_set]
  by_cases e2:i=j
  ·subst e2;rw[if_pos rfl,if_pos rfl,if_pos (by omega)];exact K.kp hr hk
  ·rw[if_neg e2,if_neg e2,←List.getD_eq_getElem?_getD];exact K.kp (h4 j hj2) hk
def optK {α:Type} (K:EK α) (zs:List Value) (hz:zs.length=K.sz) (h1:∀u∈zs,u.oneCell'=true) (hn:∀u∈zs,NI K.ik u):EK (Option α) where
 ik:=K.ik
 sz:=K.sz
 pos:=K.pos
 small:=K.small
 rd w cs o:=match o with
  | some a=>K.rd w cs a
  | none=>cs=zs
 len:=by
  intro w cs o h
  cases o with
  | some a=>exact K.len h
  | none=>change cs=zs at h;subst h;exact hz
 one:=by
  intro w cs o h
  cases o with
  | some a=>exact K.one h
  | none=>change cs=zs at h;subst h;exact h1
 ni:=by
  intro w cs o h
  cases o with
  | some a=>exact K.ni h
  | none=>change cs=zs at h;subst h;exact hn
 kp:=by
  intro w W cs o h hk
  cases o with
  | some a=>exact K.kp h hk
  | none=>exact h
def ratO (k:IntKind):EK (Option Rat):=optK (ratK k) [.bool false,.slice none 0 0,.slice none 0 0] rfl (fun u hu=>by simp only[List.mem_cons,List.not_mem_nil,or_false]at hu;rcases hu with rfl|rfl|rfl<;>rfl)
 (fun u hu=>by simp only[List.mem_cons,List.not_mem_nil,or_false]at hu;rcases hu with rfl|rfl|rfl<;>first |exact qAV _|exact qAK _ _ _)
theorem RowE.allSet {k:IntKind} {e:TypeId} {base:Nat} {w:World} {v:Value} {os:List (Option Rat)} {xs:List Rat} (h:RowE (ratO k) e base w v os) (ho:os=xs.map some):RowE (ratK k) e base w v xs:=by
 subst ho;obtain⟨css,h1,h2,h3,h4⟩:=h;rw[List.length_map]at h1 h2;refine⟨css,h1,h2,h3,fun j hj=>?_⟩;have:=h4 j (by simpa using hj);simp only[List.getElem_map]at this;exact this
set_option maxHeartbeats 2000000
theorem RowE.num {α:Type} {K:EK α} {e:TypeId} {base:Nat} {w:World} {A:Option Addr} {n c:Nat} {xs:List α} (h:RowE K e base w (.slice A n c) xs):n=xs.length:=by
 obtain⟨A',c',e⟩:=h.slice;injection e
theorem RowE.frz {α:Type} {K:EK α} {e:TypeId} {base:Nat} {w:World} {g n c:Nat} {xs:List α} (h:RowE K e base w (.slice (some ⟨g,0,none⟩) n c) xs) (j:Nat):w.frozen? ⟨g,j,none⟩=false:=by
 have hn:=h.num;subst hn;obtain⟨css,h1,h2,-⟩:=h;exact h2.frozenAt j
def MPred.poly (B:Nat) (p:List FracA):MPred:=⟨fun v w=>∃xs,qAc p= .ok xs∧RowE (ratK .u32) 70 B w v xs,fun _ _ _ hb ⟨xs,h1,h2⟩=>⟨xs,h1,h2.le hb⟩⟩
def MPred.ratU (r:Rat):MPred:=⟨fun v w=>RatL (fun _=>True) .u32 w v r,fun _ _ _ hb h=>h.le hb⟩
theorem RatL.frm {L:Nat→Prop} {k:IntKind} {w:World} {v:Value} {r:Rat} (h:RatL L k w v r):∃s A n c B m d,v= .agg #[.bool s,.slice A n c,.slice B m d]:=by
 obtain⟨vn,vd,rfl,⟨A,c,rfl,-⟩,⟨B,d,rfl,-⟩⟩:=h;exact⟨_,_,_,_,_,_,_,rfl⟩
def GTwo:JRel:=fun D x W=>(D 3=true→D 1=true)∧(D 3=true→∀g,(x 3).ownBlock =some g→(x 1).ownBlock ≠some g)
theorem GTwo.start {W:World}:∀D x,(∀j,j<6→D j=false)→GTwo D x W:=fun D x h=>⟨fun k=>(by rw[h 3 (by decide)]at k;cases k),fun k=>(by rw[h 3 (by decide)]at k;cases k)⟩
theorem GTwo.keep {D:Nat→Bool} {x:Nat→Value} {W W':World} {i:Nat} {v:Value} (h:GTwo D x W) (h1:i≠1) (h3:i≠3):GTwo (updB D i) (updV x i v) W':=by
 unfold GTwo updB updV;rw[if_neg (Ne.symm h3),if_neg (Ne.symm h3),if_neg (Ne.symm h1),if_neg (Ne.symm h1)];exact h
theorem GTwo.one {D:Nat→Bool} {x:Nat→Value} {W W':World} {v:Value} (h:GTwo D x W) (hD:D 1=false):GTwo (updB D 1) (updV x 1 v) W':=by
 have h3:D 3=false:=by
  cases e:D 3 with
  | false=>rfl
  | true=>have:=h.1 e;rw[hD]at this;cases this
 unfold GTwo updB updV;simp[h3]
theorem GTwo.two {D:Nat→Bool} {x:Nat→Value} {W':World} {v:Value} (hD:D 1=true) (hn:∀g,v.ownBlock=some g→(x 1).ownBlock ≠some g):GTwo (updB D 3) (updV x 3 v) W':=by
 unfold GTwo updB updV;simp[hD];exact hn
noncomputable def addF (p q:List FracA):Except Int (List Rat×List Rat):=
 match qAc p with
 | .error z=> .error z
 | .ok x=>match qAc q with
  | .error z=> .error z
  | .ok y=> .ok (x,y)
theorem qNi {p q:List FracA} {z:Int} (h:qAc p= .error z):addF p q= .error z:=by unfold addF;rw[h]
theorem qNj {p q:List FracA} {x:List Rat} {z:Int} (h:qAc p= .ok x) (h2:qAc q= .error z):addF p q= .error z:=by unfold addF;rw[h,h2]
theorem qMb {x:FracA} {r:Rat} (h:inE x= .ok r):Rsz r 40:=by
 unfold inE at h
 cases hr:x.rat? with
 | none=>rw[hr]at h;cases h
 | some r'=>
  rw[hr]at h;injection h with h;subst h;exact(FracA.val hr).sz
theorem qGh {α β:Type} {f:α→Except Int β}:∀{l:List α} {ys:List β},mapE f l= .ok ys→∀y∈ys,∃x∈l,f x= .ok y
 | [],ys,h,y,hy=>by
  have:ys=[]:=by simpa[mapE]using h.symm
  subst this;cases hy
 | a::l,ys,h,y,hy=>by
  cases ha:f a with
  | error z=>simp[mapE,ha]at h
  | ok b=>
   cases hl:mapE f l with
   | error z=>simp[mapE,ha,hl]at h
   | ok bs=>
    have:b::bs=ys:=by simpa[mapE,ha,hl]using h
    subst this;simp only[List.mem_cons]at hy
    rcases hy with rfl|hy
    ·exact⟨a,by simp,ha⟩
    ·obtain⟨x,hx,hf⟩:=qGh hl y hy;exact⟨x,by simp[hx],hf⟩
theorem qCD {p:List FracA} {xs:List Rat} (h:qAc p= .ok xs):xs.length≤65∧(∀r∈xs,Rsz r 40)∧qAZ xs=true:=by
 unfold qAc at h
 split at h
 ·cases h
 ·cases hm:mapE inE p with
  | error z=>rw[hm]at h;cases h
  | ok rs=>
   rw[hm]at h;dsimp only at h
   split at h
   ·injection h with h;subst h;refine⟨by rw[qDm hm];omega,fun r hr=>?_,by assumption⟩;obtain⟨x,-,hx⟩:=qGh hm r hr;exact qMb hx
   ·cases h
theorem qDC {r:Rat} {m n:Nat} (h:Rsz r m) (hmn:m≤n):Rsz r n:=⟨Nat.le_trans h.1 hmn,Nat.le_trans h.2 hmn⟩
theorem qNk:Rsz 0 1:=by
 have h1:rnum (0:Rat)=0:=by decide+kernel
 have h2:(0:Rat).den =1:=by decide+kernel
 unfold Rsz;rw[h1,h2,qA4,qCV]
 decide
theorem qOi {xs:List Rat} {n:Nat} (h:∀r∈xs,Rsz r n) (hn:1≤n) (j:Nat):Rsz (xs.getD j 0) n:=by
 rw[List.getD_eq_getElem?_getD]
 cases e:xs[j]? with
 | none=>exact qDC qNk hn
 | some r=>exact h r (List.mem_of_getElem? e)
theorem qPR {a b:Rat} {m n:Nat} (ha:Rsz a m) (hb:Rsz b n):Rsz (a*b) (m+n):=by
 have ha1:=ha.1;have ha2:=ha.2;have hb1:=hb.1;have hb2:=hb.2;rw[←qHt];obtain⟨q1,q2⟩:=qDF (rneg a != rneg b) (rnum a*rnum b) (a.den*b.den) (Nat.ne_of_gt (Nat.mul_pos (qAU a) (qAU b)));have m1:=qAN (rnum a) (rnum b);have m2:=qAN a.den b.den;exact⟨by omega,by omega⟩
theorem qMc (z:Array Value) (zs:List Value) (hz:z.toList=zs) (h0:0<zs.length) (n:Nat):(madeCells z (n*zs.length)).toList =(List.replicate n zs).flatten :=by
 subst hz
 have hmod:∀i,(madeCells z (n*z.toList.length)).toList[i]? =if i<n*z.toList.length then some (z[i%z.size]!)else none:=fun i=>by
  unfold madeCells;simp only[Array.toList_map,Array.toList_range,List.getElem?_map,List.getElem?_range']
  split<;>rename_i h
  ·rw[List.getElem?_range h];rfl
  ·rw[List.getElem?_eq_none (by simp;simpa using h)];rfl
 have hflat:∀(n i:Nat),((List.replicate n z.toList).flatten)[i]? =if i<n*z.toList.length then some (z[i%z.size]!)else none:=by
  intro n
  induction n with
  | zero=>intro i;simp
  | succ n ih=>
   intro i;rw[List.replicate_succ,List.flatten_cons,List.getElem?_append];have hs:z.toList.length=z.size:=Array.length_toList
   by_cases h:i<z.toList.length
   ·rw[if_pos h,if_pos (by rw[Nat.add_mul];omega),Nat.mod_eq_of_lt (by omega)];have h2:i<z.size:=by omega
    rw[Array.getElem?_toList,Array.getElem?_eq_getElem h2,Array.getElem!_eq_getD,Array.getD_eq_getD_getElem?,Array.getElem?_eq_getElem h2];rfl
   ·rw[if_neg h,ih];have e:(i - z.toList.length)%z.size=i%z.size:=by rw[hs];exact(Nat.mod_eq_sub_mod (by omega)).symm
    rw[e]
    by_cases h3:i<(n+1)*z.toList.length
    ·rw[if_pos h3,if_pos (by rw[Nat.add_mul]at h3;omega)]
    ·rw[if_neg h3,if_neg (by rw[Nat.add_mul]at h3;omega)]
 refine List.ext_getElem? fun i=>?_;rw[hmod,hflat]
theorem qJ7 {k:IntKind} {P:Program} (w:World) {ops:Array Oper} {rest:List Oper} {o:Oper} {a:Act} {Q:Exit→Act→World→Prop}
  (hg:o.guard=none) (l c:Operand) (t:TypeId) (hop:o.op=Op.makeSlice t l c) (base:Nat) (e:TypeId) (bytes:Nat) (ht:P.underlying t=some (.slice e))
  (hinfo:(P.info? e).map (fun i=>(i.zero,i.size,i.bytes))=some (some (.agg #[.bool false,.slice none 0 0,.slice none 0 0]),3,bytes)) (hby:bytes≤100)
  (n:Nat) (hl:a.eval l= .int .i64 (n:Int)) (hc:a.eval c= .int .i64 (n:Int)) (hn:n≤1000000) (b4:base≤w.heap.size)
  (hK:∀w',RowE (ratO k) e base w' (.slice (some ⟨w.heap.size,0,none⟩) n n) (List.replicate n none)→Below w.heap.size w w'→w.heap.size<w'.heap.size→wpList P ops Q rest (a.put o.dst (.slice (some ⟨w.heap.size,0,none⟩) n n)) w'):
  wpList P ops Q (o::rest) a w:=by
 obtain⟨i,hi,hz0,hz1,hzb⟩:∃i,P.info? e=some i∧i.zero=some (.agg #[.bool false,.slice none 0 0,.slice none 0 0])∧i.size=3∧i.bytes=bytes:=by
  cases hq:P.info? e with
  | none=>rw[hq]at hinfo;cases hinfo
  | some i=>
   rw[hq]at hinfo;simp only[Option.map_some,Option.some.injEq,Prod.mk.injEq]at hinfo;exact⟨i,rfl,hinfo.1,hinfo.2.1,hinfo.2.2⟩
 refine wpList_make_full w hg l c t hop base e i _ 3 ht hi hz0 hz1 .i64 .i64 _ _ n hl hc rfl rfl (by rw[hzb];exact Nat.le_trans (Nat.mul_le_mul hby hn) (by decide)) (by unfold maxLen;omega) b4 ?_;intro w' h1 h2;refine hK w' ?_ ((Below.refl _ _).grown h2 (Nat.le_refl _) (by simp)) ((h1.lt w.heap.size rfl).2);have hmf:=qMc #[.bool false,.slice none 0 0,.slice none 0 0] _ rfl (by decide) n
 have h1':w'.ownsRow base e 3 (.slice (some ⟨w.heap.size,0,none⟩) n n) n ((List.replicate n [Value.bool false,.slice none 0 0,.slice none 0 0]).flatten):=by
  have h3:=h1;change w'.ownsRow base e 3 _ n (madeCells #[.bool false,.slice none 0 0,.slice none 0 0] (n*3)).toList at h3;rw[show n*3=n*([Value.bool false,.slice none 0 0,.slice none 0 0]:List Value).length from rfl,hmf]at h3;exact h3
 refine⟨List.replicate n [.bool false,.slice none 0 0,.slice none 0 0],by simp,by rw[List.length_replicate];exact h1',?_,fun j hj=>?_⟩
 ·intro g cur t' hg' hc' u hu
  rcases h1'.2 with⟨hv,-⟩| ⟨g2,cap,cur2,hv,-,hh,hnc,-,hsz,htk⟩
  ·cases hv
  ·injection hv with e1 e2 e3;injection e1 with e1;injection e1 with e1;subst e1 e3;have:w.heap.size=g:=by simpa[Value.ownBlock]using hg'
   subst this;rw[hh]at hc';injection hc' with hc';injection hc' with hc1 hc2;subst hc1;rw[List.take_of_length_le (by rw[Array.length_toList,hsz];exact Nat.le_refl _)]at htk;rw[htk,List.mem_flatten]at hu;obtain⟨l,hl1,hl2⟩:=hu;rw[List.mem_replicate]at hl1;rw[hl1.2]at hl2;simp only[List.mem_cons,List.not_mem_nil,or_false]at hl2
   rcases hl2 with rfl|rfl|rfl<;>first |exact qAV _|exact qAK _ _ _
 ·have hj2:j<n:=by simpa using hj
  rw[List.getD_eq_getElem?_getD,List.getElem?_replicate,if_pos hj2,List.getElem_replicate];exact rfl
def cv (x y:List Rat):Nat→Nat→Rat
 | 0,_=>0
 | i+1,j=>cv x y i j+if i≤j∧j - i<y.length then x.getD i 0*y.getD (j - i) 0 else 0
set_option maxHeartbeats 4000000
theorem qNl:(Tryz.prog.info? 70).map (fun i=>(i.zero,i.size,i.bytes))=some (some (.agg #[.bool false,.slice none 0 0,.slice none 0 0]),3,56):=by kernel_rfl
end Go.Proofs.YtenjpccpldajoaaGreatDoor

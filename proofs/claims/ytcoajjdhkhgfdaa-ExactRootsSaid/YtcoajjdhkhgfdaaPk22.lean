/- Rows of structs: a store into an element; rows of elements that may not be set yet. Polynomials, program side: AddPoly's function. (The regions between --@ARM .. -/
import Derived.Test.YtcoajjdhkhgfdaaPk21
namespace Go.Proofs.Ytcoajjdhkhgfdaa
set_option maxRecDepth 100000
open Go.RowKit Go.Shelf
set_option linter.unusedVariables false
set_option linter.unusedSimpArgs false
def setL:List Value->Nat->List Value->List Value
 | l,_,[]=>l
 | l,o,u::us=>setL (l.set o u) (o+1) us
theorem qJ1 (c r:List Value):∀(us:List Value) (o:Nat),setL (c++r) (c.length+o) us=c++setL r o us:=by
 intro us
 induction us generalizing r with
 | nil=>intro o;rfl
 | cons u us ih=>
  intro o;show setL ((c++r).set (c.length+o) u) (c.length+o+1) us=c++setL (r.set o u) (o+1) us;rw[List.set_append_right _ _ (by omega),Nat.add_sub_cancel_left,Nat.add_assoc];exact ih (r.set o u) (o+1)
theorem qHK:∀(us c a r:List Value),us.length=c.length->setL (a++(c++r)) a.length us=a++(us++r)
 | [],c,a,r,h=>by
  have:c=[]:=List.eq_nil_of_length_eq_zero (by simpa using h.symm);subst this;rfl
 | u::us,c,a,r,h=>by
  cases c with
  | nil=>simp at h
  | cons x c=>
   show setL ((a++(x::c++r)).set a.length u) (a.length+1) us=_
   rw[List.set_append_right _ _ (by omega),Nat.sub_self];have h1:=qHK us c (a++[u]) r (by simpa using h);simp only[List.append_assoc,List.singleton_append,List.length_append,List.length_cons,List.length_nil]at h1;simpa using h1
theorem qEw {k:Nat}:∀(css:List (List Value)),(∀c∈css,c.length=k)->∀(i:Nat) (us:List Value),i<css.length->us.length=k->setL css.flatten (i*k) us=(css.set i us).flatten
 | c::cs,h,0,us,_,hu=>by
  have hc:=h c (by simp);have:=qHK us c [] cs.flatten (by rw[hu,hc]);simpa using this
 | c::cs,h,i+1,us,hi,hu=>by
  have hc:=h c (by simp);have ih:=qEw cs (λx hx=>h x (by simp[hx])) i us (by simpa using hi) hu;rw[List.flatten_cons,show(i+1)*k=c.length+i*k by rw[hc,Nat.add_mul];omega,qJ1,ih];simp
theorem qEx {base:Nat} {e:TypeId} {sz g n cap:Nat}:∀(us:List Value) (o:Nat) (w:World) (xs:List Value),w.ownsRow base e sz (.slice (some ⟨g,0,none⟩) n cap) n xs->(w.setCells g o us).ownsRow base e sz (.slice (some ⟨g,0,none⟩) n cap) n (setL xs o us)
 | [],o,w,xs,h=>h
 | u::us,o,w,xs,h=>qEx us (o+1) _ _ (h.stored o u).1
theorem qGq {p:Value->Prop} {w:World} {v:Value} {g o:Nat} {u:Value} (h:RowAll p w v) (hu:p u):RowAll p (w.setCell ⟨g,o,none⟩ u) v:=by
 intro b d t i c x f
 by_cases e:b=g
 ·subst e;simp only[World.setCell,Array.getElem?_modify]at c
  cases hw:w.heap[b]? with
  | none=>rw[hw]at c;simp at c
  | some ob=>
   rw[hw]at c
   cases ob with
   | cells c0 t0 z0=>
    simp at c;obtain⟨j,k,l⟩:=c;subst j k l;rw[Array.toList_setIfInBounds]at f
    rcases List.mem_or_eq_of_mem_set f with h4|rfl
    ·exact h b c0 t0 i hw x h4
    ·exact hu
   | _=>simp at c
 ·rw[Below.heap_setCell _ ⟨g,o,none⟩ _ b e]at c;exact h b d t i c x f
theorem qDp {p:Value->Prop} {v:Value} {g:Nat}:∀(us:List Value) (o:Nat) (w:World),RowAll p w v->(∀u∈us,p u)->RowAll p (w.setCells g o us) v
 | [],o,w,h,_=>h
 | u::us,o,w,h,hu=>qDp us (o+1) _ (qGq h (hu u (by simp))) (λx hx=>hu x (by simp[hx]))
theorem qBH {g b:Nat} (hb:b≠g):∀(us:List Value) (o:Nat) (w:World),(w.setCells g o us).heap[b]? =w.heap[b]?
 | [],o,w=>rfl
 | u::us,o,w=>(qBH hb us (o+1) _).trans (Below.heap_setCell _ ⟨g,o,none⟩ _ b hb)
theorem qAu {n g:Nat} (hg:n<=g):∀(us:List Value) (o:Nat) (w W:World),Below n w W->Below n w (W.setCells g o us)
 | [],o,w,W,h=>h
 | u::us,o,w,W,h=>qAu hg us (o+1) w _ (h.setCell (p:=⟨g,o,none⟩) hg u)
theorem RowE.store {α:Type} {K:EK α} {e:TypeId} {base:Nat} {w:World} {g c:Nat} {xs:List α} {n:Nat} (h:RowE K e base w (.slice (some ⟨g,0,none⟩) n c) xs) {i:Nat} (hi:i<xs.length) {cs:List Value} {y:α} (hr:K.rd w cs y):
  RowE K e base (w.setCells g (i*K.sz) cs) (.slice (some ⟨g,0,none⟩) n c) (xs.set i y)/\Kp K.ik w (w.setCells g (i*K.sz) cs):=by
 have v:=(h.nib (g:=g) rfl).2.2;obtain⟨b,p,q,s,r⟩:=h;have f:=qFT p r
 have o:n=xs.length:=by
  rcases q.2 with⟨hv,-⟩| ⟨g',cap,cur,hv,-⟩
  ·cases hv
  ·injection hv
 subst o;have m:=(qCX (k:=K.ik) cs w (i*K.sz) v (K.ni hr)).1;refine⟨⟨b.set i cs,by simp[p],?_,qDp cs _ w s (K.ni hr),λj t=>?_⟩,m⟩
 ·have:=qEx cs (i*K.sz) w b.flatten q;rw[qEw b f i cs (by omega) (K.len hr)]at this;rw[List.length_set];exact this
 ·have l:j<xs.length:=by simpa using t
  rw[List.getD_eq_getElem?_getD,List.getElem?_set,List.getElem_set]
  by_cases d:i=j
  ·subst d;rw[if_pos rfl,if_pos rfl,if_pos (by omega)];exact K.kp hr m
  ·rw[if_neg d,if_neg d,<-List.getD_eq_getElem?_getD];exact K.kp (r j l) m
def optK {α:Type} (K:EK α) (zs:List Value) (hz:zs.length=K.sz) (h1:∀u∈zs,u.oneCell'=true) (hn:∀u∈zs,NI K.ik u):EK (Option α) where
 ik:=K.ik
 sz:=K.sz
 pos:=K.pos
 small:=K.small
 rd w cs o:=match o with
  | some a=>K.rd w cs a
  | none=>cs=zs
 len:=by
  intro w cs o h
  cases o with
  | some a=>exact K.len h
  | none=>change cs=zs at h;subst h;exact hz
 one:=by
  intro w cs o h
  cases o with
  | some a=>exact K.one h
  | none=>change cs=zs at h;subst h;exact h1
 ni:=by
  intro w cs o h
  cases o with
  | some a=>exact K.ni h
  | none=>change cs=zs at h;subst h;exact hn
 kp:=by
  intro w W cs o h hk
  cases o with
  | some a=>exact K.kp h hk
  | none=>exact h
def ratO (k:IntKind):EK (Option Rat):=optK (ratK k) [.bool false,.slice none 0 0,.slice none 0 0] rfl (λu hu=>by simp only[List.mem_cons,List.not_mem_nil,or_false]at hu;rcases hu with rfl|rfl|rfl<;>rfl)
 (λu hu=>by simp only[List.mem_cons,List.not_mem_nil,or_false]at hu;rcases hu with rfl|rfl|rfl<;>first |exact qAO _|exact qAF _ _ _)
theorem RowE.allSet {k:IntKind} {e:TypeId} {base:Nat} {w:World} {v:Value} {os:List (Option Rat)} {xs:List Rat} (h:RowE (ratO k) e base w v os) (ho:os=xs.map some):RowE (ratK k) e base w v xs:=by
 subst ho;obtain⟨b,c,d,f,g⟩:=h;rw[List.length_map]at c d;refine⟨b,c,d,f,λj i=>?_⟩;have:=g j (by simpa using i);simp only[List.getElem_map]at this;exact this
theorem RowE.num {α:Type} {K:EK α} {e:TypeId} {base:Nat} {w:World} {A:Option Addr} {n c:Nat} {xs:List α} (h:RowE K e base w (.slice A n c) xs):n=xs.length:=by
 obtain⟨b,d,e⟩:=h.slice;injection e
theorem RowE.frz {α:Type} {K:EK α} {e:TypeId} {base:Nat} {w:World} {g n c:Nat} {xs:List α} (h:RowE K e base w (.slice (some ⟨g,0,none⟩) n c) xs) (j:Nat):w.frozen? ⟨g,j,none⟩=false:=by
 have f:=h.num;subst f;obtain⟨b,i,d,-⟩:=h;exact d.frozenAt j
def MPred.ratU (r:Rat):MPred:=⟨λv w=>RatL (λ_=>True) .u32 w v r,λ_ _ _ hb h=>h.le hb⟩
theorem RatL.frm {L:Nat->Prop} {k:IntKind} {w:World} {v:Value} {r:Rat} (h:RatL L k w v r):∃s A n c B m d,v= .agg #[.bool s,.slice A n c,.slice B m d]:=by
 obtain⟨f,b,rfl,⟨A,c,rfl,-⟩,⟨B,d,rfl,-⟩⟩:=h;exact⟨_,_,_,_,_,_,_,rfl⟩
theorem qKO {x:FracA} {r:Rat} (h:inE x= .ok r):Rsz r 40:=by
 unfold inE at h
 cases hr:x.rat? with
 | none=>rw[hr]at h;cases h
 | some r'=>
  rw[hr]at h;injection h with h;subst h;exact(FracA.val hr).sz
theorem qFn {α β:Type} {f:α->Except Int β}:∀{l:List α} {ys:List β},mapE f l= .ok ys->∀y∈ys,∃x∈l,f x= .ok y
 | [],ys,h,y,hy=>by
  have:ys=[]:=by simpa[mapE]using h.symm
  subst this;cases hy
 | a::l,ys,h,y,hy=>by
  cases ha:f a with
  | error z=>simp[mapE,ha]at h
  | ok b=>
   cases hl:mapE f l with
   | error z=>simp[mapE,ha,hl]at h
   | ok bs=>
    have:b::bs=ys:=by simpa[mapE,ha,hl]using h
    subst this;simp only[List.mem_cons]at hy
    rcases hy with rfl|hy
    ·exact⟨a,by simp,ha⟩
    ·obtain⟨x,d,c⟩:=qFn hl y hy;exact⟨x,by simp[d],c⟩
theorem qBA {p:List FracA} {xs:List Rat} (h:qA7 p= .ok xs):xs.length<=65/\(∀r∈xs,Rsz r 40)/\qAD xs=true:=by
 unfold qA7 at h
 split at h
 ·cases h
 ·cases hm:mapE inE p with
  | error z=>rw[hm]at h;cases h
  | ok rs=>
   rw[hm]at h;dsimp only at h
   split at h
   ·injection h with h;subst h;refine⟨by rw[qDF hm];omega,λr b=>?_,by assumption⟩;obtain⟨x,-,c⟩:=qFn hm r b;exact qKO c
   ·cases h
theorem qA0 {r:Rat} {m n:Nat} (h:Rsz r m) (hmn:m<=n):Rsz r n:=⟨Nat.le_trans h.1 hmn,Nat.le_trans h.2 hmn⟩
theorem qLI:Rsz 0 1:=by
 have b:rnum (0:Rat)=0:=by decide+kernel
 have c:(0:Rat).den =1:=by decide+kernel
 unfold Rsz;rw[b,c,qA1,qGH]
 decide
theorem qEJ {xs:List Rat} {n:Nat} (h:∀r∈xs,Rsz r n) (hn:1<=n) (j:Nat):Rsz (xs.getD j 0) n:=by
 rw[List.getD_eq_getElem?_getD]
 cases e:xs[j]? with
 | none=>exact qA0 qLI hn
 | some r=>exact h r (List.mem_of_getElem? e)
theorem qHy {a b:Rat} {m n:Nat} (ha:Rsz a m) (hb:Rsz b n):Rsz (a*b) (m+n):=by
 have c:=ha.1;have d:=ha.2;have f:=hb.1;have g:=hb.2;rw[<-qGf];obtain⟨j,q2⟩:=qGh (rneg a != rneg b) (rnum a*rnum b) (a.den*b.den) (Nat.ne_of_gt (Nat.mul_pos (qA3 a) (qA3 b)));have h:=qAK (rnum a) (rnum b);have i:=qAK a.den b.den;exact⟨by omega,by omega⟩
theorem qKP (z:Array Value) (zs:List Value) (hz:z.toList=zs) (h0:0<zs.length) (n:Nat):(madeCells z (n*zs.length)).toList =(List.replicate n zs).flatten :=by
 subst hz
 have c:∀i,(madeCells z (n*z.toList.length)).toList[i]? =if i<n*z.toList.length then some (z[i%z.size]!)else none:=λi=>by
  unfold madeCells;simp only[Array.toList_map,Array.toList_range,List.getElem?_map,List.getElem?_range']
  split<;>rename_i h
  ·rw[List.getElem?_range h];rfl
  ·rw[List.getElem?_eq_none (by simp;simpa using h)];rfl
 have b:∀(n i:Nat),((List.replicate n z.toList).flatten)[i]? =if i<n*z.toList.length then some (z[i%z.size]!)else none:=by
  intro n
  induction n with
  | zero=>intro i;simp
  | succ n ih=>
   intro i;rw[List.replicate_succ,List.flatten_cons,List.getElem?_append];have g:z.toList.length=z.size:=Array.length_toList
   by_cases h:i<z.toList.length
   ·rw[if_pos h,if_pos (by rw[Nat.add_mul];omega),Nat.mod_eq_of_lt (by omega)];have f:i<z.size:=by omega
    rw[Array.getElem?_toList,Array.getElem?_eq_getElem f,Array.getElem!_eq_getD,Array.getD_eq_getD_getElem?,Array.getElem?_eq_getElem f];rfl
   ·rw[if_neg h,ih];have e:(i - z.toList.length)%z.size=i%z.size:=by rw[g];exact(Nat.mod_eq_sub_mod (by omega)).symm
    rw[e]
    by_cases d:i<(n+1)*z.toList.length
    ·rw[if_pos d,if_pos (by rw[Nat.add_mul]at d;omega)]
    ·rw[if_neg d,if_neg (by rw[Nat.add_mul]at d;omega)]
 refine List.ext_getElem? λi=>?_;rw[c,b]
theorem qEy {k:IntKind} {P:Program} (w:World) {ops:Array Oper} {rest:List Oper} {o:Oper} {a:Act} {Q:Exit->Act->World->Prop}
  (hg:o.guard=none) (l c:Operand) (t:TypeId) (hop:o.op=Op.makeSlice t l c) (base:Nat) (e:TypeId) (bytes:Nat) (ht:P.underlying t=some (.slice e))
  (hinfo:(P.info? e).map (λi=>(i.zero,i.size,i.bytes))=some (some (.agg #[.bool false,.slice none 0 0,.slice none 0 0]),3,bytes)) (hby:bytes<=100)
  (n:Nat) (hl:a.eval l= .int .i64 (n:Int)) (hc:a.eval c= .int .i64 (n:Int)) (hn:n<=1000000) (b4:base<=w.heap.size)
  (hK:∀w',RowE (ratO k) e base w' (.slice (some ⟨w.heap.size,0,none⟩) n n) (List.replicate n none)->Below w.heap.size w w'->w.heap.size<w'.heap.size->wpList P ops Q rest (a.put o.dst (.slice (some ⟨w.heap.size,0,none⟩) n n)) w'):
  wpList P ops Q (o::rest) a w:=by
 obtain⟨i,C,s,v,x⟩:∃i,P.info? e=some i/\i.zero=some (.agg #[.bool false,.slice none 0 0,.slice none 0 0])/\i.size=3/\i.bytes=bytes:=by
  cases hq:P.info? e with
  | none=>rw[hq]at hinfo;cases hinfo
  | some i=>
   rw[hq]at hinfo;simp only[Option.map_some,Option.some.injEq,Prod.mk.injEq]at hinfo;exact⟨i,rfl,hinfo.1,hinfo.2.1,hinfo.2.2⟩
 refine wpList_make_full w hg l c t hop base e i _ 3 ht C s v .i64 .i64 _ _ n hl hc rfl rfl (by rw[x];exact Nat.le_trans (Nat.mul_le_mul hby hn) (by decide)) (by unfold maxLen;omega) b4 ?_;intro w' y B;refine hK w' ?_ ((Below.refl _ _).grown B (Nat.le_refl _) (by simp)) ((y.lt w.heap.size rfl).2);have r:=qKP #[.bool false,.slice none 0 0,.slice none 0 0] _ rfl (by decide) n
 have f:w'.ownsRow base e 3 (.slice (some ⟨w.heap.size,0,none⟩) n n) n ((List.replicate n [Value.bool false,.slice none 0 0,.slice none 0 0]).flatten):=by
  have m:=y;change w'.ownsRow base e 3 _ n (madeCells #[.bool false,.slice none 0 0,.slice none 0 0] (n*3)).toList at m;rw[show n*3=n*([Value.bool false,.slice none 0 0,.slice none 0 0]:List Value).length from rfl,r]at m;exact m
 refine⟨List.replicate n [.bool false,.slice none 0 0,.slice none 0 0],by simp,by rw[List.length_replicate];exact f,?_,λj D=>?_⟩
 ·intro g A E p b u z
  rcases f.2 with⟨hv,-⟩| ⟨g2,cap,cur2,hv,-,hh,hnc,-,hsz,htk⟩
  ·cases hv
  ·injection hv with e1 e2 e3;injection e1 with e1;injection e1 with e1;subst e1 e3;have:w.heap.size=g:=by simpa[Value.ownBlock]using p
   subst this;rw[hh]at b;injection b with b;injection b with hc1 hc2;subst hc1;rw[List.take_of_length_le (by rw[Array.length_toList,hsz];exact Nat.le_refl _)]at htk;rw[htk,List.mem_flatten]at z;obtain⟨l,h,d⟩:=z;rw[List.mem_replicate]at h;rw[h.2]at d;simp only[List.mem_cons,List.not_mem_nil,or_false]at d
   rcases d with rfl|rfl|rfl<;>first |exact qAO _|exact qAF _ _ _
 ·have q:j<n:=by simpa using D
  rw[List.getD_eq_getElem?_getD,List.getElem?_replicate,if_pos q,List.getElem_replicate];exact rfl
def cv (x y:List Rat):Nat->Nat->Rat
 | 0,_=>0
 | i+1,j=>cv x y i j+if i<=j/\j - i<y.length then x.getD i 0*y.getD (j - i) 0 else 0
theorem qLJ:(Try.prog.info? 57).map (λi=>(i.zero,i.size,i.bytes))=some (some (.agg #[.bool false,.slice none 0 0,.slice none 0 0]),3,56):=by kernel_rfl
end Go.Proofs.Ytcoajjdhkhgfdaa

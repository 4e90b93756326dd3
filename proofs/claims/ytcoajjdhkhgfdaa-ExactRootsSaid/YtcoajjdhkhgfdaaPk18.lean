/- Rows of structs whose elements lead to numbers (fractions, integers): how they read, what keeps them, append, store, prefixes. reference 1: fractions: Order. .. -/
import Derived.Test.YtcoajjdhkhgfdaaPk16
import Derived.Test.YtcoajjdhkhgfdaaPk17
import Derived.Laws.IdiomCopy
namespace Go.Proofs.Ytcoajjdhkhgfdaa
set_option maxRecDepth 100000
open Go.RowKit
set_option linter.unusedVariables false
set_option linter.unusedSimpArgs false
def NI (k:IntKind) (u:Value):Prop:=∀z:Int,u≠ .int k z
def NIB (k:IntKind) (W:World) (b:Nat):Prop:=∃cs t,W.heap[b]? =some (.cells cs t)/\∀u∈cs.toList,NI k u
def Kp (k:IntKind) (w W:World):Prop:=w.heap.size<=W.heap.size/\∀b,b<w.heap.size->W.heap[b]? =w.heap[b]? ∨(NIB k w b/\NIB k W b)
section
variable {k:IntKind}
theorem NIB.eq {w W:World} {b:Nat} (h:NIB k w b) (e:W.heap[b]? =w.heap[b]?):NIB k W b:=by
 obtain⟨c,t,d,f⟩:=h;exact⟨c,t,e.trans d,f⟩
theorem Kp.refl (w:World):Kp k w w:=⟨Nat.le_refl _,λ_ _=> .inl rfl⟩
theorem Kp.trans {a b c:World} (h:Kp k a b) (q:Kp k b c):Kp k a c:=⟨Nat.le_trans h.1 q.1,λi hi=>by
 rcases h.2 i hi with e| ⟨n1,n2⟩
 ·rcases q.2 i (Nat.lt_of_lt_of_le hi h.1)with e2| ⟨n1,n2⟩
  ·exact .inl (e2.trans e)
  ·exact .inr ⟨n1.eq e.symm,n2⟩
 ·rcases q.2 i (Nat.lt_of_lt_of_le hi h.1)with e2| ⟨m1,m2⟩
  ·exact .inr ⟨n1,n2.eq e2⟩
  ·exact .inr ⟨n1,m2⟩⟩
theorem Kp.of_le {w W:World} (h:Le w W):Kp k w W:=⟨h.size,λb hb=> .inl (h.block b hb)⟩
theorem qBy {W:World} {g i:Nat} {u:Value} (h:NIB k W g) (hu:NI k u):NIB k (W.setCell ⟨g,i,none⟩ u) g:=by
 obtain⟨c,t,d,f⟩:=h;refine⟨c.setIfInBounds i u,t,by simp only[World.setCell,Array.getElem?_modify,d];simp,λx b=>?_⟩;rw[Array.toList_setIfInBounds]at b
 rcases List.mem_or_eq_of_mem_set b with h|rfl
 ·exact f x h
 ·exact hu
theorem Kp.set {w W:World} (h:Kp k w W) {g i:Nat} {u:Value} (hg:NIB k W g) (hu:NI k u):Kp k w (W.setCell ⟨g,i,none⟩ u):=
 h.trans ⟨by simp[World.setCell],λb hb=>by
  by_cases e:b=g
  ·subst e;exact .inr ⟨hg,qBy hg hu⟩
  ·exact .inl (Below.heap_setCell _ ⟨g,i,none⟩ _ b e)⟩
theorem qCX {g:Nat}:∀(us:List Value) (W:World) (o:Nat),NIB k W g->(∀u∈us,NI k u)->Kp k W (W.setCells g o us)/\NIB k (W.setCells g o us) g
 | [],W,o,h,_=>⟨Kp.refl W,h⟩
 | u::us,W,o,h,hu=>by
  have h1:Kp k W (W.setCell ⟨g,o,none⟩ u):=(Kp.refl W).set h (hu u (by simp));have h2:=qCX us (W.setCell ⟨g,o,none⟩ u) (o+1) (qBy h (hu u (by simp))) (λx hx=>hu x (by simp[hx]));exact⟨h1.trans h2.1,h2.2⟩
theorem Kp.grown {w W:World} {v:Value} (hg:w.grownBy W v.ownBlock) (h2:∀g,v.ownBlock=some g->g<w.heap.size->NIB k w g/\NIB k W g):Kp k w W:=⟨hg.size,λb hb=>by
 by_cases e:v.ownBlock=some b
 ·exact .inr (h2 b e hb)
 ·exact .inl (hg.block b hb (λh=>e h.symm))⟩
theorem ArrL.kp {α:Type} {L:Nat->Prop} {f:α->Value} {w W:World} {v:Value} {xs:List α} (hf:∀x,∃z,f x= .int k z) (h:ArrL L f w v xs) (hk:Kp k w W):ArrL L f W v xs:=by
 obtain⟨A,c,E,n,o,r,p⟩:=h;refine⟨A,c,E,n,o,r,λl=>?_⟩;obtain⟨b,g,s,B,d,m⟩:=p l
 have D:W.heap[b]? =w.heap[b]? :=by
  rcases hk.2 b d with e| ⟨⟨cs,t,q1,q2⟩,-⟩
  ·exact e
  ·exfalso;have i:=m 0 l;obtain⟨y,F⟩:=hf xs[0];rw[F]at i;simp only[World.cell?,q1]at i;have q:cs[g+0]? =some (.int k y):=by simpa using i
   exact q2 _ (Array.mem_toList_iff.2 (Array.mem_of_getElem? q)) y rfl
 exact⟨b,g,s,B,Nat.lt_of_lt_of_le d hk.1,λj C=>(World.cell?_of_block D).trans (m j C)⟩
theorem NumL.kp {L:Nat->Prop} {w W:World} {v:Value} {n:Nat} (h:NumL L k w v n) (hk:Kp k w W):NumL L k W v n:=ArrL.kp (λx=>⟨_,rfl⟩) h hk
theorem RatL.kp {L:Nat->Prop} {w W:World} {v:Value} {r:Rat} (h:RatL L k w v r) (hk:Kp k w W):RatL L k W v r:=by
 obtain⟨f,d,e,b,c⟩:=h;exact⟨f,d,e,b.kp hk,c.kp hk⟩
theorem IsFracA.kp {L:Nat->Prop} {w W:World} {v:Value} {x:FracA} (h:IsFracA L w v x) (hk:Kp .u32 w W):IsFracA L W v x:=by
 obtain⟨A,c,B,d,e,b,f⟩:=h;exact⟨A,c,B,d,e,ArrL.kp (λx=>⟨_,rfl⟩) b hk,ArrL.kp (λx=>⟨_,rfl⟩) f hk⟩
end
structure EK (α:Type) where
 ik:IntKind
 sz:Nat
 pos:0<sz
 small:sz<=4
 rd:World->List Value->α->Prop
 len:∀{w cs a},rd w cs a->cs.length=sz
 one:∀{w cs a},rd w cs a->∀u∈cs,u.oneCell'=true
 ni:∀{w cs a},rd w cs a->∀u∈cs,NI ik u
 kp:∀{w W cs a},rd w cs a->Kp ik w W->rd W cs a
section
variable {α:Type} {K:EK α}
def SeqE (K:EK α) (w:World) (v:Value) (xs:List α):Prop:=
 ∃A c,v= .slice A xs.length c/\xs.length<=c/\c<=maxLen/\(A=none->c=0)∧
  (0<xs.length->∃b off,A=some ⟨b,off,none⟩/\b<w.heap.size/\∀j (h:j<xs.length),∃cs,K.rd w cs xs[j]/\∀i u,cs[i]? =some u->w.cell? ⟨b,off+j*K.sz+i,none⟩=some u)
theorem SeqE.nil (K:EK α) (w:World):SeqE K w (.slice none 0 0) []:=⟨none,0,rfl,Nat.le_refl _,Nat.zero_le _,λ_=>rfl,λh=>absurd h (Nat.lt_irrefl 0)⟩
theorem SeqE.le {w W:World} {v:Value} {xs:List α} (h:SeqE K w v xs) (hb:Le w W):SeqE K W v xs:=by
 obtain⟨A,c,y,m,n,q,o⟩:=h;refine⟨A,c,y,m,n,q,λl=>?_⟩;obtain⟨b,f,r,d,s⟩:=o l;refine⟨b,f,r,Nat.lt_of_lt_of_le d hb.size,λj t=>?_⟩;obtain⟨g,z,q2⟩:=s j t;exact⟨g,K.kp z (Kp.of_le hb),λi u x=>(Below.cell hb (p:=⟨b,_,none⟩) d).trans (q2 i u x)⟩
theorem SeqE.slice {w:World} {v:Value} {xs:List α} (h:SeqE K w v xs):∃A c,v= .slice A xs.length c/\xs.length<=c/\c<=maxLen/\(A=none->c=0):=by
 obtain⟨A,c,g,b,d,f,i⟩:=h;exact⟨A,c,g,b,d,f⟩
theorem SeqE.at {w:World} {v:Value} {xs:List α} (h:SeqE K w v xs) {j:Nat} (hj:j<xs.length):∃b off c,v= .slice (some ⟨b,off,none⟩) xs.length c/\b<w.heap.size/\∃cs,K.rd w cs xs[j]/\∀i u,cs[i]? =some u->w.cell? ⟨b,off+j*K.sz+i,none⟩=some u:=by
 obtain⟨A,c,rfl,l,m,n,f⟩:=h;obtain⟨b,off,rfl,d,g⟩:=f (by omega);exact⟨b,off,c,rfl,d,g j hj⟩
def RowE (K:EK α) (e:TypeId) (base:Nat) (w:World) (v:Value) (xs:List α):Prop:=
 ∃css:List (List Value),css.length=xs.length/\w.ownsRow base e K.sz v xs.length css.flatten/\RowAll (NI K.ik) w v/\∀j (h:j<xs.length),K.rd w (css.getD j []) xs[j]
theorem RowE.nil (K:EK α) (e:TypeId) (base:Nat) (w:World):RowE K e base w (.slice none 0 0) []:=⟨[],rfl,World.ownsRow_nil _ _ _ _,RowAll.nil _ _,λj h=>absurd h (Nat.not_lt_zero _)⟩
theorem RowE.nib {e:TypeId} {base:Nat} {w:World} {v:Value} {xs:List α} (h:RowE K e base w v xs) {g:Nat} (hg:v.ownBlock=some g):base<=g/\g<w.heap.size/\NIB K.ik w g:=by
 obtain⟨c,f,b,d,i⟩:=h;have q:=b.lt g hg;refine⟨q.1,q.2,?_⟩
 rcases b.2 with⟨rfl,-⟩| ⟨g',cap,cur,rfl,hbg,hg',-⟩
 ·cases hg
 ·have:g'=g:=by simpa[Value.ownBlock]using hg
  subst this;exact⟨cur,e,hg',d g' cur e rfl hg'⟩
theorem RowE.keep {e:TypeId} {base:Nat} {w W:World} {v:Value} {xs:List α} (h:RowE K e base w v xs) (hk:Kp K.ik w W) (hs:∀g,v.ownBlock=some g->W.heap[g]? =w.heap[g]?):RowE K e base W v xs:=by
 obtain⟨b,d,c,f,i⟩:=h;refine⟨b,d,⟨c.1,?_⟩,f.same hs,λj l=>K.kp (i j l) hk⟩
 rcases c.2 with hn| ⟨g,cap,cur,rfl,hbg,hg,r⟩
 ·exact .inl hn
 ·exact .inr ⟨g,cap,cur,rfl,hbg,(hs g rfl).trans hg,r⟩
theorem RowE.le {e:TypeId} {base:Nat} {w W:World} {v:Value} {xs:List α} (h:RowE K e base w v xs) (hb:Le w W):RowE K e base W v xs:=h.keep (Kp.of_le hb) λg hg=>hb.block g (h.nib hg).2.1
theorem RowE.base {e:TypeId} {base base':Nat} {w:World} {v:Value} {xs:List α} (h:RowE K e base w v xs) (hb:base'<=base):RowE K e base' w v xs:=by
 obtain⟨b,c,d,f⟩:=h;exact⟨b,c,qKr d hb,f⟩
theorem qCY {k:Nat}:∀(css:List (List Value)),(∀cs∈css,cs.length=k)->css.flatten.length=css.length*k
 | [],_=>by simp
 | c::cs,h=>by rw[List.flatten_cons,List.length_append,qCY cs (λx hx=>h x (by simp[hx])),h c (by simp),List.length_cons,Nat.add_mul];omega
theorem qGW {k:Nat}:∀(css:List (List Value)),(∀cs∈css,cs.length=k)->∀(j:Nat),j<css.length->∀(i:Nat) (u:Value),(css.getD j [])[i]? =some u->css.flatten[j*k+i]? =some u
 | c::cs,h,0,_,i,u,hu=>by
  have hi:i<c.length:=(List.getElem?_eq_some_iff.1 hu).1;rw[List.flatten_cons,Nat.zero_mul,Nat.zero_add,List.getElem?_append_left hi];exact hu
 | c::cs,h,j+1,hj,i,u,hu=>by
  have ih:=qGW cs (λx hx=>h x (by simp[hx])) j (by simpa using hj) i u hu;rw[List.flatten_cons,List.getElem?_append_right (by rw[h c (by simp),Nat.add_mul];omega),h c (by simp),show(j+1)*k+i - k=j*k+i by rw[Nat.add_mul];omega];exact ih
theorem qFT {css:List (List Value)} {xs:List α} {w:World} (h1:css.length=xs.length) (h4:∀j (h:j<xs.length),K.rd w (css.getD j []) xs[j]):∀cs∈css,cs.length=K.sz:=λcs hcs=>by
 obtain⟨j,hj,rfl⟩:=List.getElem_of_mem hcs;have:=K.len (h4 j (by omega))
 rwa[List.getD_eq_getElem?_getD,List.getElem?_eq_getElem hj,Option.getD_some]at this
theorem RowE.at {e:TypeId} {base:Nat} {w:World} {v:Value} {xs:List α} (h:RowE K e base w v xs) {j:Nat} (hj:j<xs.length):∃g c,v= .slice (some ⟨g,0,none⟩) xs.length c/\base<=g/\g<w.heap.size/\xs.length<=c/\c<=maxLen/\∃cs,K.rd w cs xs[j]/\∀i u,cs[i]? =some u->w.cell? ⟨g,j*K.sz+i,none⟩=some u:=by
 obtain⟨b,o,l,p,d⟩:=h;have n:=l
 rcases l.2 with⟨rfl,hx⟩| ⟨g,cap,cur,rfl,hbg,hg,hnc,hcm,hcs,htake⟩
 ·omega
 ·refine⟨g,cap,rfl,hbg,gsl hg,hnc,hcm,_,d j hj,λi u m=>?_⟩;have q:i<K.sz:=by have:=(List.getElem?_eq_some_iff.1 m).1;rwa[K.len (d j hj)]at this
  have f:j*K.sz+i<xs.length*K.sz:=by
   have:(j+1)*K.sz<=xs.length*K.sz:=Nat.mul_le_mul_right _ hj;rw[Nat.add_mul,Nat.one_mul]at this;omega
  rw[n.cellAt (j*K.sz+i) f];exact qGW b (qFT o d) j (by omega) i u m
theorem RowE.seq {e:TypeId} {base:Nat} {w:World} {v:Value} {xs:List α} (h:RowE K e base w v xs):SeqE K w v xs:=by
 by_cases m:0<xs.length
 ·obtain⟨g,c,rfl,B,d,o,q,-⟩:=h.at m;refine⟨some ⟨g,0,none⟩,c,rfl,o,q,(λh=>by cases h),λ_=>⟨g,0,rfl,d,λj p=>?_⟩⟩;obtain⟨x,t,b,-,-,-,-,f,s,q2⟩:=h.at p;injection b with b e2 e3;injection b with b;injection b with b;subst b;exact⟨f,s,λi u r=>by rw[Nat.zero_add];exact q2 i u r⟩
 ·obtain rfl:xs=[]:=List.eq_nil_of_length_eq_zero (by omega);obtain⟨l,y,n,z,A⟩:=h
  rcases n.2 with⟨rfl,hx⟩| ⟨g,cap,cur,rfl,hbg,d,hnc,hcm,hcs,htake⟩
  ·exact SeqE.nil _ _
  ·exact⟨some ⟨g,0,none⟩,cap,rfl,hnc,hcm,(λh=>by cases h),λh=>absurd h (Nat.lt_irrefl 0)⟩
theorem RowE.append {P:Program} {e:TypeId} {base:Nat} {w:World} {v:Value} {xs:List α} (h:RowE K e base w v xs) {ops:Array Oper} {rest:List Oper} {o:Oper} {a:Act} {Q:Exit->Act->World->Prop} (hgd:o.guard=none) (s x:Operand) (t:TypeId)
  (ho:o.op= .call {callee:= .builtin .append,args:=#[s,x],argTypes:=#[t,t]}) (bytes:Nat) (z:Value) (hb8:bytes<=100) (ht:P.underlying t=some (.slice e)) (hinfo:(P.info? e).map (λi=>(i.zero,i.size,i.bytes))=some (some z,K.sz,bytes))
  (hzs:z.cells.size=K.sz) (hz:∀j,j<K.sz->NI K.ik z.cells[j]!) (hs:a.eval s=v) (B:Nat) (hx:a.eval x= .slice (some ⟨B,0,none⟩) 1 1) {cs:List Value} {y:α} (hr:K.rd w cs y) (hc:∀i u,cs[i]? =some u->w.cell? ⟨B,i,none⟩=some u)
  (hlen:xs.length<=1000000) (hbase:base<=w.heap.size)
  (hQ:∀v' w',RowE K e base w' v' (xs++[y])->Below base w w'->Kp K.ik w w'->(∀k,v'.ownBlock=some k->v.ownBlock=some k∨w.heap.size<=k)->w.grownBy w' v.ownBlock->wpList P ops Q rest (a.put o.dst v') w'):wpList P ops Q (o::rest) a w:=by
 obtain⟨i,G,p,q,r⟩:∃i,P.info? e=some i/\i.zero=some z/\i.size=K.sz/\i.bytes=bytes:=by
  cases hq:P.info? e with
  | none=>rw[hq]at hinfo;cases hinfo
  | some i=>
   rw[hq]at hinfo;simp only[Option.map_some,Option.some.injEq,Prod.mk.injEq]at hinfo;exact⟨i,rfl,hinfo.1,hinfo.2.1,hinfo.2.2⟩
 have n:=h;obtain⟨c,A,C,E,F⟩:=h;refine qDN (NI K.ik) w hgd s x t ho base e i z K.sz bytes ht G p q r hzs K.pos v xs.length c.flatten hs C ⟨B,0,none⟩ 1 1 cs hx (by rw[K.len hr,Nat.one_mul]) (λj u J=>?_) (K.one hr) (by unfold maxLen;omega) (Nat.le_trans (Nat.mul_le_mul (show xs.length+1<=1000001 by omega) hb8) (by decide)) hbase (by decide) (K.ni hr) hz E ?_
 ·have d:(⟨B,0,none⟩:Addr).add j=⟨B,j,none⟩:=by unfold Addr.add;split<;>simp_all
  rw[d];exact hc j u J
 ·intro v' w' L q2 M N O
  have b:Kp K.ik w w':=Kp.grown q2 λg D I=>by
   obtain⟨l,R,S⟩:=O g D;exact⟨(n.nib D).2.2,l,e,R,S⟩
  refine hQ v' w' ⟨c++[cs],by simp[A],?_,N,λj H=>?_⟩ (Below.grown (Below.refl _ _) q2 hbase (λk e=>(C.lt k e).1)) b M q2
  ·rw[List.flatten_append,List.flatten_singleton,show(xs++[y]).length =xs.length+1 by simp];exact L
  ·by_cases f:j<xs.length
   ·have:=K.kp (F j f) b;rw[List.getD_eq_getElem?_getD]at this ⊢;rw[List.getElem?_append_left (by omega),List.getElem_append_left f];exact this
   ·have m:j=xs.length:=by have:=H;simp at this;omega
    subst m;rw[List.getD_eq_getElem?_getD,List.getElem?_append_right (by omega),A,Nat.sub_self];simpa using K.kp hr b
end
end Go.Proofs.Ytcoajjdhkhgfdaa
namespace Go.Proofs.Ytcoajjdhkhgfdaa
set_option maxRecDepth 100000
set_option maxHeartbeats 2000000
open Go.RowKit Go.Shelf
set_option linter.unusedVariables false
set_option linter.unusedSimpArgs false
theorem qFU (w:World) (o0 o1:Obj):∃W0,(w.alloc o0).alloc o1=W0/\W0.heap.size=w.heap.size+2/\Le w W0/\W0.heap[w.heap.size]? =some o0/\W0.heap[w.heap.size+1]? =some o1:=by
 obtain⟨b,c,d⟩:=qBw (Le.refl ((w.alloc o0).alloc o1));exact⟨_,rfl,by simp,b,c,d⟩
theorem qJZ (L:Nat->Prop) (a b:Rat) (va vb:Value) (w:World) (hL:Up w L) (ha:RatL L .i64 w va a) (hb:RatL L .i64 w vb b) (hma:Rsz a 2000000) (hmb:Rsz b 2000000):
  Calls Try.prog 28 #[va,vb] w λe w'=>e= .returned (.int .i64 (rsgn (a - b)))/\Le w w':=by
 have q:=ha;have r:=hb;have N:Rsz (-b) 2000000:=by obtain⟨q1,q2,q3⟩:=qEF b;unfold Rsz;rw[q2,q3];exact hmb
 have o:a+ -b=a - b:=(Rat.sub_eq_add_neg a b).symm;obtain⟨An,cn,Ad,cd,rfl,D,C⟩:=ha.form;obtain⟨Bn,dn,Bd,dd,rfl,I,H⟩:=hb.form;obtain⟨S,j⟩:∃S,rneg a=S:=⟨_,rfl⟩;obtain⟨T,l⟩:∃T,rneg b=T:=⟨_,rfl⟩;rw[j]at q;rw[l]at r;rw[j,l];have⟨ai,a8,a9,av,au,ax,aw,az⟩:=hyd8 hL ha hb D C I H j;have⟨a0,M,ay,O,t,z,E⟩:=hyd7 l hma hmb N o q r;clear r q o N hmb hma l j H I C D hb ha hL;go_enter Try.func28,Try.ntmps28;go_wp2;obtain⟨W0,y,aA,i,h0,h1⟩:=qFU w (.cells #[.bool S,.slice An (dg (rnum a)).length cn,.slice Ad (dg a.den).length cd] 63) (.cells #[.bool T,.slice Bn (dg (rnum b)).length dn,.slice Bd (dg b.den).length dd] 63);rw[y];clear y;obtain⟨U,V,X,-⟩:=qAB h0;obtain⟨Y,Z,aa,-⟩:=qAB h1;have m:=ai.out.le i;have A:=z.out.le i;have F:=E.out.le i;have⟨a5,a6,J,p,B,G⟩:=hyd6 h0 h1 i m A F;clear F A m i h1 h0;refine qAU (R:=leRel) 6 [some 5,some 6,some 7,some 8,some 9,some 4] [[],[],[1],[0,2],[3],[4]]
  [.eq (.agg #[.bool S,.slice An (dg (rnum a)).length cn,.slice Ad (dg a.den).length cd]),.eq (.agg #[.bool T,.slice Bn (dg (rnum b)).length dn,.slice Bd (dg b.den).length dd]),MPred.rat L .i64 (-b),MPred.rat L .i64 (a - b),.eq (.int .i64 (rsgn (a - b))),.eq (.int .i64 (rsgn (a - b)))] (λ_ _=>False) (by kernel_rfl) (by kernel_rfl) (by kernel_rfl) (by kernel_rfl) ?_ (λ_ _ _ _ _ h=>h.elim) ?_
 ·simp only[List.take_succ_cons,List.take_zero];refine mSc ?_ (mSc ?_ (mSc ?_ (mSc ?_ (mSc ?_ (mSc ?_ (qAZ))))))
  ·refine mSl rfl λx W c d Q hK _=>?_;have ab:=bcl c (by omega) U;have ac:=bcl c (by omega) V;have ad:=bcl c (by omega) X;simp only[fA]at hK ⊢;go_wp2;exact hK _ _ lrR rfl
  ·refine mSl rfl λx W c d Q hK _=>?_;have ab:=bcl c (by omega) Y;have ac:=bcl c (by omega) Z;have ad:=bcl c (by omega) aa;simp only[fA]at hK ⊢;go_wp2;exact hK _ _ lrR rfl
  ·refine mSl rfl λx W c d Q hK _=>?_;obtain⟨f,-⟩:=d;change _=_ at f;simp only[fA,f]at hK ⊢;go_wp2_with (fail);go_at_call 56;refine(qC1 L b _ W (G.out.le c)).mono ?_;rintro e w' ⟨v',rfl,P,v⟩;obtain⟨A1,c1,A2,c2,rfl,-,-⟩:=v.form;go_wp2;exact hK _ _ P v
  ·refine mSl rfl λx W c d Q hK _=>?_;obtain⟨f,g,-⟩:=d;change _=_ at f;replace g:RatL L .i64 W (x 2) (-b):=g;simp only[fA,f]at hK ⊢;go_wp2_with (fail);go_at_call 55;refine(qEu L a (-b) _ _ W (p.out.le c) (B.out.le c) g M.out O.out).mono ?_;rintro e w' ⟨v',rfl,P,v⟩;rw[t.out]at v;obtain⟨A1,c1,A2,c2,rfl,-,-⟩:=v.form;go_wp2;exact hK _ _ P v
  ·refine mSl rfl λx W c d Q hK _=>?_;obtain⟨g,-⟩:=d;replace g:RatL L .i64 W (x 3) (a - b):=g;simp only[fA]at hK ⊢;go_wp2_with (fail);go_at_call 45;refine(qCc L (a - b) _ W g).mono ?_;rintro e w' ⟨rfl,P⟩;go_wp2;exact hK _ _ P rfl
  ·refine mSl rfl λx W c d Q hK _=>?_;obtain⟨f,-⟩:=d;change _=_ at f;simp only[fA,f]at hK ⊢;go_wp2;exact hK _ _ lrR rfl
 ·intro x W c d Q' aj _;have f:=d 0 (by decide);have g:=d 1 (by decide);have e4:=d 4 (by decide);have e5:=d 5 (by decide);change _=_ at f g e4 e5;simp only[List.drop_succ_cons,List.drop_zero];rw[show List.range 6=[0,1,2,3,4,5]from rfl];simp only[fA,f,g,e4,e5];generalize x 2=x2;generalize x 3=x3;clear f g e4 e5 d;have n:=Le.trans J.out c;have⟨s,a7⟩:=hyd2 n c;clear c n;refine wpList_nil (aj _ _ ?_);go_wp2;go_ret;exact⟨rfl,s.out⟩
end Go.Proofs.Ytcoajjdhkhgfdaa

/- Rows of structs whose elements lead to numbers (fractions, integers): how they read, what keeps them, append, store, prefixes. reference 1: Ratio, Compare, .. -/
import Derived.Test.YtenjpccpldajoaaGreatDoorPk16
import Derived.Laws.IdiomCopy
namespace Go.Proofs.YtenjpccpldajoaaGreatDoor
set_option maxRecDepth 100000
open Go.RowKit
set_option linter.unusedVariables false
set_option linter.unusedSimpArgs false
def NI (k:IntKind) (u:Value):Prop:=∀z:Int,u≠ .int k z
def NIB (k:IntKind) (W:World) (b:Nat):Prop:=∃cs t,W.heap[b]? =some (.cells cs t)∧∀u∈cs.toList,NI k u
def Kp (k:IntKind) (w W:World):Prop:=w.heap.size≤W.heap.size∧∀b,b<w.heap.size→W.heap[b]? =w.heap[b]? ∨(NIB k w b∧NIB k W b)
section
variable {k:IntKind}
theorem NIB.eq {w W:World} {b:Nat} (h:NIB k w b) (e:W.heap[b]? =w.heap[b]?):NIB k W b:=by
 obtain⟨cs,t,h1,h2⟩:=h;exact⟨cs,t,e.trans h1,h2⟩
theorem Kp.refl (w:World):Kp k w w:=⟨Nat.le_refl _,fun _ _=> .inl rfl⟩
theorem Kp.trans {a b c:World} (h:Kp k a b) (q:Kp k b c):Kp k a c:=⟨Nat.le_trans h.1 q.1,fun i hi=>by
 rcases h.2 i hi with e| ⟨n1,n2⟩
 ·rcases q.2 i (Nat.lt_of_lt_of_le hi h.1)with e2| ⟨n1,n2⟩
  ·exact .inl (e2.trans e)
  ·exact .inr ⟨n1.eq e.symm,n2⟩
 ·rcases q.2 i (Nat.lt_of_lt_of_le hi h.1)with e2| ⟨m1,m2⟩
  ·exact .inr ⟨n1,n2.eq e2⟩
  ·exact .inr ⟨n1,m2⟩⟩
theorem Kp.of_le {w W:World} (h:Le w W):Kp k w W:=⟨h.size,fun b hb=> .inl (h.block b hb)⟩
theorem qDa {W:World} {g i:Nat} {u:Value} (h:NIB k W g) (hu:NI k u):NIB k (W.setCell ⟨g,i,none⟩ u) g:=by
 obtain⟨cs,t,h1,h2⟩:=h;refine⟨cs.setIfInBounds i u,t,by simp only[World.setCell,Array.getElem?_modify,h1];simp,fun x hx=>?_⟩;rw[Array.toList_setIfInBounds]at hx
 rcases List.mem_or_eq_of_mem_set hx with h|rfl
 ·exact h2 x h
 ·exact hu
theorem Kp.set {w W:World} (h:Kp k w W) {g i:Nat} {u:Value} (hg:NIB k W g) (hu:NI k u):Kp k w (W.setCell ⟨g,i,none⟩ u):=
 h.trans ⟨by simp[World.setCell],fun b hb=>by
  by_cases e:b=g
  ·subst e;exact .inr ⟨hg,qDa hg hu⟩
  ·exact .inl (Below.heap_setCell _ ⟨g,i,none⟩ _ b e)⟩
theorem qEl {g:Nat}:∀(us:List Value) (W:World) (o:Nat),NIB k W g→(∀u∈us,NI k u)→Kp k W (W.setCells g o us)∧NIB k (W.setCells g o us) g
 | [],W,o,h,_=>⟨Kp.refl W,h⟩
 | u::us,W,o,h,hu=>by
  have h1:Kp k W (W.setCell ⟨g,o,none⟩ u):=(Kp.refl W).set h (hu u (by simp));have h2:=qEl us (W.setCell ⟨g,o,none⟩ u) (o+1) (qDa h (hu u (by simp))) (fun x hx=>hu x (by simp[hx]));exact⟨h1.trans h2.1,h2.2⟩
theorem Kp.grown {w W:World} {v:Value} (hg:w.grownBy W v.ownBlock) (h2:∀g,v.ownBlock=some g→g<w.heap.size→NIB k w g∧NIB k W g):Kp k w W:=⟨hg.size,fun b hb=>by
 by_cases e:v.ownBlock=some b
 ·exact .inr (h2 b e hb)
 ·exact .inl (hg.block b hb (fun h=>e h.symm))⟩
theorem ArrL.kp {α:Type} {L:Nat→Prop} {f:α→Value} {w W:World} {v:Value} {xs:List α} (hf:∀x,∃z,f x= .int k z) (h:ArrL L f w v xs) (hk:Kp k w W):ArrL L f W v xs:=by
 obtain⟨A,c,hv,h1,h2,hN,h3⟩:=h;refine⟨A,c,hv,h1,h2,hN,fun h0=>?_⟩;obtain⟨b,off,ha,hb,hlt,hc⟩:=h3 h0
 have hs:W.heap[b]? =w.heap[b]? :=by
  rcases hk.2 b hlt with e| ⟨⟨cs,t,q1,q2⟩,-⟩
  ·exact e
  ·exfalso;have h4:=hc 0 h0;obtain⟨y,hy⟩:=hf xs[0];rw[hy]at h4;simp only[World.cell?,q1]at h4;have h5:cs[off+0]? =some (.int k y):=by simpa using h4
   exact q2 _ (Array.mem_toList_iff.2 (Array.mem_of_getElem? h5)) y rfl
 exact⟨b,off,ha,hb,Nat.lt_of_lt_of_le hlt hk.1,fun j hj=>(World.cell?_of_block hs).trans (hc j hj)⟩
theorem NumL.kp {L:Nat→Prop} {w W:World} {v:Value} {n:Nat} (h:NumL L k w v n) (hk:Kp k w W):NumL L k W v n:=ArrL.kp (fun x=>⟨_,rfl⟩) h hk
theorem RatL.kp {L:Nat→Prop} {w W:World} {v:Value} {r:Rat} (h:RatL L k w v r) (hk:Kp k w W):RatL L k W v r:=by
 obtain⟨vn,vd,e,h1,h2⟩:=h;exact⟨vn,vd,e,h1.kp hk,h2.kp hk⟩
theorem Unf.kp {w W:World} {v:Value} (h:Unf w v) (hk:Kp k w W):Unf W v:=fun b off m c e=>by
 obtain⟨cs,t,h1⟩:=h b off m c e
 rcases hk.2 b (gsl h1)with e2| ⟨-,cs2,t2,r1,-⟩
 ·exact⟨cs,t,e2.trans h1⟩
 ·exact⟨cs2,t2,r1⟩
theorem FracL.kp {L:Nat→Prop} {w W:World} {v:Value} {r:Rat} (h:FracL L w v r) (hk:Kp .u32 w W):FracL L W v r:=by
 obtain⟨A,c,B,d,e,h1,h2⟩:=h;exact⟨A,c,B,d,e,⟨h1.1.kp hk,h1.2.kp hk⟩,⟨h2.1.kp hk,h2.2.kp hk⟩⟩
theorem IsFracA.kp {L:Nat→Prop} {w W:World} {v:Value} {x:FracA} (h:IsFracA L w v x) (hk:Kp .u32 w W):IsFracA L W v x:=by
 obtain⟨A,c,B,d,e,h1,h2⟩:=h;exact⟨A,c,B,d,e,ArrL.kp (fun x=>⟨_,rfl⟩) h1 hk,ArrL.kp (fun x=>⟨_,rfl⟩) h2 hk⟩
end
structure EK (α:Type) where
 ik:IntKind
 sz:Nat
 pos:0<sz
 small:sz≤4
 rd:World→List Value→α→Prop
 len:∀{w cs a},rd w cs a→cs.length=sz
 one:∀{w cs a},rd w cs a→∀u∈cs,u.oneCell'=true
 ni:∀{w cs a},rd w cs a→∀u∈cs,NI ik u
 kp:∀{w W cs a},rd w cs a→Kp ik w W→rd W cs a
section
variable {α:Type} {K:EK α}
def SeqE (K:EK α) (w:World) (v:Value) (xs:List α):Prop:=
 ∃A c,v= .slice A xs.length c∧xs.length≤c∧c≤maxLen∧(A=none→c=0)∧
  (0<xs.length→∃b off,A=some ⟨b,off,none⟩∧b<w.heap.size∧∀j (h:j<xs.length),∃cs,K.rd w cs xs[j]∧∀i u,cs[i]? =some u→w.cell? ⟨b,off+j*K.sz+i,none⟩=some u)
theorem SeqE.nil (K:EK α) (w:World):SeqE K w (.slice none 0 0) []:=⟨none,0,rfl,Nat.le_refl _,Nat.zero_le _,fun _=>rfl,fun h=>absurd h (Nat.lt_irrefl 0)⟩
theorem SeqE.le {w W:World} {v:Value} {xs:List α} (h:SeqE K w v xs) (hb:Le w W):SeqE K W v xs:=by
 obtain⟨A,c,hv,h1,h2,hN,h3⟩:=h;refine⟨A,c,hv,h1,h2,hN,fun h0=>?_⟩;obtain⟨b,off,ha,hlt,hc⟩:=h3 h0;refine⟨b,off,ha,Nat.lt_of_lt_of_le hlt hb.size,fun j hj=>?_⟩;obtain⟨cs,q1,q2⟩:=hc j hj;exact⟨cs,K.kp q1 (Kp.of_le hb),fun i u hu=>(Below.cell hb (p:=⟨b,_,none⟩) hlt).trans (q2 i u hu)⟩
theorem SeqE.slice {w:World} {v:Value} {xs:List α} (h:SeqE K w v xs):∃A c,v= .slice A xs.length c∧xs.length≤c∧c≤maxLen∧(A=none→c=0):=by
 obtain⟨A,c,hv,h1,h2,hN,h3⟩:=h;exact⟨A,c,hv,h1,h2,hN⟩
theorem SeqE.at {w:World} {v:Value} {xs:List α} (h:SeqE K w v xs) {j:Nat} (hj:j<xs.length):∃b off c,v= .slice (some ⟨b,off,none⟩) xs.length c∧b<w.heap.size∧∃cs,K.rd w cs xs[j]∧∀i u,cs[i]? =some u→w.cell? ⟨b,off+j*K.sz+i,none⟩=some u:=by
 obtain⟨A,c,rfl,h1,h2,hN,h3⟩:=h;obtain⟨b,off,rfl,hlt,hc⟩:=h3 (by omega);exact⟨b,off,c,rfl,hlt,hc j hj⟩
def RowE (K:EK α) (e:TypeId) (base:Nat) (w:World) (v:Value) (xs:List α):Prop:=
 ∃css:List (List Value),css.length=xs.length∧w.ownsRow base e K.sz v xs.length css.flatten∧RowAll (NI K.ik) w v∧∀j (h:j<xs.length),K.rd w (css.getD j []) xs[j]
theorem RowE.nil (K:EK α) (e:TypeId) (base:Nat) (w:World):RowE K e base w (.slice none 0 0) []:=⟨[],rfl,World.ownsRow_nil _ _ _ _,RowAll.nil _ _,fun j h=>absurd h (Nat.not_lt_zero _)⟩
theorem RowE.nib {e:TypeId} {base:Nat} {w:World} {v:Value} {xs:List α} (h:RowE K e base w v xs) {g:Nat} (hg:v.ownBlock=some g):base≤g∧g<w.heap.size∧NIB K.ik w g:=by
 obtain⟨css,h1,h2,h3,h4⟩:=h;have q:=h2.lt g hg;refine⟨q.1,q.2,?_⟩
 rcases h2.2 with⟨rfl,-⟩| ⟨g',cap,cur,rfl,hbg,hg',-⟩
 ·cases hg
 ·have:g'=g:=by simpa[Value.ownBlock]using hg
  subst this;exact⟨cur,e,hg',h3 g' cur e rfl hg'⟩
theorem RowE.keep {e:TypeId} {base:Nat} {w W:World} {v:Value} {xs:List α} (h:RowE K e base w v xs) (hk:Kp K.ik w W) (hs:∀g,v.ownBlock=some g→W.heap[g]? =w.heap[g]?):RowE K e base W v xs:=by
 obtain⟨css,h1,h2,h3,h4⟩:=h;refine⟨css,h1,⟨h2.1,?_⟩,h3.same hs,fun j hj=>K.kp (h4 j hj) hk⟩
 rcases h2.2 with hn| ⟨g,cap,cur,rfl,hbg,hg,r⟩
 ·exact .inl hn
 ·exact .inr ⟨g,cap,cur,rfl,hbg,(hs g rfl).trans hg,r⟩
theorem RowE.le {e:TypeId} {base:Nat} {w W:World} {v:Value} {xs:List α} (h:RowE K e base w v xs) (hb:Le w W):RowE K e base W v xs:=h.keep (Kp.of_le hb) fun g hg=>hb.block g (h.nib hg).2.1
theorem RowE.base {e:TypeId} {base base':Nat} {w:World} {v:Value} {xs:List α} (h:RowE K e base w v xs) (hb:base'≤base):RowE K e base' w v xs:=by
 obtain⟨css,h1,h2,h3⟩:=h;exact⟨css,h1,qNR h2 hb,h3⟩
theorem qDl {k:Nat}:∀(css:List (List Value)),(∀cs∈css,cs.length=k)→css.flatten.length=css.length*k
 | [],_=>by simp
 | c::cs,h=>by rw[List.flatten_cons,List.length_append,qDl cs (fun x hx=>h x (by simp[hx])),h c (by simp),List.length_cons,Nat.add_mul];omega
theorem qH4 {k:Nat}:∀(css:List (List Value)),(∀cs∈css,cs.length=k)→∀(j:Nat),j<css.length→∀(i:Nat) (u:Value),(css.getD j [])[i]? =some u→css.flatten[j*k+i]? =some u
 | c::cs,h,0,_,i,u,hu=>by
  have hi:i<c.length:=(List.getElem?_eq_some_iff.1 hu).1;rw[List.flatten_cons,Nat.zero_mul,Nat.zero_add,List.getElem?_append_left hi];exact hu
 | c::cs,h,j+1,hj,i,u,hu=>by
  have ih:=qH4 cs (fun x hx=>h x (by simp[hx])) j (by simpa using hj) i u hu;rw[List.flatten_cons,List.getElem?_append_right (by rw[h c (by simp),Nat.add_mul];omega),h c (by simp),show(j+1)*k+i - k=j*k+i by rw[Nat.add_mul];omega];exact ih
theorem qIC {css:List (List Value)} {xs:List α} {w:World} (h1:css.length=xs.length) (h4:∀j (h:j<xs.length),K.rd w (css.getD j []) xs[j]):∀cs∈css,cs.length=K.sz:=fun cs hcs=>by
 obtain⟨j,hj,rfl⟩:=List.getElem_of_mem hcs;have:=K.len (h4 j (by omega))
 rwa[List.getD_eq_getElem?_getD,List.getElem?_eq_getElem hj,Option.getD_some]at this
theorem RowE.at {e:TypeId} {base:Nat} {w:World} {v:Value} {xs:List α} (h:RowE K e base w v xs) {j:Nat} (hj:j<xs.length):∃g c,v= .slice (some ⟨g,0,none⟩) xs.length c∧base≤g∧g<w.heap.size∧xs.length≤c∧c≤maxLen∧∃cs,K.rd w cs xs[j]∧∀i u,cs[i]? =some u→w.cell? ⟨g,j*K.sz+i,none⟩=some u:=by
 obtain⟨css,h1,h2,h3,h4⟩:=h;have h0:=h2
 rcases h2.2 with⟨rfl,hx⟩| ⟨g,cap,cur,rfl,hbg,hg,hnc,hcm,hcs,htake⟩
 ·omega
 ·refine⟨g,cap,rfl,hbg,gsl hg,hnc,hcm,_,h4 j hj,fun i u hu=>?_⟩;have hi:i<K.sz:=by have:=(List.getElem?_eq_some_iff.1 hu).1;rwa[K.len (h4 j hj)]at this
  have hlt:j*K.sz+i<xs.length*K.sz:=by
   have:(j+1)*K.sz≤xs.length*K.sz:=Nat.mul_le_mul_right _ hj;rw[Nat.add_mul,Nat.one_mul]at this;omega
  rw[h0.cellAt (j*K.sz+i) hlt];exact qH4 css (qIC h1 h4) j (by omega) i u hu
theorem RowE.seq {e:TypeId} {base:Nat} {w:World} {v:Value} {xs:List α} (h:RowE K e base w v xs):SeqE K w v xs:=by
 by_cases h0:0<xs.length
 ·obtain⟨g,c,rfl,hb,hg,hc,hm,-⟩:=h.at h0;refine⟨some ⟨g,0,none⟩,c,rfl,hc,hm,(fun h=>by cases h),fun _=>⟨g,0,rfl,hg,fun j hj=>?_⟩⟩;obtain⟨g',c',e1,-,-,-,-,cs,q1,q2⟩:=h.at hj;injection e1 with e1 e2 e3;injection e1 with e1;injection e1 with e1;subst e1;exact⟨cs,q1,fun i u hu=>by rw[Nat.zero_add];exact q2 i u hu⟩
 ·obtain rfl:xs=[]:=List.eq_nil_of_length_eq_zero (by omega);obtain⟨css,h1,h2,h3,h4⟩:=h
  rcases h2.2 with⟨rfl,hx⟩| ⟨g,cap,cur,rfl,hbg,hg,hnc,hcm,hcs,htake⟩
  ·exact SeqE.nil _ _
  ·exact⟨some ⟨g,0,none⟩,cap,rfl,hnc,hcm,(fun h=>by cases h),fun h=>absurd h (Nat.lt_irrefl 0)⟩
theorem RowE.append {P:Program} {e:TypeId} {base:Nat} {w:World} {v:Value} {xs:List α} (h:RowE K e base w v xs) {ops:Array Oper} {rest:List Oper} {o:Oper} {a:Act} {Q:Exit→Act→World→Prop} (hgd:o.guard=none) (s x:Operand) (t:TypeId)
  (ho:o.op= .call {callee:= .builtin .append,args:=#[s,x],argTypes:=#[t,t]}) (bytes:Nat) (z:Value) (hb8:bytes≤100) (ht:P.underlying t=some (.slice e)) (hinfo:(P.info? e).map (fun i=>(i.zero,i.size,i.bytes))=some (some z,K.sz,bytes))
  (hzs:z.cells.size=K.sz) (hz:∀j,j<K.sz→NI K.ik z.cells[j]!) (hs:a.eval s=v) (B:Nat) (hx:a.eval x= .slice (some ⟨B,0,none⟩) 1 1) {cs:List Value} {y:α} (hr:K.rd w cs y) (hc:∀i u,cs[i]? =some u→w.cell? ⟨B,i,none⟩=some u)
  (hlen:xs.length≤1000000) (hbase:base≤w.heap.size)
  (hQ:∀v' w',RowE K e base w' v' (xs++[y])→Below base w w'→Kp K.ik w w'→(∀k,v'.ownBlock=some k→v.ownBlock=some k∨w.heap.size≤k)→w.grownBy w' v.ownBlock→wpList P ops Q rest (a.put o.dst v') w'):wpList P ops Q (o::rest) a w:=by
 obtain⟨i,hi,hz0,hz1,hzb⟩:∃i,P.info? e=some i∧i.zero=some z∧i.size=K.sz∧i.bytes=bytes:=by
  cases hq:P.info? e with
  | none=>rw[hq]at hinfo;cases hinfo
  | some i=>
   rw[hq]at hinfo;simp only[Option.map_some,Option.some.injEq,Prod.mk.injEq]at hinfo;exact⟨i,rfl,hinfo.1,hinfo.2.1,hinfo.2.2⟩
 have hx0:=h;obtain⟨css,h1,h2,h3,h4⟩:=h;refine qFi (NI K.ik) w hgd s x t ho base e i z K.sz bytes ht hi hz0 hz1 hzb hzs K.pos v xs.length css.flatten hs h2 ⟨B,0,none⟩ 1 1 cs hx (by rw[K.len hr,Nat.one_mul]) (fun j u hu=>?_) (K.one hr) (by unfold maxLen;omega) (Nat.le_trans (Nat.mul_le_mul (show xs.length+1≤1000001 by omega) hb8) (by decide)) hbase (by decide) (K.ni hr) hz h3 ?_
 ·have hadd:(⟨B,0,none⟩:Addr).add j=⟨B,j,none⟩:=by unfold Addr.add;split<;>simp_all
  rw[hadd];exact hc j u hu
 ·intro v' w' q1 q2 q3 q4 q5
  have hkp:Kp K.ik w w':=Kp.grown q2 fun g hg hlt=>by
   obtain⟨cur,q6,q7⟩:=q5 g hg;exact⟨(hx0.nib hg).2.2,cur,e,q6,q7⟩
  refine hQ v' w' ⟨css++[cs],by simp[h1],?_,q4,fun j hj=>?_⟩ (Below.grown (Below.refl _ _) q2 hbase (fun k e=>(h2.lt k e).1)) hkp q3 q2
  ·rw[List.flatten_append,List.flatten_singleton,show(xs++[y]).length =xs.length+1 by simp];exact q1
  ·by_cases hjx:j<xs.length
   ·have:=K.kp (h4 j hjx) hkp;rw[List.getD_eq_getElem?_getD]at this ⊢;rw[List.getElem?_append_left (by omega),List.getElem_append_left hjx];exact this
   ·have hj2:j=xs.length:=by have:=hj;simp at this;omega
    subst hj2;rw[List.getD_eq_getElem?_getD,List.getElem?_append_right (by omega),h1,Nat.sub_self];simpa using K.kp hr hkp
end
end Go.Proofs.YtenjpccpldajoaaGreatDoor
namespace Go.Proofs.YtenjpccpldajoaaGreatDoor
set_option maxRecDepth 100000
open Go.RowKit Go.Shelf
set_option linter.unusedVariables false
set_option linter.unusedSimpArgs false
theorem qBW {a b:Rat} {n:Nat} (ha:Rsz a n) (hb:Rsz b n):Rsz (a+b) (n+n+1):=by
 have ha1:=ha.1;have ha2:=ha.2;have hb1:=hb.1;have hb2:=hb.2;have m1:=qAN (rnum a) b.den;have m2:=qAN (rnum b) a.den;have m3:=qAN a.den b.den;have hdz:a.den*b.den≠0:=Nat.ne_of_gt (Nat.mul_pos (qAU a) (qAU b))
 by_cases h:rneg a=rneg b
 ·rw[←qJH h];obtain⟨q1,q2⟩:=qDF (rneg a) (rnum a*b.den+rnum b*a.den) (a.den*b.den) hdz;have m4:=qCW (rnum a*b.den) (rnum b*a.den);exact⟨by omega,by omega⟩
 ·rw[←qML h]
  split
  ·obtain⟨q1,q2⟩:=qDF (rneg b) (rnum b*a.den - rnum a*b.den) (a.den*b.den) hdz;have m4:(dg (rnum b*a.den - rnum a*b.den)).length ≤(dg (rnum b*a.den)).length :=qAJ (Nat.sub_le _ _);exact⟨by omega,by omega⟩
  ·obtain⟨q1,q2⟩:=qDF (rneg a) (rnum a*b.den - rnum b*a.den) (a.den*b.den) hdz;have m4:(dg (rnum a*b.den - rnum b*a.den)).length ≤(dg (rnum a*b.den)).length :=qAJ (Nat.sub_le _ _);exact⟨by omega,by omega⟩
theorem qKh {a:Rat} {n:Nat} (ha:Rsz a n):Rsz (-a) n:=by obtain⟨q1,q2,q3⟩:=qHu a;unfold Rsz;rw[q2,q3];exact ha
theorem qID {a b:Rat} {n:Nat} (ha:Rsz a n) (hb:Rsz b n):Rsz (a - b) (n+n+1):=by rw[Rat.sub_eq_add_neg];exact qBW ha (qKh hb)
theorem qBO {a b:Rat} {n:Nat} (ha:Rsz a n) (hb:Rsz b n):Rsz (a*b) (n+n):=by
 have ha1:=ha.1;have ha2:=ha.2;have hb1:=hb.1;have hb2:=hb.2;rw[←qHt];obtain⟨q1,q2⟩:=qDF (rneg a != rneg b) (rnum a*rnum b) (a.den*b.den) (Nat.ne_of_gt (Nat.mul_pos (qAU a) (qAU b)));have m1:=qAN (rnum a) (rnum b);have m2:=qAN a.den b.den;exact⟨by omega,by omega⟩
theorem qOf {a b:Rat} {n:Nat} (hb0:b≠0) (ha:Rsz a n) (hb:Rsz b n):Rsz (a / b) (n+n):=by
 have ha1:=ha.1;have ha2:=ha.2;have hb1:=hb.1;have hb2:=hb.2;rw[←qGE hb0];obtain⟨q1,q2⟩:=qDF (rneg a != rneg b) (rnum a*b.den) (a.den*rnum b) (Nat.ne_of_gt (Nat.mul_pos (qAU a) (Nat.pos_of_ne_zero fun h=>hb0 (rnum_zero.1 h))));have m1:=qAN (rnum a) b.den;have m2:=qAN a.den (rnum b);exact⟨by omega,by omega⟩
theorem rsgn_zero {r:Rat}:rsgn r=0↔r=0:=by unfold rsgn;rw[Int.sign_eq_zero_iff_zero,Rat.num_eq_zero]
noncomputable def halfR:Rat:=((1:Int):Rat) / ((2:Int):Rat)
theorem qNe:mkR false 1 2=halfR:=by
 have h:=qN4 1 2 (by decide);unfold halfR;rw[←h]
 rfl
theorem qGZ:rneg halfR=false∧rnum halfR=1∧halfR.den=2:=by
 rw[←qNe];refine⟨?_,?_,?_⟩
 ·rw[qHs _ _ _ (by decide)];rfl
 ·rw[qEM _ _ _ (by decide)];decide
 ·rw[qEt _ _ _ (by decide)];decide
theorem halfR_sz:Rsz halfR 3:=by
 obtain⟨-,h2,h3⟩:=qGZ;exact⟨by rw[h2];exact qCu (by omega),by rw[h3];exact qCu (by omega)⟩
noncomputable def qBj (r:Rat):Nat:=rnum (r+halfR) / (r+halfR).den +(if rneg (r+halfR)=true∧rnum (r+halfR)%(r+halfR).den ≠0 then 1 else 0)
noncomputable def qGK (r:Rat):Int:=if qBj r≤4611686018427387904 then sg (rneg (r+halfR)) (qBj r)else 0
noncomputable def qCQ (r:Rat):Bool:=decide (qBj r≤4611686018427387904)
noncomputable def qAe (x:FracA):Int×Int:=
 match x.rat? with
 | some r=>if qCQ r then(qGK r,0)else(0,12)
 | none=>(0,10)
def MPred.box (B:Nat) (o:Obj):MPred:=⟨fun v w=>∃k,v= .pointer (some ⟨k,0,none⟩)∧B≤k∧w.heap[k]? =some o,fun _ _ _ hb ⟨k,e,h1,h2⟩=>⟨k,e,h1,(hb.block k (gsl h2)).trans h2⟩⟩
set_option maxRecDepth 10000
theorem qIs (p q:Addr) (w:World):
  CallsD Tryz.prog 105 #[.pointer (some p),.pointer (some q)] .returning w fun e u' w'=>e= .returned (.tuple #[])∧u'= .returning ∧w'=w:=by
 refine callsD_of_wpS Tryz.func105 rfl fun c₀ cs hu=>?_;apply wpS_seq;apply wpS_region;simp[wpOpsS,go_sem,recoverD,hu,Tryz.ntmps105,Exit.thenS];apply wpS_seq;apply wpS_region;simp[wpOpsS,go_sem,recoverD,hu,Tryz.ntmps105,Exit.thenS];refine wpS_cond (t:=false) (by simp[Act.eval,Array.replicate]) ?_;simp only[Bool.false_eq_true,if_false];refine wpS_of_wp (wp_skip ?_)
 cases c₀
 simp_all [bodyPostS,results,Tryz.results105]
theorem qH5 (B:Nat) (e:Int) (s0 s2:Bool) (A1 A3:Option Addr) (l1 l3 k1 k3:Nat) (b:Value) (tp tq:TypeId) (w:World) (hb:w.heap[B]? =some (.cells #[.bool s0,.slice A1 l1 k1,.bool s2,.slice A3 l3 k3] tp)) (hq:w.heap[B+1]? =some (.cells #[b] tq)):
  CallsD Tryz.prog 105 #[.pointer (some ⟨B,0,none⟩),.pointer (some ⟨B+1,0,none⟩)] (.panicking [{v:= .iface 137 (.agg #[.int .i64 e]),recovered:=false}]) w fun E u' w'=>E= .returned (.tuple #[])∧u'= .panicking [{v:= .iface 137 (.agg #[.int .i64 e]),recovered:=true}]∧
   w'.heap[B]? =some (.cells #[.bool false,.slice none 0 0,.bool false,.slice none 0 0] tp)∧w'.cell? ⟨B+1,0,none⟩=some (.int .i64 e)∧∀w0,Le w0 w→w0.heap.size≤B→Le w0 w':=by
 refine callsD_of_wpS Tryz.func105 rfl fun c₀ cs hu=>?_;apply wpS_seq;apply wpS_region;simp[wpOpsS,go_sem,recoverD,hu,Tryz.ntmps105,Exit.thenS];apply wpS_seq;apply wpS_region;simp[wpOpsS,go_sem,recoverD,hu,Tryz.ntmps105,Exit.thenS];refine wpS_cond (t:=true) (by simp[Act.eval,Array.replicate]) ?_;simp only[if_true];refine wpS_of_wp ?_;have hta:∀W:World,(Instr.typeAssert (Value.iface 137 (Value.agg #[Value.int IntKind.i64 e])) 20 137 true).run Tryz.prog W= .ok (.tuple #[.agg #[.int .i64 e],.bool true]) W:=fun _=>by kernel_rfl
 have harr:∀a b c d e f g h:Value,#[a,b]++((((((Array.replicate 18 undef).setIfInBounds 4 c).setIfInBounds 0 d).setIfInBounds 5 e).setIfInBounds 6 f))=#[a,b,d,undef,undef,undef,c,e,f,undef,undef,undef,undef,undef,undef,undef,undef,undef,undef,undef]:=fun _ _ _ _ _ _ _ _=>by first |kernel_rfl|simp[Array.replicate_succ]
 rw[harr _ _ _ _ _ _ undef undef];go_wp2;obtain⟨hle,hk,hk2⟩:=qAi (Le.refl ((w.alloc (.cells #[.int .i64 e] 137)).alloc (.cells #[.bool false,.slice none 0 0,.bool false,.slice none 0 0] 26)));generalize hW:(w.alloc (.cells #[.int .i64 e] 137)).alloc (.cells #[.bool false,.slice none 0 0,.bool false,.slice none 0 0] 26)=W at*;have hb2:=(Below.block hle B (gsl hb)).trans hb;have hq2:=(Below.block hle (B+1) (gsl hq)).trans hq;have hBl:=(gsl hb);have hql:=(gsl hq);obtain⟨c10,c11,c12,c13⟩:=qAA hb2;have⟨f10,f11,f12,f13⟩:=frz4 hb2;have c2:=qAC hq2;have f2:=fz0 hq2 0;have c3:=qAC hk;obtain⟨c40,c41,c42,c43⟩:=qAA hk2;have n1:¬w.heap.size=B:=by omega
 have n2:¬w.heap.size=B+1:=by omega
 have n3:¬B=w.heap.size:=by omega
 have n4:¬B+1=w.heap.size:=by omega
 have n5:¬B+1=B:=by omega
 have n6:¬w.heap.size+1=B:=by omega
 have n7:¬w.heap.size+1=B+1:=by omega
 have n8:¬B=w.heap.size+1:=by omega
 have⟨hW',hle',hk',hk2',hb',hq',hb2',hq2'⟩:=hyd8 hW hle hk hk2 hb hq hb2 hq2;have hu':=hyd1 hu;clear hu hq2 hb2 hq hb hk2 hk hle hW;go_region;have h1:=qAd hb2'.out (u0:= .bool false) (u1:= .slice none 0 0) (u2:= .bool false) (u3:= .slice none 0 0);have hne:B+1≠B:=by omega
 have h2:((((W.setCell ⟨B,0,none⟩ (.bool false)).setCell ⟨B,1,none⟩ (.slice none 0 0)).setCell ⟨B,2,none⟩ (.bool false)).setCell ⟨B,3,none⟩ (.slice none 0 0)).heap[B+1]? =some (.cells #[b] tq):=((Below.heap_setCell _ _ _ _ hne).trans ((Below.heap_setCell _ _ _ _ hne).trans ((Below.heap_setCell _ _ _ _ hne).trans (Below.heap_setCell _ _ _ _ hne)))).trans hq2'.out;have hle8:∀w0,Le w0 w→w0.heap.size≤B→Le w0 ((((W.setCell ⟨B,0,none⟩ (.bool false)).setCell ⟨B,1,none⟩ (.slice none 0 0)).setCell ⟨B,2,none⟩ (.bool false)).setCell ⟨B,3,none⟩ (.slice none 0 0)):=fun w0 h0 h5=>qAu (Le.trans h0 hle'.out) h5;generalize ((((W.setCell ⟨B,0,none⟩ (.bool false)).setCell ⟨B,1,none⟩ (.slice none 0 0)).setCell ⟨B,2,none⟩ (.bool false)).setCell ⟨B,3,none⟩ (.slice none 0 0))=V1 at*;have h3:=qAW h2 (u:= .int .i64 e);have h4:(V1.setCell ⟨B+1,0,none⟩ (.int .i64 e)).heap[B]? =_:=(Below.heap_setCell _ _ _ _ (by show B≠B+1;omega)).trans h1
 have hle9:∀w0,Le w0 w→w0.heap.size≤B→Le w0 (V1.setCell ⟨B+1,0,none⟩ (.int .i64 e)).drew :=fun w0 h0 h5=>
  Le.trans ((hle8 w0 h0 h5).setCell (p:=⟨B+1,0,none⟩) (by show w0.heap.size≤B+1;omega) _) Le.drew
 have d1:(V1.setCell ⟨B+1,0,none⟩ (.int .i64 e)).drew.heap[B]? =_:=h4;have d2:(V1.setCell ⟨B+1,0,none⟩ (.int .i64 e)).drew.cell? ⟨B+1,0,none⟩=_:=qAC h3;generalize (V1.setCell ⟨B+1,0,none⟩ (.int .i64 e)).drew =V at*;show bodyPostS _ _ _ _ _ _ _ _ _;simp[bodyPostS,results,Tryz.results105,go_sem,d1,d2];exact hle9
theorem FracL.set {L:Nat→Prop} {W:World} {v u x:Value} {r:Rat} {k:Nat} {t:TypeId} (h:FracL L W v r) (hk:W.heap[k]? =some (.cells #[x] t)) (hx:∀g:Nat,x≠gv .u32 g):FracL L (W.setCell ⟨k,0,none⟩ u) v r:=by
 obtain⟨A,c,B,d,e,h1,h2⟩:=h;exact⟨A,c,B,d,e,h1.box_set hk hx,h2.box_set hk hx⟩
theorem qDb (L:Nat→Prop) (r:Rat) (g:FuncId) (cap:Array Value) (w:World) (hg:qAF Tryz.prog g) (hf:∀W,Le w W→Calls Tryz.prog g cap W fun e W'=>∃v,e= .returned v∧Le W W'∧FracL L W' v r):
  Calls Tryz.prog 42 #[.func (.func g) #[] cap] w fun e w'=>∃v,e= .returned (.tuple #[v,.int .i64 0])∧Le w w'∧FracL L w' v r:=by
 have hmf:∀(fn:Fn) (first cap:Array Value) (w:World),(Instr.makeFunc fn first cap).run Tryz.prog w= .ok (.func fn first cap) w:=fun _ _ _ _=>rfl;unfold qAF at hg
 go_enter_defers Tryz.func42,Tryz.ntmps42
 go_wp2_with (fail);refine(hf _ ((qAB _ _).trans (qAB _ _))).mono ?_;rintro e W ⟨v,rfl,hle,hfr⟩;obtain⟨A1,c1,A2,c2,rfl,y1,y2⟩:=hfr;obtain⟨hle1,hb,hq⟩:=qAi hle;obtain⟨c10,c11,c12,c13⟩:=qAA hb;have⟨f10,f11,f12,f13⟩:=frz4 hb;have e2:=qAC hq;have f2:=fz0 hq 0;have hBl:=(gsl hb);have hql:=(gsl hq);obtain⟨s,hs⟩:∃s,rneg r=s:=⟨_,rfl⟩;rw[hs];have⟨hle',hle1',hb',hq',y1',y2',hs'⟩:=hyd7 hle hle1 hb hq y1 y2 hs;clear hs y2 y1 hq hb hle1 hle;go_wp2;have h1:=qAd hb'.out (u0:= .bool s) (u1:= .slice A1 (dg (rnum r)).length c1) (u2:= .bool false) (u3:= .slice A2 (dg r.den).length c2);have hne:w.heap.size+1≠w.heap.size:=by omega
 have h2:((((W.setCell ⟨w.heap.size,0,none⟩ (.bool s)).setCell ⟨w.heap.size,1,none⟩ (.slice A1 (dg (rnum r)).length c1)).setCell ⟨w.heap.size,2,none⟩ (.bool false)).setCell ⟨w.heap.size,3,none⟩ (.slice A2 (dg r.den).length c2)).heap[w.heap.size+1]? =_:=((Below.heap_setCell _ _ _ _ hne).trans ((Below.heap_setCell _ _ _ _ hne).trans ((Below.heap_setCell _ _ _ _ hne).trans (Below.heap_setCell _ _ _ _ hne)))).trans hq'.out;have hle8:Le w ((((W.setCell ⟨w.heap.size,0,none⟩ (.bool s)).setCell ⟨w.heap.size,1,none⟩ (.slice A1 (dg (rnum r)).length c1)).setCell ⟨w.heap.size,2,none⟩ (.bool false)).setCell ⟨w.heap.size,3,none⟩ (.slice A2 (dg r.den).length c2)):=qAu hle1'.out (Nat.le_refl _);have hfr:FracL L ((((W.setCell ⟨w.heap.size,0,none⟩ (.bool s)).setCell ⟨w.heap.size,1,none⟩ (.slice A1 (dg (rnum r)).length c1)).setCell ⟨w.heap.size,2,none⟩ (.bool false)).setCell ⟨w.heap.size,3,none⟩ (.slice A2 (dg r.den).length c2)) (.agg #[.bool s,.slice A1 (dg (rnum r)).length c1,.bool false,.slice A2 (dg r.den).length c2]) r:=⟨_,_,_,_,by rw[hs'.out],y1'.out.box4 hb'.out,y2'.out.box4 hb'.out⟩;generalize ((((W.setCell ⟨w.heap.size,0,none⟩ (.bool s)).setCell ⟨w.heap.size,1,none⟩ (.slice A1 (dg (rnum r)).length c1)).setCell ⟨w.heap.size,2,none⟩ (.bool false)).setCell ⟨w.heap.size,3,none⟩ (.slice A2 (dg r.den).length c2))=V1 at*;have h3:=qAW h2 (u:= .int .i64 0);have h4:(V1.setCell ⟨w.heap.size+1,0,none⟩ (.int .i64 0)).heap[w.heap.size]? =_:=(Below.heap_setCell _ _ _ _ (by show w.heap.size≠w.heap.size+1;omega)).trans h1
 have hle9:Le w (V1.setCell ⟨w.heap.size+1,0,none⟩ (.int .i64 0)):=hle8.setCell (p:=⟨w.heap.size+1,0,none⟩) (by show w.heap.size≤w.heap.size+1;omega) _;have hfr9:=hfr.set (u:= .int .i64 0) h2 (fun g=>by unfold gv;simp);obtain⟨d10,d11,d12,d13⟩:=qAA h4;have d2:=qAC h3;refine leaves_cons (f:=105) (args:=#[.pointer (some ⟨w.heap.size,0,none⟩),.pointer (some ⟨w.heap.size+1,0,none⟩)]) (by simp) (by simp[go_sem]) ?_;refine(qIs _ _ _).mono ?_;rintro e u' w'' ⟨rfl,rfl,rfl⟩;simp[Leaves,settle,results,Tryz.results42,go_sem,d10,d11,d12,d13,d2];exact⟨hle9,hfr9⟩
theorem qEb (x:Int) (g:FuncId) (cap:Array Value) (w:World) (hg:qAF Tryz.prog g) (hf:∀W,Le w W→Calls Tryz.prog g cap W fun e W'=>e= .panicked [{v:= .iface 137 (.agg #[.int .i64 x]),recovered:=false}]∧Le W W'):
  Calls Tryz.prog 42 #[.func (.func g) #[] cap] w fun e w'=>e= .returned (.tuple #[.agg #[.bool false,.slice none 0 0,.bool false,.slice none 0 0],.int .i64 x])∧Le w w':=by
 have hmf:∀(fn:Fn) (first cap:Array Value) (w:World),(Instr.makeFunc fn first cap).run Tryz.prog w= .ok (.func fn first cap) w:=fun _ _ _ _=>rfl;unfold qAF at hg
 go_enter_defers Tryz.func42,Tryz.ntmps42
 go_wp2_with (fail);refine(hf _ ((qAB _ _).trans (qAB _ _))).mono ?_;rintro e W ⟨rfl,hle⟩;obtain⟨hle1,hb,hq⟩:=qAi hle;have hle':=hyd1 hle;clear hle;go_wp2;refine leaves_cons (f:=105) (args:=#[.pointer (some ⟨w.heap.size,0,none⟩),.pointer (some ⟨w.heap.size+1,0,none⟩)]) (by simp) (by simp[go_sem]) ?_;refine(qH5 w.heap.size x _ _ _ _ _ _ _ _ _ _ _ _ hb hq).mono ?_;rintro e u' w'' ⟨rfl,rfl,d1,d2,hl⟩;have hle9:=hl w hle1 (Nat.le_refl _);obtain⟨d10,d11,d12,d13⟩:=qAA d1;simp[Leaves,settle,results,Tryz.results42,go_sem,d10,d11,d12,d13,d2];exact hle9
end Go.Proofs.YtenjpccpldajoaaGreatDoor

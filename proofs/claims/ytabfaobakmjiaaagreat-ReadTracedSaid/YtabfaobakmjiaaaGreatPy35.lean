/- Turning numbers as values: six cells (two fractions), eight cells (two api.Frac); boxes that hold them. From what a row's opening gives of a slice of integers .. -/
import Derived.Test.YtabfaobakmjiaaaGreatPy34
import Derived.ProofKit
import Derived.OpenShut
import Derived.ShutString
import Derived.ChangeOld
import Derived.Below
import Derived.Lib.SmallJoins
namespace Go.Proofs.YtabfaobakmjiaaaGreat
set_option maxRecDepth 100000
open Go.RowKit Go.Shelf
set_option linter.unusedVariables false
set_option linter.unusedSimpArgs false
set_option maxRecDepth 10000
abbrev RatT (k:IntKind) (w:World) (v:Value) (r:Rat):Prop:=RatL (λ_=>True) k w v r
abbrev qEg (w:World) (v:Value) (r:Rat):Prop:=FracL (λ_=>True) w v r
def TurnL (k:IntKind) (w:World) (v:Value) (g:G2):Prop:=
 ∃s1 A1 n1 c1 B1 m1 d1 s2 A2 n2 c2 B2 m2 d2,v= .agg #[.bool s1,.slice A1 n1 c1,.slice B1 m1 d1,.bool s2,.slice A2 n2 c2,.slice B2 m2 d2]∧
  RatT k w (.agg #[.bool s1,.slice A1 n1 c1,.slice B1 m1 d1]) g.1/\RatT k w (.agg #[.bool s2,.slice A2 n2 c2,.slice B2 m2 d2]) g.2
def TurnF (w:World) (v:Value) (g:G2):Prop:=
 ∃s1 A1 n1 c1 t1 B1 m1 d1 s2 A2 n2 c2 t2 B2 m2 d2,v= .agg #[.bool s1,.slice A1 n1 c1,.bool t1,.slice B1 m1 d1,.bool s2,.slice A2 n2 c2,.bool t2,.slice B2 m2 d2]∧
  qEg w (.agg #[.bool s1,.slice A1 n1 c1,.bool t1,.slice B1 m1 d1]) g.1/\qEg w (.agg #[.bool s2,.slice A2 n2 c2,.bool t2,.slice B2 m2 d2]) g.2
def IsTurnA (w:World) (v:Value) (x:FracA×FracA):Prop:=
 ∃A1 c1 B1 d1 A2 c2 B2 d2,v= .agg #[.bool x.1.sn,.slice A1 x.1.gn.length c1,.bool x.1.sd,.slice B1 x.1.gd.length d1,.bool x.2.sn,.slice A2 x.2.gn.length c2,.bool x.2.sd,.slice B2 x.2.gd.length d2]∧
  IsFracA (λ_=>True) w (.agg #[.bool x.1.sn,.slice A1 x.1.gn.length c1,.bool x.1.sd,.slice B1 x.1.gd.length d1]) x.1/\IsFracA (λ_=>True) w (.agg #[.bool x.2.sn,.slice A2 x.2.gn.length c2,.bool x.2.sd,.slice B2 x.2.gd.length d2]) x.2
noncomputable def tval (x:FracA×FracA):Option G2:=
 match x.1.rat?,x.2.rat? with
 | some a,some b=>some (a,b)
 | _,_=>none
def qKS (v:Value):Prop:=∃s1 A1 n1 c1 B1 m1 d1 s2 A2 n2 c2 B2 m2 d2,v= .agg #[.bool s1,.slice A1 n1 c1,.slice B1 m1 d1,.bool s2,.slice A2 n2 c2,.slice B2 m2 d2]
theorem TurnL.mk {k:IntKind} {w:World} {g:G2} {s1 s2:Bool} {A1 B1 A2 B2:Option Addr} {n1 c1 m1 d1 n2 c2 m2 d2:Nat} (h1:RatT k w (.agg #[.bool s1,.slice A1 n1 c1,.slice B1 m1 d1]) g.1) (h2:RatT k w (.agg #[.bool s2,.slice A2 n2 c2,.slice B2 m2 d2]) g.2):
  TurnL k w (.agg #[.bool s1,.slice A1 n1 c1,.slice B1 m1 d1,.bool s2,.slice A2 n2 c2,.slice B2 m2 d2]) g:=⟨_,_,_,_,_,_,_,_,_,_,_,_,_,_,rfl,h1,h2⟩
theorem TurnF.mk {w:World} {g:G2} {s1 s2 t1 t2:Bool} {A1 B1 A2 B2:Option Addr} {n1 c1 m1 d1 n2 c2 m2 d2:Nat} (h1:qEg w (.agg #[.bool s1,.slice A1 n1 c1,.bool t1,.slice B1 m1 d1]) g.1) (h2:qEg w (.agg #[.bool s2,.slice A2 n2 c2,.bool t2,.slice B2 m2 d2]) g.2):
  TurnF w (.agg #[.bool s1,.slice A1 n1 c1,.bool t1,.slice B1 m1 d1,.bool s2,.slice A2 n2 c2,.bool t2,.slice B2 m2 d2]) g:=⟨_,_,_,_,_,_,_,_,_,_,_,_,_,_,_,_,rfl,h1,h2⟩
theorem TurnL.le {k:IntKind} {w W:World} {v:Value} {g:G2} (h:TurnL k w v g) (hb:Le w W):TurnL k W v g:=by
 obtain⟨x,d,s,l,i,q,o,y,f,t,m,j,r,p,rfl,b,c⟩:=h;exact .mk (b.le hb) (c.le hb)
theorem TurnF.le {w W:World} {v:Value} {g:G2} (h:TurnF w v g) (hb:Le w W):TurnF W v g:=by
 obtain⟨t,d,r,k,y,i,p,m,x,f,s,l,z,j,q,o,rfl,b,c⟩:=h;exact .mk (b.le hb) (c.le hb)
theorem IsTurnA.le {w W:World} {v:Value} {x:FracA×FracA} (h:IsTurnA w v x) (hb:Le w W):IsTurnA W v x:=by
 obtain⟨b,g,d,j,c,i,f,k,rfl,l,m⟩:=h;exact⟨b,g,d,j,c,i,f,k,rfl,l.le hb,m.le hb⟩
theorem TurnL.form {k:IntKind} {w:World} {v:Value} {g:G2} (h:TurnL k w v g):qKS v:=by
 obtain⟨s,b,q,i,d,o,l,t,c,r,j,f,p,m,rfl,-,-⟩:=h;exact⟨s,b,q,i,d,o,l,t,c,r,j,f,p,m,rfl⟩
theorem FracL.fform {L:Nat->Prop} {w:World} {v:Value} {r:Rat} (h:FracL L w v r):qSP v:=by
 obtain⟨A,c,B,d,e,-,-⟩:=h;exact⟨_,_,_,_,_,_,_,_,e⟩
def MPred.turn (k:IntKind) (g:G2):MPred:=⟨λv w=>TurnL k w v g,λ_ _ _ hb h=>h.le hb⟩
def MPred.ratT (k:IntKind) (r:Rat):MPred:=⟨λv w=>RatT k w v r,λ_ _ _ hb h=>h.le hb⟩
def MPred.frO (r:Rat):MPred:=⟨λv w=>Rsz r 40/\qEg w v r,λ_ _ _ hb h=>⟨h.1,h.2.le hb⟩⟩
def Touch (B:Nat) (W W':World):Prop:=W'.heap.size=W.heap.size/\(∀b,b≠B->W'.heap[b]? =W.heap[b]?)/\∀cs t,W.heap[B]? =some (.cells cs t)->∃cs',W'.heap[B]? =some (.cells cs' t)
theorem Touch.refl (B:Nat) (W:World):Touch B W W:=⟨rfl,λ_ _=>rfl,λcs t h=>⟨cs,h⟩⟩
theorem Touch.set {B:Nat} {W W':World} (h:Touch B W W') (i:Nat) (u:Value):Touch B W (W'.setCell ⟨B,i,none⟩ u):=by
 obtain⟨j,k,l⟩:=h;refine⟨by simpa[World.setCell]using j,λb f=>(Below.heap_setCell _ _ _ _ f).trans (k b f),λg t m=>?_⟩;obtain⟨c,d⟩:=l g t m;exact⟨c.setIfInBounds i u,by simp[World.setCell,Array.getElem?_modify,d]⟩
def qDk (W:World) (B:Nat):Prop:=∃cs t,W.heap[B]? =some (.cells cs t)/\∀(i:Nat) (k:IntKind) (z:Int),cs[i]? ≠some (.int k z)
theorem ArrL.touch {α:Type} {L:Nat->Prop} {f:α->Value} {W W':World} {v:Value} {xs:List α} {B:Nat} (hf:∀x,∃k z,f x= .int k z) (h:ArrL L f W v xs) (hk:qDk W B) (ht:Touch B W W'):ArrL L f W' v xs:=by
 obtain⟨A,c,F,q,r,y,s⟩:=h;refine⟨A,c,F,q,r,y,λo=>?_⟩;obtain⟨b,off,C,D,i,p⟩:=s o;obtain⟨I,t,g,m⟩:=hk
 have l:b≠B:=by
  rintro rfl;have d:=p 0 o;obtain⟨k,z,G⟩:=hf xs[0];rw[G]at d;simp only[World.cell?,g]at d;exact m _ _ _ d
 exact⟨b,off,C,D,by rw[ht.1];exact i,λj E=>(World.cell?_of_block (ht.2.1 b l)).trans (p j E)⟩
theorem NumL.touch {L:Nat->Prop} {k:IntKind} {W W':World} {v:Value} {n B:Nat} (h:NumL L k W v n) (hk:qDk W B) (ht:Touch B W W'):NumL L k W' v n:=ArrL.touch (λx=>⟨k,_,rfl⟩) h hk ht
theorem RatL.touch {L:Nat->Prop} {k:IntKind} {W W':World} {v:Value} {r:Rat} {B:Nat} (h:RatL L k W v r) (hk:qDk W B) (ht:Touch B W W'):RatL L k W' v r:=by
 obtain⟨f,d,e,b,c⟩:=h;exact⟨f,d,e,b.touch hk ht,c.touch hk ht⟩
theorem Unf.touch {W W':World} {v:Value} {B:Nat} (h:Unf W v) (ht:Touch B W W'):Unf W' v:=λb off m c e=>by
 obtain⟨cs,t,h1⟩:=h b off m c e
 by_cases hb:b=B
 ·subst hb;obtain⟨cs',h2⟩:=ht.2.2 cs t h1;exact⟨cs',t,h2⟩
 ·exact⟨cs,t,(ht.2.1 b hb).trans h1⟩
theorem FracL.touch {L:Nat->Prop} {W W':World} {v:Value} {r:Rat} {B:Nat} (h:FracL L W v r) (hk:qDk W B) (ht:Touch B W W'):FracL L W' v r:=by
 obtain⟨A,c,C,d,e,b,f⟩:=h;exact⟨A,c,C,d,e,⟨b.1.touch hk ht,b.2.touch ht⟩,⟨f.1.touch hk ht,f.2.touch ht⟩⟩
theorem TurnF.touch {W W':World} {v:Value} {g:G2} {B:Nat} (h:TurnF W v g) (hk:qDk W B) (ht:Touch B W W'):TurnF W' v g:=by
 obtain⟨t,d,r,k,y,i,p,m,x,f,s,l,z,j,q,o,rfl,b,c⟩:=h;exact .mk (b.touch hk ht) (c.touch hk ht)
def set6 (W:World) (X:Nat) (u0 u1 u2 u3 u4 u5:Value):World:=(((((W.setCell ⟨X,0,none⟩ u0).setCell ⟨X,1,none⟩ u1).setCell ⟨X,2,none⟩ u2).setCell ⟨X,3,none⟩ u3).setCell ⟨X,4,none⟩ u4).setCell ⟨X,5,none⟩ u5
def set8 (W:World) (X:Nat) (u0 u1 u2 u3 u4 u5 u6 u7:Value):World:=(((((((W.setCell ⟨X,0,none⟩ u0).setCell ⟨X,1,none⟩ u1).setCell ⟨X,2,none⟩ u2).setCell ⟨X,3,none⟩ u3).setCell ⟨X,4,none⟩ u4).setCell ⟨X,5,none⟩ u5).setCell ⟨X,6,none⟩ u6).setCell ⟨X,7,none⟩ u7
theorem qDl (W:World) (X:Nat) (u0 u1 u2:Value):Touch X W (((W.setCell ⟨X,0,none⟩ u0).setCell ⟨X,1,none⟩ u1).setCell ⟨X,2,none⟩ u2):=(((Touch.refl X W).set 0 u0).set 1 u1).set 2 u2
theorem qAG (W:World) (X:Nat) (u0 u1 u2 u3 u4 u5:Value):Touch X W (set6 W X u0 u1 u2 u3 u4 u5):=((((((Touch.refl X W).set 0 u0).set 1 u1).set 2 u2).set 3 u3).set 4 u4).set 5 u5
theorem qAT (W:World) (X:Nat) (u0 u1 u2 u3 u4 u5 u6 u7:Value):Touch X W (set8 W X u0 u1 u2 u3 u4 u5 u6 u7):=((((((((Touch.refl X W).set 0 u0).set 1 u1).set 2 u2).set 3 u3).set 4 u4).set 5 u5).set 6 u6).set 7 u7
theorem qAt {W:World} {X:Nat} {v0 v1 v2 v3 v4 v5:Value} {t:TypeId} (h:W.heap[X]? =some (Obj.cells #[v0,v1,v2,v3,v4,v5] t)) (u0 u1 u2 u3 u4 u5:Value):(set6 W X u0 u1 u2 u3 u4 u5).heap[X]? =some (.cells #[u0,u1,u2,u3,u4,u5] t):=by
 simp only[set6,World.setCell,Array.getElem?_modify,h];simp
theorem qAc {W:World} {X:Nat} {v0 v1 v2 v3 v4 v5 v6 v7:Value} {t:TypeId} (h:W.heap[X]? =some (Obj.cells #[v0,v1,v2,v3,v4,v5,v6,v7] t)) (u0 u1 u2 u3 u4 u5 u6 u7:Value):(set8 W X u0 u1 u2 u3 u4 u5 u6 u7).heap[X]? =some (.cells #[u0,u1,u2,u3,u4,u5,u6,u7] t):=by
 simp only[set8,World.setCell,Array.getElem?_modify,h];simp
theorem qBK {w W:World} {X:Nat} (h:Le w W) (hX:w.heap.size<=X) (u0 u1 u2 u3 u4 u5:Value):Le w (set6 W X u0 u1 u2 u3 u4 u5):=
 (((((Below.setCell h (p:=⟨X,0,none⟩) hX _).setCell (p:=⟨X,1,none⟩) hX _).setCell (p:=⟨X,2,none⟩) hX _).setCell (p:=⟨X,3,none⟩) hX _).setCell (p:=⟨X,4,none⟩) hX _).setCell (p:=⟨X,5,none⟩) hX _
theorem qBC {w W:World} {X:Nat} (h:Le w W) (hX:w.heap.size<=X) (u0 u1 u2 u3 u4 u5 u6 u7:Value):Le w (set8 W X u0 u1 u2 u3 u4 u5 u6 u7):=
 (((((((Below.setCell h (p:=⟨X,0,none⟩) hX _).setCell (p:=⟨X,1,none⟩) hX _).setCell (p:=⟨X,2,none⟩) hX _).setCell (p:=⟨X,3,none⟩) hX _).setCell (p:=⟨X,4,none⟩) hX _).setCell (p:=⟨X,5,none⟩) hX _).setCell (p:=⟨X,6,none⟩) hX _).setCell (p:=⟨X,7,none⟩) hX _
theorem qAM {W:World} {X:Nat} {v0 v1 v2 v3 v4 v5:Value} {t:TypeId} (h:W.heap[X]? =some (Obj.cells #[v0,v1,v2,v3,v4,v5] t)):W.cell? ⟨X,0,none⟩=some v0/\W.cell? ⟨X,1,none⟩=some v1/\W.cell? ⟨X,2,none⟩=some v2/\W.cell? ⟨X,3,none⟩=some v3/\W.cell? ⟨X,4,none⟩=some v4/\W.cell? ⟨X,5,none⟩=some v5:=
 ⟨cell_of_row W X 0 _ _ _ h,cell_of_row W X 1 _ _ _ h,cell_of_row W X 2 _ _ _ h,cell_of_row W X 3 _ _ _ h,cell_of_row W X 4 _ _ _ h,cell_of_row W X 5 _ _ _ h⟩
theorem qAF {W:World} {X:Nat} {v0 v1 v2 v3 v4 v5 v6 v7:Value} {t:TypeId} (h:W.heap[X]? =some (Obj.cells #[v0,v1,v2,v3,v4,v5,v6,v7] t)):W.cell? ⟨X,0,none⟩=some v0/\W.cell? ⟨X,1,none⟩=some v1/\W.cell? ⟨X,2,none⟩=some v2/\W.cell? ⟨X,3,none⟩=some v3/\W.cell? ⟨X,4,none⟩=some v4/\W.cell? ⟨X,5,none⟩=some v5/\W.cell? ⟨X,6,none⟩=some v6/\W.cell? ⟨X,7,none⟩=some v7:=
 ⟨cell_of_row W X 0 _ _ _ h,cell_of_row W X 1 _ _ _ h,cell_of_row W X 2 _ _ _ h,cell_of_row W X 3 _ _ _ h,cell_of_row W X 4 _ _ _ h,cell_of_row W X 5 _ _ _ h,cell_of_row W X 6 _ _ _ h,cell_of_row W X 7 _ _ _ h⟩
theorem qIR {W:World} {X:Nat} {s1:Bool} {A1 B1:Option Addr} {n1 c1 m1 d1:Nat} {t:TypeId} (h:W.heap[X]? =some (Obj.cells #[.bool s1,.slice A1 n1 c1,.slice B1 m1 d1] t)):qDk W X:=by
 refine⟨_,_,h,λi k z=>?_⟩
 match i with
 | 0|1|2=>simp
 | i+3=>simp
theorem qAd {W:World} {X:Nat} {s1 s2:Bool} {A1 B1 A2 B2:Option Addr} {n1 c1 m1 d1 n2 c2 m2 d2:Nat} {t:TypeId} (h:W.heap[X]? =some (Obj.cells #[.bool s1,.slice A1 n1 c1,.slice B1 m1 d1,.bool s2,.slice A2 n2 c2,.slice B2 m2 d2] t)):qDk W X:=by
 refine⟨_,_,h,λi k z=>?_⟩
 match i with
 | 0|1|2|3|4|5=>simp
 | i+6=>simp
theorem qAu {W:World} {X:Nat} {s1 s2 t1 t2:Bool} {A1 B1 A2 B2:Option Addr} {n1 c1 m1 d1 n2 c2 m2 d2:Nat} {t:TypeId} (h:W.heap[X]? =some (Obj.cells #[.bool s1,.slice A1 n1 c1,.bool t1,.slice B1 m1 d1,.bool s2,.slice A2 n2 c2,.bool t2,.slice B2 m2 d2] t)):qDk W X:=by
 refine⟨_,_,h,λi k z=>?_⟩
 match i with
 | 0|1|2|3|4|5|6|7=>simp
 | i+8=>simp
theorem bxl {w W:World} {B:Nat} {o:Obj} (h:Le w W) (hk:w.heap[B]? =some o):W.heap[B]? =some o:=(Below.block h B (gsl hk)).trans hk
def IsResT (w:World) (v:Value) (c:Int):Except Int G2->Prop
 | .ok g=>TurnF w v g/\c=0
 | .error x=>v= .agg #[.bool false,.slice none 0 0,.bool false,.slice none 0 0,.bool false,.slice none 0 0,.bool false,.slice none 0 0]/\c=x
def qCt (res:Except Int G2) (w:World) (e:Ending) (w':World):Prop:=Le w w'/\∃v c,e= .returned (.tuple #[v,.int .i64 c])/\IsResT w' v c res
open Classical in
noncomputable def outG (g:G2):Except Int G2:=if TSz g 40 then .ok g else .error 12
theorem qCR {g:G2} (h:TSz g 40):outG g= .ok g:=by unfold outG;rw[if_pos h]
theorem qEk {g:G2} (h:¬TSz g 40):outG g= .error 12:=by unfold outG;rw[if_neg h]
def OperPostT (res:Except Int G2) (w:World) (e:Ending) (w':World):Prop:=Le w w'/\((∃r v,res= .ok r/\e= .returned v/\TurnF w' v r)∨(∃c,res= .error c/\e= .panicked (flt c)))
noncomputable def opG (f:G2->G2->Except Int G2) (x y:FracA×FracA):Except Int G2:=
 match tval x,tval y with
 | some a,some b=>f a b
 | _,_=> .error 10
theorem qJg {x:FracA×FracA} {a b:Rat} (h1:x.1.rat?=some a) (h2:x.2.rat?=some b):tval x=some (a,b):=by unfold tval;rw[h1,h2]
theorem qPH {x:FracA×FracA} (h:x.1.rat?=none):tval x=none:=by unfold tval;rw[h]
theorem qNk {x:FracA×FracA} (h:x.2.rat?=none):tval x=none:=by
 unfold tval;rw[h]
 cases x.1.rat?<;>rfl
theorem qFt {x:FracA×FracA} {g:G2} (h:tval x=some g):x.1.rat?=some g.1/\x.2.rat?=some g.2:=by
 unfold tval at h
 cases h1:x.1.rat? with
 | none=>rw[h1]at h;cases h
 | some a=>
  cases h2:x.2.rat? with
  | none=>rw[h1,h2]at h;cases h
  | some b=>
   rw[h1,h2]at h;injection h with h;subst h;exact⟨rfl,rfl⟩
theorem qMi {x:FracA×FracA} {g:G2} (h:tval x=some g):TSz g 40:=⟨FracA.sz (qFt h).1,FracA.sz (qFt h).2⟩
theorem TSz.up {g:G2} {m n:Nat} (h:TSz g m) (hmn:m<=n):TSz g n:=⟨h.1.up hmn,h.2.up hmn⟩
theorem qEF {a b:Rat} {n m:Nat} (ha:Rsz a n) (hb:Rsz b n) (h:n+n<=m):Rsz (a*b) m:=(qEE ha hb).up h
theorem qLX {b:G2} {n:Nat} (h:TSz b n):TSz (qA0 b) n:=⟨h.1,qMh h.2⟩
theorem qRT {a b:G2} {n m:Nat} (ha:TSz a n) (hb:TSz b n) (h:n+n+(n+n)+1<=m):TSz (gmul a b) m:=
 ⟨(qRS (qEE ha.1 hb.1) (qEE ha.2 hb.2)).up h,(qDG (qEE ha.1 hb.2) (qEE ha.2 hb.1)).up h⟩
theorem qQO {a:G2} {n m:Nat} (ha:TSz a n) (h:n+n+(n+n)+1<=m):Rsz (qAR a) m:=(qDG (qEE ha.1 ha.1) (qEE ha.2 ha.2)).up h
def qRU (x:FracA×FracA) (w:World) (e:Ending) (w':World):Prop:=Le w w'/\((∃g v,tval x=some g/\e= .returned v/\TurnL .u32 w' v g)∨(tval x=none/\e= .panicked (flt 10)))
def MPred.turnO (x:FracA×FracA):MPred:=⟨λv w=>∃g,tval x=some g/\TurnL .u32 w v g,λ_ _ _ hb ⟨g,h1,h2⟩=>⟨g,h1,h2.le hb⟩⟩
def MPred.turnFO (g:G2):MPred:=⟨λv w=>TSz g 40/\TurnF w v g,λ_ _ _ hb h=>⟨h.1,h.2.le hb⟩⟩
def TBox (k:IntKind) (t:TypeId) (W:World) (B:Nat) (g:G2):Prop:=
 ∃s1 A1 n1 c1 B1 m1 d1 s2 A2 n2 c2 B2 m2 d2,W.heap[B]? =some (.cells #[.bool s1,.slice A1 n1 c1,.slice B1 m1 d1,.bool s2,.slice A2 n2 c2,.slice B2 m2 d2] t)∧
  RatT k W (.agg #[.bool s1,.slice A1 n1 c1,.slice B1 m1 d1]) g.1/\RatT k W (.agg #[.bool s2,.slice A2 n2 c2,.slice B2 m2 d2]) g.2
theorem TBox.le {k:IntKind} {t:TypeId} {w W:World} {B:Nat} {g:G2} (h:TBox k t w B g) (hb:Le w W):TBox k t W B g:=by
 obtain⟨y,b,v,i,d,r,l,z,c,x,j,f,s,m,q,o,p⟩:=h;exact⟨y,b,v,i,d,r,l,z,c,x,j,f,s,m,bxl hb q,o.le hb,p.le hb⟩
theorem TBox.noInt {k:IntKind} {t:TypeId} {W:World} {B:Nat} {g:G2} (h:TBox k t W B g):qDk W B:=by
 obtain⟨y,c,v,j,f,r,m,z,d,x,l,i,s,o,b,p,q⟩:=h;exact qAd b
theorem TBox.other {k:IntKind} {t:TypeId} {W W':World} {B C:Nat} {g:G2} (h:TBox k t W C g) (hn:qDk W B) (ht:Touch B W W') (hne:C≠B):TBox k t W' C g:=by
 obtain⟨y,b,v,i,d,r,l,z,c,x,j,f,s,m,q,o,p⟩:=h;exact⟨y,b,v,i,d,r,l,z,c,x,j,f,s,m,(ht.2.1 C hne).trans q,o.touch hn ht,p.touch hn ht⟩
theorem TBox.put {k:IntKind} {t:TypeId} {W:World} {B:Nat} {g g':G2} (h:TBox k t W B g') {s1 s2:Bool} {A1 B1 A2 B2:Option Addr} {n1 c1 m1 d1 n2 c2 m2 d2:Nat}
  (h1:RatT k W (.agg #[.bool s1,.slice A1 n1 c1,.slice B1 m1 d1]) g.1) (h2:RatT k W (.agg #[.bool s2,.slice A2 n2 c2,.slice B2 m2 d2]) g.2):
  TBox k t (set6 W B (.bool s1) (.slice A1 n1 c1) (.slice B1 m1 d1) (.bool s2) (.slice A2 n2 c2) (.slice B2 m2 d2)) B g:=by
 have b:=h.noInt;obtain⟨x,c,s,j,f,q,m,y,d,v,l,i,r,o,p,-,-⟩:=h;exact⟨_,_,_,_,_,_,_,_,_,_,_,_,_,_,qAt p _ _ _ _ _ _,h1.touch b (qAG _ _ _ _ _ _ _ _),h2.touch b (qAG _ _ _ _ _ _ _ _)⟩
theorem TBox.mk {k:IntKind} {t:TypeId} {W:World} {B:Nat} {g:G2} {s1 s2:Bool} {A1 B1 A2 B2:Option Addr} {n1 c1 m1 d1 n2 c2 m2 d2:Nat} (hk:W.heap[B]? =some (.cells #[.bool s1,.slice A1 n1 c1,.slice B1 m1 d1,.bool s2,.slice A2 n2 c2,.slice B2 m2 d2] t))
  (h1:RatT k W (.agg #[.bool s1,.slice A1 n1 c1,.slice B1 m1 d1]) g.1) (h2:RatT k W (.agg #[.bool s2,.slice A2 n2 c2,.slice B2 m2 d2]) g.2):TBox k t W B g:=⟨_,_,_,_,_,_,_,_,_,_,_,_,_,_,hk,h1,h2⟩
theorem rsgn_both {g:G2}:(rsgn g.1=0/\rsgn g.2=0)↔qAR g=0:=by
 rw[qJf,qJf];constructor
 ·rintro⟨b,c⟩;unfold qAR;rw[b,c]
  grind
 ·exact qFr
theorem qRV {s t n N:Nat} (h:s+t*n=N) (ho:n%2=1):(s+t)+(t+t)*(n / 2)=N:=by
 have b:n=2*(n / 2)+1:=by omega
 rw[<-h];generalize n / 2=m at*;subst b;rw[Nat.mul_add,<-Nat.mul_assoc,Nat.mul_comm t 2,Nat.two_mul];omega
theorem qQP {s t n N:Nat} (h:s+t*n=N) (ho:¬n%2=1):s+(t+t)*(n / 2)=N:=by
 have b:n=2*(n / 2):=by omega
 rw[<-h];generalize n / 2=m at*;subst b;rw[<-Nat.mul_assoc,Nat.mul_comm t 2,Nat.two_mul]
def ABox (W:World) (B:Nat) (x:FracA×FracA):Prop:=
 ∃A1 c1 B1 d1 A2 c2 B2 d2,W.heap[B]? =some (.cells #[.bool x.1.sn,.slice A1 x.1.gn.length c1,.bool x.1.sd,.slice B1 x.1.gd.length d1,.bool x.2.sn,.slice A2 x.2.gn.length c2,.bool x.2.sd,.slice B2 x.2.gd.length d2] 79)∧
  IsFracA (λ_=>True) W (.agg #[.bool x.1.sn,.slice A1 x.1.gn.length c1,.bool x.1.sd,.slice B1 x.1.gd.length d1]) x.1/\IsFracA (λ_=>True) W (.agg #[.bool x.2.sn,.slice A2 x.2.gn.length c2,.bool x.2.sd,.slice B2 x.2.gd.length d2]) x.2
theorem ABox.le {w W:World} {B:Nat} {x:FracA×FracA} (h:ABox w B x) (hb:Le w W):ABox W B x:=by
 obtain⟨b,g,d,j,c,i,f,k,o,l,m⟩:=h;exact⟨b,g,d,j,c,i,f,k,bxl hb o,l.le hb,m.le hb⟩
theorem ABox.lt {W:World} {B:Nat} {x:FracA×FracA} (h:ABox W B x):B<W.heap.size:=by
 obtain⟨c,i,f,k,d,j,g,l,b,m,o⟩:=h;exact(gsl b)
theorem IsTurnA.mk {w:World} {x:FracA×FracA} {A1 B1 A2 B2:Option Addr} {c1 d1 c2 d2:Nat} (h1:IsFracA (λ_=>True) w (.agg #[.bool x.1.sn,.slice A1 x.1.gn.length c1,.bool x.1.sd,.slice B1 x.1.gd.length d1]) x.1) (h2:IsFracA (λ_=>True) w (.agg #[.bool x.2.sn,.slice A2 x.2.gn.length c2,.bool x.2.sd,.slice B2 x.2.gd.length d2]) x.2):
  IsTurnA w (.agg #[.bool x.1.sn,.slice A1 x.1.gn.length c1,.bool x.1.sd,.slice B1 x.1.gd.length d1,.bool x.2.sn,.slice A2 x.2.gn.length c2,.bool x.2.sd,.slice B2 x.2.gd.length d2]) x:=⟨_,_,_,_,_,_,_,_,rfl,h1,h2⟩
def qKT (P:Program) (g:FuncId) (f:G2->G2->Except Int G2):Prop:=∀a b va vb (W:World),TSz a 40->TSz b 40->TurnL .u32 W va a->TurnL .u32 W vb b→
 Calls P g #[va,vb] W (λe W'=>Le W W'/\((∃r v,f a b=outG r/\e= .returned v/\TurnL .u32 W' v r)∨(∃c,f a b= .error c/\e= .panicked (flt c))))
theorem qFu {f:G2->G2->Except Int G2} {x y:FracA×FracA} {a b:G2} (h1:tval x=some a) (h2:tval y=some b):opG f x y=f a b:=by unfold opG;rw[h1,h2]
theorem qRW {f:G2->G2->Except Int G2} {x y:FracA×FracA} (h:tval x=none∨tval y=none):opG f x y= .error 10:=by
 unfold opG
 rcases h with h|h
 ·rw[h]
 ·rw[h]
  cases tval x<;>rfl
theorem IsResT.touch {W W':World} {v:Value} {c:Int} {res:Except Int G2} {B:Nat} (h:IsResT W v c res) (hk:qDk W B) (ht:Touch B W W'):IsResT W' v c res:=by
 cases res with
 | ok g=>exact⟨h.1.touch hk ht,h.2⟩
 | error x=>exact h
theorem IsResT.le {w W:World} {v:Value} {c:Int} {res:Except Int G2} (h:IsResT w v c res) (hb:Le w W):IsResT W v c res:=by
 cases res with
 | ok g=>exact⟨h.1.le hb,h.2⟩
 | error x=>exact h
def qNl (v:Value):Prop:=∃s1 A1 n1 c1 t1 B1 m1 d1 s2 A2 n2 c2 t2 B2 m2 d2,v= .agg #[.bool s1,.slice A1 n1 c1,.bool t1,.slice B1 m1 d1,.bool s2,.slice A2 n2 c2,.bool t2,.slice B2 m2 d2]
theorem IsResT.form {W:World} {v:Value} {c:Int} {res:Except Int G2} (h:IsResT W v c res):qNl v:=by
 cases res with
 | ok g=>
  obtain⟨⟨s,b,q,j,y,f,o,l,t,d,r,k,z,i,p,m,rfl,-,-⟩,-⟩:=h;exact⟨_,_,_,_,_,_,_,_,_,_,_,_,_,_,_,_,rfl⟩
 | error x=>
  obtain⟨rfl,-⟩:=h;exact⟨_,_,_,_,_,_,_,_,_,_,_,_,_,_,_,_,rfl⟩
noncomputable def powG (x:FracA×FracA) (n:Int):Except Int G2:=
 match tval x with
 | some g=>if n< -64∨64<n then .error 2 else if n<0 then(if qAR g=0 then .error 11 else outG (gpow (ginv g) n.natAbs))else outG (gpow g n.natAbs)
 | none=> .error 10
theorem qPI {x:FracA×FracA} {n:Int} (h:tval x=none):powG x n= .error 10:=by unfold powG;rw[h]
theorem qQQ {x:FracA×FracA} {n:Int} {g:G2} (h:tval x=some g) (h1:n< -64∨64<n):powG x n= .error 2:=by unfold powG;rw[h];exact if_pos h1
theorem qPJ {x:FracA×FracA} {n:Int} {g:G2} (h:tval x=some g) (h1:¬(n< -64∨64<n)) (h2:n<0) (h3:qAR g=0):powG x n= .error 11:=by
 unfold powG;rw[h];show(if _ then _ else _)=_;rw[if_neg h1,if_pos h2,if_pos h3]
theorem qQR {x:FracA×FracA} {n:Int} {g:G2} (h:tval x=some g) (h1:¬(n< -64∨64<n)) (h2:n<0) (h3:qAR g≠0):powG x n=outG (gpow (ginv g) n.natAbs):=by
 unfold powG;rw[h];show(if _ then _ else _)=_;rw[if_neg h1,if_pos h2,if_neg h3]
theorem qLY {x:FracA×FracA} {n:Int} {g:G2} (h:tval x=some g) (h1:¬(n< -64∨64<n)) (h2:¬n<0):powG x n=outG (gpow g n.natAbs):=by
 unfold powG;rw[h];show(if _ then _ else _)=_;rw[if_neg h1,if_neg h2]
theorem qHB (z:Int) (hz0: -9223372036854775808<=z) (hz1:z<=9223372036854775807):Rsz (z:Rat) 3:=
 ⟨qDK (N:=z.natAbs) (by omega),by rw[show(z:Rat).den =1 from rfl,qEU];simp⟩
def ndG (n d:Int):G2:=((d:Rat),(n:Rat))
noncomputable def qBz (n d:Int):Except Int G2:=if n=0/\d=0 then .error 11 else outG (gdiv (ndG n d) (qA0 (ndG n d)))
theorem qQS {n d:Int} (h:¬(n=0/\d=0)):qAR (qA0 (ndG n d))≠0:=by
 intro c;have b:=qFr c;have f:(d:Rat)=0:=b.1;have i: -(n:Rat)=0:=b.2;have g:(n:Rat)=0:=by grind
 exact h ⟨by exact_mod_cast g,by exact_mod_cast f⟩
theorem qRm {n d:Int} (hn0: -9223372036854775808<=n) (hn1:n<=9223372036854775807) (hd0: -9223372036854775808<=d) (hd1:d<=9223372036854775807):TSz (ndG n d) 3:=⟨qHB d hd0 hd1,qHB n hn0 hn1⟩
theorem OperPostT.ok {r:G2} {w:World} {e:Ending} {w':World} (h:OperPostT (.ok r) w e w'):∃v,e= .returned v/\Le w w'/\TurnF w' v r:=by
 obtain⟨d,⟨g,v,b,rfl,f⟩| ⟨c,b,-⟩⟩:=h
 ·injection b with b;subst b;exact⟨v,rfl,d,f⟩
 ·cases b
theorem OperPostT.err {c:Int} {w:World} {e:Ending} {w':World} (h:OperPostT (.error c) w e w'):e= .panicked (flt c)/\Le w w':=by
 obtain⟨d,⟨g,v,b,-⟩| ⟨f,b,rfl⟩⟩:=h
 ·cases b
 ·injection b with b;subst b;exact⟨rfl,d⟩
def qGd (x:FracA×FracA) (m:Nat):Bool:=qED x.1 m||qED x.2 m
theorem qJh (x:FracA):(∃r,x.rat?=some r)∨x.rat?=none:=by
 cases h:x.rat? with
 | none=>exact .inr rfl
 | some r=>exact .inl ⟨r,rfl⟩
theorem qDm (x:FracA×FracA):(∃g,tval x=some g)∨tval x=none:=by
 cases h:tval x with
 | none=>exact .inr rfl
 | some r=>exact .inl ⟨r,rfl⟩
end Go.Proofs.YtabfaobakmjiaaaGreat
namespace Go.Proofs.YtabfaobakmjiaaaGreat
set_option maxRecDepth 100000
open Go.RowKit
set_option linter.unusedVariables false
def InRow (k:IntKind) (w:World) (a:Option Addr) (len cap:Nat) (zs:List Int):Prop:=
 (a=none/\len=0/\cap=0/\zs=[])∨
 ∃x,a=some x/\len<=cap/\cap<=maxLen/\zs.length=cap/\(∀i,i<zs.length->w.cell? (x.add i)=some (.int k (zs.getD i 0)))/\∀n∈zs,(Lit.int k n).wf =true
theorem InRow.arr {k:IntKind} {w:World} {a:Option Addr} {len cap:Nat} {zs:List Int} (h:InRow k w a len cap zs):Arr (Value.int k) w (.slice a len cap) (zs.take len)/\∀n∈zs.take len,(Lit.int k n).wf =true:=by
 rcases h with⟨rfl,rfl,rfl,rfl⟩| ⟨x,rfl,hl,hm,hz,hc,hw⟩
 ·exact⟨Arr.nil _ _,by simp⟩
 ·have c:(zs.take len).length =len:=by simp;omega
  refine⟨⟨some x,cap,by rw[c],by omega,hm,λh=>by simp at h,λo=>?_⟩,λn q=>hw n (List.mem_of_mem_take q)⟩;rw[c]at o;obtain⟨b,off,l⟩:=x;have g:=hc 0 (by omega);have d:l=none:=by simpa[Addr.add]using World.cell?_spot g
  subst d;refine⟨b,off,rfl,World.block_lt_of_cell? w _ g,λj p=>?_⟩;have i:j<zs.length:=by rw[c]at p;omega
  have m:=hc j i;have f:(⟨b,off,none⟩:Addr).add j=⟨b,off+j,none⟩:=by unfold Addr.add;split<;>simp_all
  rw[f]at m;rw[m];simp[i]
open Go.RowKit Go.ChangeShapes Go.WideShapes Go.Deep
theorem qRn {n:Int} (h:(Lit.int .u32 n).wf =true):0<=n/\n<4294967296:=by
 have d:IntKind.u32.min<=n/\n<=IntKind.u32.max:=by simpa[Lit.wf]using h
 have b:IntKind.u32.min=0:=by kernel_rfl
 have c:IntKind.u32.max=4294967295:=by kernel_rfl
 rw[b,c]at d;omega
theorem qQT {w:World} {v:Value} {zs:List Int} (h:Arr (Value.int .u32) w v zs) (hz:∀n∈zs,(Lit.int .u32 n).wf =true):ArrL (λ_=>True) (gv .u32) w v (zs.map Int.toNat):=by
 obtain⟨A,c,r,i,k,m,l⟩:=h;refine⟨A,c,by rw[r,List.length_map],by rw[List.length_map];exact i,k,m,λg=>?_⟩;rw[List.length_map]at g;obtain⟨b,off,o,f,p⟩:=l g;refine⟨b,off,o,trivial,f,λj q=>?_⟩;have d:j<zs.length:=by simpa using q
 rw[p j d];have:=(qRn (hz _ (List.getElem_mem d))).1;unfold gv;rw[List.getElem_map,Int.toNat_of_nonneg this]
section
variable {H:Type} {enc:TypeId×Value->H} {w:World} {n:Nat}
theorem qLZ {v:Value} {y:DataW H×List MemPlace} (h:DataW.trod enc Tryz.prog w 0 (λ_=>true) true n 72 [v]=some y):∃gs:List Nat,ArrL (λ_=>True) (gv .u32) w v gs:=by
 rcases open_ints Tryz.underlying72 Tryz.underlying196 (by kernel_rfl) h with⟨hcs,_⟩| ⟨x,l,c,zs,hcs,_,hl,hm,hz,_,hcell,hwz⟩
 ·obtain rfl:v= .slice none 0 0:=by simpa using hcs
  exact⟨[],none,0,rfl,Nat.le_refl _,Nat.zero_le _,λ_=>rfl,λh=>absurd h (Nat.lt_irrefl 0)⟩
 ·obtain rfl:v= .slice (some x) l c:=by simpa using hcs
  have:=InRow.arr (k:= .u32) (.inr ⟨_,rfl,hl,hm,by simpa using hz,hcell,hwz⟩);exact⟨_,qQT this.1 this.2⟩
theorem qIS {v0 v1:Value} {y:DataW H×List MemPlace} (h:DataW.trod enc Tryz.prog w 0 (λ_=>true) true n 74 [v0,v1]=some y):∃(s:Bool) (gs:List Nat),v0= .bool s/\ArrL (λ_=>True) (gv .u32) w v1 gs:=by
 obtain⟨g,m,-,-,-,b,f⟩:=DataW.trod_struct Tryz.underlying74 h;obtain⟨l,c⟩:∃y,g[0]? =some y:=⟨_,List.getElem?_eq_getElem (by rw[b];decide)⟩;obtain⟨o,d⟩:∃y,g[1]? =some y:=⟨_,List.getElem?_eq_getElem (by rw[b];decide)⟩;have i:=(f 0 _ rfl).trans c;have j:=(f 1 _ rfl).trans d;obtain⟨s,e,-⟩:=DataW.trod_bool (cs:=[v0]) Tryz.underlying4 i;obtain⟨gs,k⟩:=qLZ (v:=v1) j;exact⟨s,gs,by simpa using e,k⟩
end
end Go.Proofs.YtabfaobakmjiaaaGreat
namespace Go.Proofs.YtabfaobakmjiaaaGreat
set_option maxRecDepth 100000
open Go.RowKit Go.ChangeShapes Go.WideShapes Go.Deep
set_option linter.unusedVariables false
section
variable {H:Type} {enc:TypeId×Value->H} {w:World} {n:Nat}
theorem qIT {v0 v1 v2 v3:Value} {y:DataW H×List MemPlace} (h:DataW.trod enc Tryz.prog w 0 (λ_=>true) true n 76 [v0,v1,v2,v3]=some y):∃a:FracA,IsFracA (λ_=>True) w (.agg #[v0,v1,v2,v3]) a:=by
 obtain⟨k,m,-,-,-,b,j⟩:=DataW.trod_struct Tryz.underlying76 h;obtain⟨z,d⟩:∃y,k[0]? =some y:=⟨_,List.getElem?_eq_getElem (by rw[b];decide)⟩;obtain⟨C,f⟩:∃y,k[1]? =some y:=⟨_,List.getElem?_eq_getElem (by rw[b];decide)⟩;have q:=(j 0 _ rfl).trans d;have r:=(j 1 _ rfl).trans f;obtain⟨s,v,rfl,g⟩:=qIS (v0:=v0) (v1:=v1) q;obtain⟨x,t,rfl,i⟩:=qIS (v0:=v2) (v1:=v3) r;obtain⟨A,c,o,-⟩:=id g;obtain⟨B,l,p,-⟩:=id i;subst o p;exact⟨⟨s,v,x,t⟩,A,c,B,l,rfl,g,i⟩
end
end Go.Proofs.YtabfaobakmjiaaaGreat

/- Turning numbers, plain: sums, products, powers; how long their parts are. Turning numbers as values: six cells (two fractions), eight cells (two api.Frac); .. -/
import Derived.Test.YtenjpccpldajoaaGreatDoorPk18
namespace Go.Proofs.YtenjpccpldajoaaGreatDoor
set_option maxRecDepth 100000
set_option linter.unusedVariables false
abbrev G2:=Rat×Rat
def gmul (a b:G2):G2:=(a.1*b.1 - a.2*b.2,a.1*b.2+a.2*b.1)
def qA8 (a:G2):G2:=(a.1,-a.2)
def qB7 (a:G2):Rat:=a.1*a.1+a.2*a.2
def gdiv (a b:G2):G2:=((gmul a (qA8 b)).1 / qB7 b,(gmul a (qA8 b)).2 / qB7 b)
theorem qF3 (x:Rat):0≤x*x:=by
 rcases(Rat.le_total:(0:Rat)≤x∨x≤0)with h|h
 ·exact Rat.mul_nonneg h h
 ·have h2:0≤ -x:=by grind
  have:=Rat.mul_nonneg h2 h2
  grind
theorem qLi {a:G2} (h:qB7 a=0):a.1=0∧a.2=0:=by
 unfold qB7 at h;have h1:=qF3 a.1;have h2:=qF3 a.2;have h3:a.1*a.1=0:=by grind
 have h4:a.2*a.2=0:=by grind
 exact⟨by simpa using Rat.mul_eq_zero.1 h3,by simpa using Rat.mul_eq_zero.1 h4⟩
def TSz (g:G2) (n:Nat):Prop:=Rsz g.1 n∧Rsz g.2 n
open Go.RowKit Go.Shelf
set_option linter.unusedSimpArgs false
set_option maxRecDepth 10000
abbrev RatT (k:IntKind) (w:World) (v:Value) (r:Rat):Prop:=RatL (fun _=>True) k w v r
abbrev qBI (w:World) (v:Value) (r:Rat):Prop:=FracL (fun _=>True) w v r
def TurnL (k:IntKind) (w:World) (v:Value) (g:G2):Prop:=
 ∃s1 A1 n1 c1 B1 m1 d1 s2 A2 n2 c2 B2 m2 d2,v= .agg #[.bool s1,.slice A1 n1 c1,.slice B1 m1 d1,.bool s2,.slice A2 n2 c2,.slice B2 m2 d2]∧
  RatT k w (.agg #[.bool s1,.slice A1 n1 c1,.slice B1 m1 d1]) g.1∧RatT k w (.agg #[.bool s2,.slice A2 n2 c2,.slice B2 m2 d2]) g.2
def TurnF (w:World) (v:Value) (g:G2):Prop:=
 ∃s1 A1 n1 c1 t1 B1 m1 d1 s2 A2 n2 c2 t2 B2 m2 d2,v= .agg #[.bool s1,.slice A1 n1 c1,.bool t1,.slice B1 m1 d1,.bool s2,.slice A2 n2 c2,.bool t2,.slice B2 m2 d2]∧
  qBI w (.agg #[.bool s1,.slice A1 n1 c1,.bool t1,.slice B1 m1 d1]) g.1∧qBI w (.agg #[.bool s2,.slice A2 n2 c2,.bool t2,.slice B2 m2 d2]) g.2
def IsTurnA (w:World) (v:Value) (x:FracA×FracA):Prop:=
 ∃A1 c1 B1 d1 A2 c2 B2 d2,v= .agg #[.bool x.1.sn,.slice A1 x.1.gn.length c1,.bool x.1.sd,.slice B1 x.1.gd.length d1,.bool x.2.sn,.slice A2 x.2.gn.length c2,.bool x.2.sd,.slice B2 x.2.gd.length d2]∧
  IsFracA (fun _=>True) w (.agg #[.bool x.1.sn,.slice A1 x.1.gn.length c1,.bool x.1.sd,.slice B1 x.1.gd.length d1]) x.1∧IsFracA (fun _=>True) w (.agg #[.bool x.2.sn,.slice A2 x.2.gn.length c2,.bool x.2.sd,.slice B2 x.2.gd.length d2]) x.2
noncomputable def tval (x:FracA×FracA):Option G2:=
 match x.1.rat?,x.2.rat? with
 | some a,some b=>some (a,b)
 | _,_=>none
def qPd (v:Value):Prop:=∃s1 A1 n1 c1 B1 m1 d1 s2 A2 n2 c2 B2 m2 d2,v= .agg #[.bool s1,.slice A1 n1 c1,.slice B1 m1 d1,.bool s2,.slice A2 n2 c2,.slice B2 m2 d2]
theorem TurnL.mk {k:IntKind} {w:World} {g:G2} {s1 s2:Bool} {A1 B1 A2 B2:Option Addr} {n1 c1 m1 d1 n2 c2 m2 d2:Nat} (h1:RatT k w (.agg #[.bool s1,.slice A1 n1 c1,.slice B1 m1 d1]) g.1) (h2:RatT k w (.agg #[.bool s2,.slice A2 n2 c2,.slice B2 m2 d2]) g.2):
  TurnL k w (.agg #[.bool s1,.slice A1 n1 c1,.slice B1 m1 d1,.bool s2,.slice A2 n2 c2,.slice B2 m2 d2]) g:=⟨_,_,_,_,_,_,_,_,_,_,_,_,_,_,rfl,h1,h2⟩
theorem TurnF.mk {w:World} {g:G2} {s1 s2 t1 t2:Bool} {A1 B1 A2 B2:Option Addr} {n1 c1 m1 d1 n2 c2 m2 d2:Nat} (h1:qBI w (.agg #[.bool s1,.slice A1 n1 c1,.bool t1,.slice B1 m1 d1]) g.1) (h2:qBI w (.agg #[.bool s2,.slice A2 n2 c2,.bool t2,.slice B2 m2 d2]) g.2):
  TurnF w (.agg #[.bool s1,.slice A1 n1 c1,.bool t1,.slice B1 m1 d1,.bool s2,.slice A2 n2 c2,.bool t2,.slice B2 m2 d2]) g:=⟨_,_,_,_,_,_,_,_,_,_,_,_,_,_,_,_,rfl,h1,h2⟩
theorem TurnL.le {k:IntKind} {w W:World} {v:Value} {g:G2} (h:TurnL k w v g) (hb:Le w W):TurnL k W v g:=by
 obtain⟨s1,A1,n1,c1,B1,m1,d1,s2,A2,n2,c2,B2,m2,d2,rfl,h1,h2⟩:=h;exact .mk (h1.le hb) (h2.le hb)
theorem TurnF.le {w W:World} {v:Value} {g:G2} (h:TurnF w v g) (hb:Le w W):TurnF W v g:=by
 obtain⟨s1,A1,n1,c1,t1,B1,m1,d1,s2,A2,n2,c2,t2,B2,m2,d2,rfl,h1,h2⟩:=h;exact .mk (h1.le hb) (h2.le hb)
theorem IsTurnA.le {w W:World} {v:Value} {x:FracA×FracA} (h:IsTurnA w v x) (hb:Le w W):IsTurnA W v x:=by
 obtain⟨A1,c1,B1,d1,A2,c2,B2,d2,rfl,h1,h2⟩:=h;exact⟨A1,c1,B1,d1,A2,c2,B2,d2,rfl,h1.le hb,h2.le hb⟩
theorem TurnL.form {k:IntKind} {w:World} {v:Value} {g:G2} (h:TurnL k w v g):qPd v:=by
 obtain⟨s1,A1,n1,c1,B1,m1,d1,s2,A2,n2,c2,B2,m2,d2,rfl,-,-⟩:=h;exact⟨s1,A1,n1,c1,B1,m1,d1,s2,A2,n2,c2,B2,m2,d2,rfl⟩
theorem FracL.fform {L:Nat→Prop} {w:World} {v:Value} {r:Rat} (h:FracL L w v r):qOT v:=by
 obtain⟨A,c,B,d,e,-,-⟩:=h;exact⟨_,_,_,_,_,_,_,_,e⟩
def MPred.turn (k:IntKind) (g:G2):MPred:=⟨fun v w=>TurnL k w v g,fun _ _ _ hb h=>h.le hb⟩
def MPred.ratT (k:IntKind) (r:Rat):MPred:=⟨fun v w=>RatT k w v r,fun _ _ _ hb h=>h.le hb⟩
def MPred.frO (r:Rat):MPred:=⟨fun v w=>Rsz r 40∧qBI w v r,fun _ _ _ hb h=>⟨h.1,h.2.le hb⟩⟩
def Touch (B:Nat) (W W':World):Prop:=W'.heap.size=W.heap.size∧(∀b,b≠B→W'.heap[b]? =W.heap[b]?)∧∀cs t,W.heap[B]? =some (.cells cs t)→∃cs',W'.heap[B]? =some (.cells cs' t)
theorem Touch.refl (B:Nat) (W:World):Touch B W W:=⟨rfl,fun _ _=>rfl,fun cs t h=>⟨cs,h⟩⟩
theorem Touch.set {B:Nat} {W W':World} (h:Touch B W W') (i:Nat) (u:Value):Touch B W (W'.setCell ⟨B,i,none⟩ u):=by
 obtain⟨h1,h2,h3⟩:=h;refine⟨by simpa[World.setCell]using h1,fun b hb=>(Below.heap_setCell _ _ _ _ hb).trans (h2 b hb),fun cs t hc=>?_⟩;obtain⟨cs',hc'⟩:=h3 cs t hc;exact⟨cs'.setIfInBounds i u,by simp[World.setCell,Array.getElem?_modify,hc']⟩
def qDr (W:World) (B:Nat):Prop:=∃cs t,W.heap[B]? =some (.cells cs t)∧∀(i:Nat) (k:IntKind) (z:Int),cs[i]? ≠some (.int k z)
theorem ArrL.touch {α:Type} {L:Nat→Prop} {f:α→Value} {W W':World} {v:Value} {xs:List α} {B:Nat} (hf:∀x,∃k z,f x= .int k z) (h:ArrL L f W v xs) (hk:qDr W B) (ht:Touch B W W'):ArrL L f W' v xs:=by
 obtain⟨A,c,hv,h1,h2,hN,h3⟩:=h;refine⟨A,c,hv,h1,h2,hN,fun h0=>?_⟩;obtain⟨b,off,ha,hb,hlt,hc⟩:=h3 h0;obtain⟨cs,t,hbx,hno⟩:=hk
 have hne:b≠B:=by
  rintro rfl;have h4:=hc 0 h0;obtain⟨k,z,hz⟩:=hf xs[0];rw[hz]at h4;simp only[World.cell?,hbx]at h4;exact hno _ _ _ h4
 exact⟨b,off,ha,hb,by rw[ht.1];exact hlt,fun j hj=>(World.cell?_of_block (ht.2.1 b hne)).trans (hc j hj)⟩
theorem NumL.touch {L:Nat→Prop} {k:IntKind} {W W':World} {v:Value} {n B:Nat} (h:NumL L k W v n) (hk:qDr W B) (ht:Touch B W W'):NumL L k W' v n:=ArrL.touch (fun x=>⟨k,_,rfl⟩) h hk ht
theorem RatL.touch {L:Nat→Prop} {k:IntKind} {W W':World} {v:Value} {r:Rat} {B:Nat} (h:RatL L k W v r) (hk:qDr W B) (ht:Touch B W W'):RatL L k W' v r:=by
 obtain⟨vn,vd,e,h1,h2⟩:=h;exact⟨vn,vd,e,h1.touch hk ht,h2.touch hk ht⟩
theorem Unf.touch {W W':World} {v:Value} {B:Nat} (h:Unf W v) (ht:Touch B W W'):Unf W' v:=fun b off m c e=>by
 obtain⟨cs,t,h1⟩:=h b off m c e
 by_cases hb:b=B
 ·subst hb;obtain⟨cs',h2⟩:=ht.2.2 cs t h1;exact⟨cs',t,h2⟩
 ·exact⟨cs,t,(ht.2.1 b hb).trans h1⟩
theorem FracL.touch {L:Nat→Prop} {W W':World} {v:Value} {r:Rat} {B:Nat} (h:FracL L W v r) (hk:qDr W B) (ht:Touch B W W'):FracL L W' v r:=by
 obtain⟨A,c,C,d,e,h1,h2⟩:=h;exact⟨A,c,C,d,e,⟨h1.1.touch hk ht,h1.2.touch ht⟩,⟨h2.1.touch hk ht,h2.2.touch ht⟩⟩
theorem TurnF.touch {W W':World} {v:Value} {g:G2} {B:Nat} (h:TurnF W v g) (hk:qDr W B) (ht:Touch B W W'):TurnF W' v g:=by
 obtain⟨s1,A1,n1,c1,t1,B1,m1,d1,s2,A2,n2,c2,t2,B2,m2,d2,rfl,h1,h2⟩:=h;exact .mk (h1.touch hk ht) (h2.touch hk ht)
def set6 (W:World) (X:Nat) (u0 u1 u2 u3 u4 u5:Value):World:=(((((W.setCell ⟨X,0,none⟩ u0).setCell ⟨X,1,none⟩ u1).setCell ⟨X,2,none⟩ u2).setCell ⟨X,3,none⟩ u3).setCell ⟨X,4,none⟩ u4).setCell ⟨X,5,none⟩ u5
def set8 (W:World) (X:Nat) (u0 u1 u2 u3 u4 u5 u6 u7:Value):World:=(((((((W.setCell ⟨X,0,none⟩ u0).setCell ⟨X,1,none⟩ u1).setCell ⟨X,2,none⟩ u2).setCell ⟨X,3,none⟩ u3).setCell ⟨X,4,none⟩ u4).setCell ⟨X,5,none⟩ u5).setCell ⟨X,6,none⟩ u6).setCell ⟨X,7,none⟩ u7
theorem qD1 (W:World) (X:Nat) (u0 u1 u2:Value):Touch X W (((W.setCell ⟨X,0,none⟩ u0).setCell ⟨X,1,none⟩ u1).setCell ⟨X,2,none⟩ u2):=(((Touch.refl X W).set 0 u0).set 1 u1).set 2 u2
theorem qAT (W:World) (X:Nat) (u0 u1 u2 u3 u4 u5:Value):Touch X W (set6 W X u0 u1 u2 u3 u4 u5):=((((((Touch.refl X W).set 0 u0).set 1 u1).set 2 u2).set 3 u3).set 4 u4).set 5 u5
theorem qAp (W:World) (X:Nat) (u0 u1 u2 u3 u4 u5 u6 u7:Value):Touch X W (set8 W X u0 u1 u2 u3 u4 u5 u6 u7):=((((((((Touch.refl X W).set 0 u0).set 1 u1).set 2 u2).set 3 u3).set 4 u4).set 5 u5).set 6 u6).set 7 u7
theorem qCL {W:World} {X:Nat} {v0 v1 v2 v3 v4 v5:Value} {t:TypeId} (h:W.heap[X]? =some (Obj.cells #[v0,v1,v2,v3,v4,v5] t)) (u0 u1 u2 u3 u4 u5:Value):(set6 W X u0 u1 u2 u3 u4 u5).heap[X]? =some (.cells #[u0,u1,u2,u3,u4,u5] t):=by
 simp only[set6,World.setCell,Array.getElem?_modify,h];simp
theorem qB5 {W:World} {X:Nat} {v0 v1 v2 v3 v4 v5 v6 v7:Value} {t:TypeId} (h:W.heap[X]? =some (Obj.cells #[v0,v1,v2,v3,v4,v5,v6,v7] t)) (u0 u1 u2 u3 u4 u5 u6 u7:Value):(set8 W X u0 u1 u2 u3 u4 u5 u6 u7).heap[X]? =some (.cells #[u0,u1,u2,u3,u4,u5,u6,u7] t):=by
 simp only[set8,World.setCell,Array.getElem?_modify,h];simp
theorem qDO {w W:World} {X:Nat} (h:Le w W) (hX:w.heap.size≤X) (u0 u1 u2 u3 u4 u5:Value):Le w (set6 W X u0 u1 u2 u3 u4 u5):=
 (((((Below.setCell h (p:=⟨X,0,none⟩) hX _).setCell (p:=⟨X,1,none⟩) hX _).setCell (p:=⟨X,2,none⟩) hX _).setCell (p:=⟨X,3,none⟩) hX _).setCell (p:=⟨X,4,none⟩) hX _).setCell (p:=⟨X,5,none⟩) hX _
theorem qCF {w W:World} {X:Nat} (h:Le w W) (hX:w.heap.size≤X) (u0 u1 u2 u3 u4 u5 u6 u7:Value):Le w (set8 W X u0 u1 u2 u3 u4 u5 u6 u7):=
 (((((((Below.setCell h (p:=⟨X,0,none⟩) hX _).setCell (p:=⟨X,1,none⟩) hX _).setCell (p:=⟨X,2,none⟩) hX _).setCell (p:=⟨X,3,none⟩) hX _).setCell (p:=⟨X,4,none⟩) hX _).setCell (p:=⟨X,5,none⟩) hX _).setCell (p:=⟨X,6,none⟩) hX _).setCell (p:=⟨X,7,none⟩) hX _
theorem qAx {W:World} {X:Nat} {v0 v1 v2 v3 v4 v5:Value} {t:TypeId} (h:W.heap[X]? =some (Obj.cells #[v0,v1,v2,v3,v4,v5] t)):W.cell? ⟨X,0,none⟩=some v0∧W.cell? ⟨X,1,none⟩=some v1∧W.cell? ⟨X,2,none⟩=some v2∧W.cell? ⟨X,3,none⟩=some v3∧W.cell? ⟨X,4,none⟩=some v4∧W.cell? ⟨X,5,none⟩=some v5:=
 ⟨cell_of_row W X 0 _ _ _ h,cell_of_row W X 1 _ _ _ h,cell_of_row W X 2 _ _ _ h,cell_of_row W X 3 _ _ _ h,cell_of_row W X 4 _ _ _ h,cell_of_row W X 5 _ _ _ h⟩
theorem qA2 {W:World} {X:Nat} {v0 v1 v2 v3 v4 v5 v6 v7:Value} {t:TypeId} (h:W.heap[X]? =some (Obj.cells #[v0,v1,v2,v3,v4,v5,v6,v7] t)):W.cell? ⟨X,0,none⟩=some v0∧W.cell? ⟨X,1,none⟩=some v1∧W.cell? ⟨X,2,none⟩=some v2∧W.cell? ⟨X,3,none⟩=some v3∧W.cell? ⟨X,4,none⟩=some v4∧W.cell? ⟨X,5,none⟩=some v5∧W.cell? ⟨X,6,none⟩=some v6∧W.cell? ⟨X,7,none⟩=some v7:=
 ⟨cell_of_row W X 0 _ _ _ h,cell_of_row W X 1 _ _ _ h,cell_of_row W X 2 _ _ _ h,cell_of_row W X 3 _ _ _ h,cell_of_row W X 4 _ _ _ h,cell_of_row W X 5 _ _ _ h,cell_of_row W X 6 _ _ _ h,cell_of_row W X 7 _ _ _ h⟩
theorem qHh {W:World} {X:Nat} {s1:Bool} {A1 B1:Option Addr} {n1 c1 m1 d1:Nat} {t:TypeId} (h:W.heap[X]? =some (Obj.cells #[.bool s1,.slice A1 n1 c1,.slice B1 m1 d1] t)):qDr W X:=by
 refine⟨_,_,h,fun i k z=>?_⟩
 match i with
 | 0|1|2=>simp
 | i+3=>simp
theorem qPX {W:World} {X:Nat} {s1 t1:Bool} {A1 B1:Option Addr} {n1 c1 m1 d1:Nat} {t:TypeId} (h:W.heap[X]? =some (Obj.cells #[.bool s1,.slice A1 n1 c1,.bool t1,.slice B1 m1 d1] t)):qDr W X:=by
 refine⟨_,_,h,fun i k z=>?_⟩
 match i with
 | 0|1|2|3=>simp
 | i+4=>simp
theorem qBB {W:World} {X:Nat} {s1 s2:Bool} {A1 B1 A2 B2:Option Addr} {n1 c1 m1 d1 n2 c2 m2 d2:Nat} {t:TypeId} (h:W.heap[X]? =some (Obj.cells #[.bool s1,.slice A1 n1 c1,.slice B1 m1 d1,.bool s2,.slice A2 n2 c2,.slice B2 m2 d2] t)):qDr W X:=by
 refine⟨_,_,h,fun i k z=>?_⟩
 match i with
 | 0|1|2|3|4|5=>simp
 | i+6=>simp
theorem qCG {W:World} {X:Nat} {s1 s2 t1 t2:Bool} {A1 B1 A2 B2:Option Addr} {n1 c1 m1 d1 n2 c2 m2 d2:Nat} {t:TypeId} (h:W.heap[X]? =some (Obj.cells #[.bool s1,.slice A1 n1 c1,.bool t1,.slice B1 m1 d1,.bool s2,.slice A2 n2 c2,.bool t2,.slice B2 m2 d2] t)):qDr W X:=by
 refine⟨_,_,h,fun i k z=>?_⟩
 match i with
 | 0|1|2|3|4|5|6|7=>simp
 | i+8=>simp
theorem bxl {w W:World} {B:Nat} {o:Obj} (h:Le w W) (hk:w.heap[B]? =some o):W.heap[B]? =some o:=(Below.block h B (gsl hk)).trans hk
def IsResT (w:World) (v:Value) (c:Int):Except Int G2→Prop
 | .ok g=>TurnF w v g∧c=0
 | .error x=>v= .agg #[.bool false,.slice none 0 0,.bool false,.slice none 0 0,.bool false,.slice none 0 0,.bool false,.slice none 0 0]∧c=x
def qFV (res:Except Int G2) (w:World) (e:Ending) (w':World):Prop:=Le w w'∧∃v c,e= .returned (.tuple #[v,.int .i64 c])∧IsResT w' v c res
open Classical in
noncomputable def outG (g:G2):Except Int G2:=if TSz g 40 then .ok g else .error 12
theorem qEP {g:G2} (h:TSz g 40):outG g= .ok g:=by unfold outG;rw[if_pos h]
theorem qGQ {g:G2} (h:¬TSz g 40):outG g= .error 12:=by unfold outG;rw[if_neg h]
def OperPostT (res:Except Int G2) (w:World) (e:Ending) (w':World):Prop:=Le w w'∧((∃r v,res= .ok r∧e= .returned v∧TurnF w' v r)∨(∃c,res= .error c∧e= .panicked (flt c)))
noncomputable def opG (f:G2→G2→Except Int G2) (x y:FracA×FracA):Except Int G2:=
 match tval x,tval y with
 | some a,some b=>f a b
 | _,_=> .error 10
theorem qIi {x:FracA×FracA} {a b:Rat} (h1:x.1.rat?=some a) (h2:x.2.rat?=some b):tval x=some (a,b):=by unfold tval;rw[h1,h2]
theorem qNC {x:FracA×FracA} (h:x.1.rat?=none):tval x=none:=by unfold tval;rw[h]
theorem qLj {x:FracA×FracA} (h:x.2.rat?=none):tval x=none:=by
 unfold tval;rw[h]
 cases x.1.rat?<;>rfl
theorem qHi {x:FracA×FracA} {g:G2} (h:tval x=some g):x.1.rat?=some g.1∧x.2.rat?=some g.2:=by
 unfold tval at h
 cases h1:x.1.rat? with
 | none=>rw[h1]at h;cases h
 | some a=>
  cases h2:x.2.rat? with
  | none=>rw[h1,h2]at h;cases h
  | some b=>
   rw[h1,h2]at h;injection h with h;subst h;exact⟨rfl,rfl⟩
theorem qKt {x:FracA×FracA} {g:G2} (h:tval x=some g):TSz g 40:=⟨FracA.sz (qHi h).1,FracA.sz (qHi h).2⟩
theorem TSz.up {g:G2} {m n:Nat} (h:TSz g m) (hmn:m≤n):TSz g n:=⟨h.1.up hmn,h.2.up hmn⟩
theorem qDh {a b:Rat} {n m:Nat} (ha:Rsz a n) (hb:Rsz b n) (h:n+n≤m):Rsz (a*b) m:=(qBO ha hb).up h
theorem qJx {b:G2} {n:Nat} (h:TSz b n):TSz (qA8 b) n:=⟨h.1,qKh h.2⟩
theorem qOs {a b:G2} {n m:Nat} (ha:TSz a n) (hb:TSz b n) (h:n+n+(n+n)+1≤m):TSz (gmul a b) m:=
 ⟨(qID (qBO ha.1 hb.1) (qBO ha.2 hb.2)).up h,(qBW (qBO ha.1 hb.2) (qBO ha.2 hb.1)).up h⟩
theorem qNz {a:G2} {n m:Nat} (ha:TSz a n) (h:n+n+(n+n)+1≤m):Rsz (qB7 a) m:=(qBW (qBO ha.1 ha.1) (qBO ha.2 ha.2)).up h
def qOt (x:FracA×FracA) (w:World) (e:Ending) (w':World):Prop:=Le w w'∧((∃g v,tval x=some g∧e= .returned v∧TurnL .u32 w' v g)∨(tval x=none∧e= .panicked (flt 10)))
def MPred.turnO (x:FracA×FracA):MPred:=⟨fun v w=>∃g,tval x=some g∧TurnL .u32 w v g,fun _ _ _ hb ⟨g,h1,h2⟩=>⟨g,h1,h2.le hb⟩⟩
def MPred.turnFO (g:G2):MPred:=⟨fun v w=>TSz g 40∧TurnF w v g,fun _ _ _ hb h=>⟨h.1,h.2.le hb⟩⟩
def ABox (W:World) (B:Nat) (x:FracA×FracA):Prop:=
 ∃A1 c1 B1 d1 A2 c2 B2 d2,W.heap[B]? =some (.cells #[.bool x.1.sn,.slice A1 x.1.gn.length c1,.bool x.1.sd,.slice B1 x.1.gd.length d1,.bool x.2.sn,.slice A2 x.2.gn.length c2,.bool x.2.sd,.slice B2 x.2.gd.length d2] 56)∧
  IsFracA (fun _=>True) W (.agg #[.bool x.1.sn,.slice A1 x.1.gn.length c1,.bool x.1.sd,.slice B1 x.1.gd.length d1]) x.1∧IsFracA (fun _=>True) W (.agg #[.bool x.2.sn,.slice A2 x.2.gn.length c2,.bool x.2.sd,.slice B2 x.2.gd.length d2]) x.2
theorem ABox.le {w W:World} {B:Nat} {x:FracA×FracA} (h:ABox w B x) (hb:Le w W):ABox W B x:=by
 obtain⟨A1,c1,B1,d1,A2,c2,B2,d2,hk,h1,h2⟩:=h;exact⟨A1,c1,B1,d1,A2,c2,B2,d2,bxl hb hk,h1.le hb,h2.le hb⟩
theorem ABox.lt {W:World} {B:Nat} {x:FracA×FracA} (h:ABox W B x):B<W.heap.size:=by
 obtain⟨A1,c1,B1,d1,A2,c2,B2,d2,hk,h1,h2⟩:=h;exact(gsl hk)
theorem IsTurnA.mk {w:World} {x:FracA×FracA} {A1 B1 A2 B2:Option Addr} {c1 d1 c2 d2:Nat} (h1:IsFracA (fun _=>True) w (.agg #[.bool x.1.sn,.slice A1 x.1.gn.length c1,.bool x.1.sd,.slice B1 x.1.gd.length d1]) x.1) (h2:IsFracA (fun _=>True) w (.agg #[.bool x.2.sn,.slice A2 x.2.gn.length c2,.bool x.2.sd,.slice B2 x.2.gd.length d2]) x.2):
  IsTurnA w (.agg #[.bool x.1.sn,.slice A1 x.1.gn.length c1,.bool x.1.sd,.slice B1 x.1.gd.length d1,.bool x.2.sn,.slice A2 x.2.gn.length c2,.bool x.2.sd,.slice B2 x.2.gd.length d2]) x:=⟨_,_,_,_,_,_,_,_,rfl,h1,h2⟩
def qLk (P:Program) (g:FuncId) (f:G2→G2→Except Int G2):Prop:=∀a b va vb (W:World),TSz a 40→TSz b 40→TurnL .u32 W va a→TurnL .u32 W vb b→
 Calls P g #[va,vb] W (fun e W'=>Le W W'∧((∃r v,f a b=outG r∧e= .returned v∧TurnL .u32 W' v r)∨(∃c,f a b= .error c∧e= .panicked (flt c))))
theorem qOA {f:G2→G2→Except Int G2} {x y:FracA×FracA} {a b:G2} (h1:tval x=some a) (h2:tval y=some b):opG f x y=f a b:=by unfold opG;rw[h1,h2]
theorem qOu {f:G2→G2→Except Int G2} {x y:FracA×FracA} (h:tval x=none∨tval y=none):opG f x y= .error 10:=by
 unfold opG
 rcases h with h|h
 ·rw[h]
 ·rw[h]
  cases tval x<;>rfl
theorem IsResT.touch {W W':World} {v:Value} {c:Int} {res:Except Int G2} {B:Nat} (h:IsResT W v c res) (hk:qDr W B) (ht:Touch B W W'):IsResT W' v c res:=by
 cases res with
 | ok g=>exact⟨h.1.touch hk ht,h.2⟩
 | error x=>exact h
def qPe (v:Value):Prop:=∃s1 A1 n1 c1 t1 B1 m1 d1 s2 A2 n2 c2 t2 B2 m2 d2,v= .agg #[.bool s1,.slice A1 n1 c1,.bool t1,.slice B1 m1 d1,.bool s2,.slice A2 n2 c2,.bool t2,.slice B2 m2 d2]
theorem IsResT.form {W:World} {v:Value} {c:Int} {res:Except Int G2} (h:IsResT W v c res):qPe v:=by
 cases res with
 | ok g=>
  obtain⟨⟨s1,A1,n1,c1,t1,B1,m1,d1,s2,A2,n2,c2,t2,B2,m2,d2,rfl,-,-⟩,-⟩:=h;exact⟨_,_,_,_,_,_,_,_,_,_,_,_,_,_,_,_,rfl⟩
 | error x=>
  obtain⟨rfl,-⟩:=h;exact⟨_,_,_,_,_,_,_,_,_,_,_,_,_,_,_,_,rfl⟩
theorem qLl (W:World) (X:Nat) (u0 u1 u2 u3:Value):Touch X W ((((W.setCell ⟨X,0,none⟩ u0).setCell ⟨X,1,none⟩ u1).setCell ⟨X,2,none⟩ u2).setCell ⟨X,3,none⟩ u3):=((((Touch.refl X W).set 0 u0).set 1 u1).set 2 u2).set 3 u3
theorem qKu (z:Int) (hz0: -9223372036854775808≤z) (hz1:z≤9223372036854775807):Rsz (z:Rat) 3:=
 ⟨qCu (N:=z.natAbs) (by omega),by rw[show(z:Rat).den =1 from rfl,qCV];simp⟩
def ndG (n d:Int):G2:=((d:Rat),(n:Rat))
noncomputable def qFA (n d:Int):Except Int G2:=if n=0∧d=0 then .error 11 else outG (gdiv (ndG n d) (qA8 (ndG n d)))
theorem qOB {n d:Int} (h:¬(n=0∧d=0)):qB7 (qA8 (ndG n d))≠0:=by
 intro h0;have h1:=qLi h0;have h2:(d:Rat)=0:=h1.1;have h3: -(n:Rat)=0:=h1.2;have h4:(n:Rat)=0:=by grind
 exact h ⟨by exact_mod_cast h4,by exact_mod_cast h2⟩
theorem qPY {n d:Int} (hn0: -9223372036854775808≤n) (hn1:n≤9223372036854775807) (hd0: -9223372036854775808≤d) (hd1:d≤9223372036854775807):TSz (ndG n d) 3:=⟨qKu d hd0 hd1,qKu n hn0 hn1⟩
theorem OperPostT.ok {r:G2} {w:World} {e:Ending} {w':World} (h:OperPostT (.ok r) w e w'):∃v,e= .returned v∧Le w w'∧TurnF w' v r:=by
 obtain⟨hle,⟨r',v,hr,rfl,hf⟩| ⟨c,hr,-⟩⟩:=h
 ·injection hr with hr;subst hr;exact⟨v,rfl,hle,hf⟩
 ·cases hr
theorem OperPostT.err {c:Int} {w:World} {e:Ending} {w':World} (h:OperPostT (.error c) w e w'):e= .panicked (flt c)∧Le w w':=by
 obtain⟨hle,⟨r',v,hr,-⟩| ⟨c',hr,rfl⟩⟩:=h
 ·cases hr
 ·injection hr with hr;subst hr;exact⟨rfl,hle⟩
def qHj (x y:FracA×FracA):Bool:=qBG x.1 y.1&&qBG x.2 y.2
theorem qIj (x:FracA):(∃r,x.rat?=some r)∨x.rat?=none:=by
 cases h:x.rat? with
 | none=>exact .inr rfl
 | some r=>exact .inl ⟨r,rfl⟩
theorem qHk (x:FracA×FracA):(∃g,tval x=some g)∨tval x=none:=by
 cases h:tval x with
 | none=>exact .inr rfl
 | some r=>exact .inl ⟨r,rfl⟩
end Go.Proofs.YtenjpccpldajoaaGreatDoor

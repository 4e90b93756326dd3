/- Turning numbers as values: six cells (two fractions), eight cells (two api.Frac); boxes that hold them. -/
import Derived.Test.YtbcbcdgbliheoaaGreatPk40
import Derived.Test.YtbcbcdgbliheoaaGreatPk38
namespace Go.Proofs.YtbcbcdgbliheoaaGreat
set_option maxRecDepth 100000
open Go.RowKit Go.Shelf
set_option linter.unusedVariables false
set_option linter.unusedSimpArgs false
set_option maxRecDepth 10000
abbrev RatT (k:IntKind) (w:World) (v:Value) (r:Rat):Prop:=RatL (λ_=>True) k w v r
abbrev qLF (w:World) (v:Value) (r:Rat):Prop:=FracL (λ_=>True) w v r
def TurnL (k:IntKind) (w:World) (v:Value) (g:G2):Prop:=
 ∃s1 A1 n1 c1 B1 m1 d1 s2 A2 n2 c2 B2 m2 d2,v= .agg #[.bool s1,.slice A1 n1 c1,.slice B1 m1 d1,.bool s2,.slice A2 n2 c2,.slice B2 m2 d2]∧
  RatT k w (.agg #[.bool s1,.slice A1 n1 c1,.slice B1 m1 d1]) g.1/\RatT k w (.agg #[.bool s2,.slice A2 n2 c2,.slice B2 m2 d2]) g.2
def IsTurnA (w:World) (v:Value) (x:FracA×FracA):Prop:=
 ∃A1 c1 B1 d1 A2 c2 B2 d2,v= .agg #[.bool x.1.sn,.slice A1 x.1.gn.length c1,.bool x.1.sd,.slice B1 x.1.gd.length d1,.bool x.2.sn,.slice A2 x.2.gn.length c2,.bool x.2.sd,.slice B2 x.2.gd.length d2]∧
  IsFracA (λ_=>True) w (.agg #[.bool x.1.sn,.slice A1 x.1.gn.length c1,.bool x.1.sd,.slice B1 x.1.gd.length d1]) x.1/\IsFracA (λ_=>True) w (.agg #[.bool x.2.sn,.slice A2 x.2.gn.length c2,.bool x.2.sd,.slice B2 x.2.gd.length d2]) x.2
noncomputable def tval (x:FracA×FracA):Option G2:=
 match x.1.rat?,x.2.rat? with
 | some a,some b=>some (a,b)
 | _,_=>none
def qLG (v:Value):Prop:=∃s1 A1 n1 c1 B1 m1 d1 s2 A2 n2 c2 B2 m2 d2,v= .agg #[.bool s1,.slice A1 n1 c1,.slice B1 m1 d1,.bool s2,.slice A2 n2 c2,.slice B2 m2 d2]
theorem TurnL.mk {k:IntKind} {w:World} {g:G2} {s1 s2:Bool} {A1 B1 A2 B2:Option Addr} {n1 c1 m1 d1 n2 c2 m2 d2:Nat} (h1:RatT k w (.agg #[.bool s1,.slice A1 n1 c1,.slice B1 m1 d1]) g.1) (h2:RatT k w (.agg #[.bool s2,.slice A2 n2 c2,.slice B2 m2 d2]) g.2):
  TurnL k w (.agg #[.bool s1,.slice A1 n1 c1,.slice B1 m1 d1,.bool s2,.slice A2 n2 c2,.slice B2 m2 d2]) g:=⟨_,_,_,_,_,_,_,_,_,_,_,_,_,_,rfl,h1,h2⟩
theorem TurnL.le {k:IntKind} {w W:World} {v:Value} {g:G2} (h:TurnL k w v g) (hb:Le w W):TurnL k W v g:=by
 obtain⟨t,d,r,l,i,p,n,x,f,s,m,j,q,o,rfl,b,c⟩:=h;exact .mk (b.le hb) (c.le hb)
theorem IsTurnA.le {w W:World} {v:Value} {x:FracA×FracA} (h:IsTurnA w v x) (hb:Le w W):IsTurnA W v x:=by
 obtain⟨b,g,d,j,c,i,f,k,rfl,l,m⟩:=h;exact⟨b,g,d,j,c,i,f,k,rfl,l.le hb,m.le hb⟩
def Touch (B:Nat) (W W':World):Prop:=W'.heap.size=W.heap.size/\(∀b,b≠B->W'.heap[b]? =W.heap[b]?)/\∀cs t,W.heap[B]? =some (.cells cs t)->∃cs',W'.heap[B]? =some (.cells cs' t)
theorem Touch.refl (B:Nat) (W:World):Touch B W W:=⟨rfl,λ_ _=>rfl,λcs t h=>⟨cs,h⟩⟩
theorem Touch.set {B:Nat} {W W':World} (h:Touch B W W') (i:Nat) (u:Value):Touch B W (W'.setCell ⟨B,i,none⟩ u):=by
 obtain⟨j,k,l⟩:=h;refine⟨by simpa[World.setCell]using j,λb f=>(Below.heap_setCell _ _ _ _ f).trans (k b f),λg t m=>?_⟩;obtain⟨c,d⟩:=l g t m;exact⟨c.setIfInBounds i u,by simp[World.setCell,Array.getElem?_modify,d]⟩
def qGD (W:World) (B:Nat):Prop:=∃cs t,W.heap[B]? =some (.cells cs t)/\∀(i:Nat) (k:IntKind) (z:Int),cs[i]? ≠some (.int k z)
theorem ArrL.touch {α:Type} {L:Nat->Prop} {f:α->Value} {W W':World} {v:Value} {xs:List α} {B:Nat} (hf:∀x,∃k z,f x= .int k z) (h:ArrL L f W v xs) (hk:qGD W B) (ht:Touch B W W'):ArrL L f W' v xs:=by
 obtain⟨A,c,F,q,r,y,s⟩:=h;refine⟨A,c,F,q,r,y,λo=>?_⟩;obtain⟨b,n,C,D,i,p⟩:=s o;obtain⟨H,t,g,m⟩:=hk
 have l:b≠B:=by
  rintro rfl;have d:=p 0 o;obtain⟨k,z,G⟩:=hf xs[0];rw[G]at d;simp only[World.cell?,g]at d;exact m _ _ _ d
 exact⟨b,n,C,D,by rw[ht.1];exact i,λj E=>(World.cell?_of_block (ht.2.1 b l)).trans (p j E)⟩
theorem NumL.touch {L:Nat->Prop} {k:IntKind} {W W':World} {v:Value} {n B:Nat} (h:NumL L k W v n) (hk:qGD W B) (ht:Touch B W W'):NumL L k W' v n:=ArrL.touch (λx=>⟨k,_,rfl⟩) h hk ht
theorem RatL.touch {L:Nat->Prop} {k:IntKind} {W W':World} {v:Value} {r:Rat} {B:Nat} (h:RatL L k W v r) (hk:qGD W B) (ht:Touch B W W'):RatL L k W' v r:=by
 obtain⟨f,d,e,b,c⟩:=h;exact⟨f,d,e,b.touch hk ht,c.touch hk ht⟩
theorem Unf.touch {W W':World} {v:Value} {B:Nat} (h:Unf W v) (ht:Touch B W W'):Unf W' v:=λb off m c e=>by
 obtain⟨cs,t,h1⟩:=h b off m c e
 by_cases hb:b=B
 ·subst hb;obtain⟨cs',h2⟩:=ht.2.2 cs t h1;exact⟨cs',t,h2⟩
 ·exact⟨cs,t,(ht.2.1 b hb).trans h1⟩
theorem FracL.touch {L:Nat->Prop} {W W':World} {v:Value} {r:Rat} {B:Nat} (h:FracL L W v r) (hk:qGD W B) (ht:Touch B W W'):FracL L W' v r:=by
 obtain⟨A,c,C,d,e,b,f⟩:=h;exact⟨A,c,C,d,e,⟨b.1.touch hk ht,b.2.touch ht⟩,⟨f.1.touch hk ht,f.2.touch ht⟩⟩
def set6 (W:World) (X:Nat) (u0 u1 u2 u3 u4 u5:Value):World:=(((((W.setCell ⟨X,0,none⟩ u0).setCell ⟨X,1,none⟩ u1).setCell ⟨X,2,none⟩ u2).setCell ⟨X,3,none⟩ u3).setCell ⟨X,4,none⟩ u4).setCell ⟨X,5,none⟩ u5
theorem qCd (W:World) (X:Nat) (u0 u1 u2 u3 u4 u5:Value):Touch X W (set6 W X u0 u1 u2 u3 u4 u5):=((((((Touch.refl X W).set 0 u0).set 1 u1).set 2 u2).set 3 u3).set 4 u4).set 5 u5
theorem qE0 {W:World} {X:Nat} {v0 v1 v2 v3 v4 v5:Value} {t:TypeId} (h:W.heap[X]? =some (Obj.cells #[v0,v1,v2,v3,v4,v5] t)) (u0 u1 u2 u3 u4 u5:Value):(set6 W X u0 u1 u2 u3 u4 u5).heap[X]? =some (.cells #[u0,u1,u2,u3,u4,u5] t):=by
 simp only[set6,World.setCell,Array.getElem?_modify,h];simp
theorem qGE {w W:World} {X:Nat} (h:Le w W) (hX:w.heap.size<=X) (u0 u1 u2 u3 u4 u5:Value):Le w (set6 W X u0 u1 u2 u3 u4 u5):=
 (((((Below.setCell h (p:=⟨X,0,none⟩) hX _).setCell (p:=⟨X,1,none⟩) hX _).setCell (p:=⟨X,2,none⟩) hX _).setCell (p:=⟨X,3,none⟩) hX _).setCell (p:=⟨X,4,none⟩) hX _).setCell (p:=⟨X,5,none⟩) hX _
theorem qDP {W:World} {X:Nat} {v0 v1 v2 v3 v4 v5:Value} {t:TypeId} (h:W.heap[X]? =some (Obj.cells #[v0,v1,v2,v3,v4,v5] t)):W.cell? ⟨X,0,none⟩=some v0/\W.cell? ⟨X,1,none⟩=some v1/\W.cell? ⟨X,2,none⟩=some v2/\W.cell? ⟨X,3,none⟩=some v3/\W.cell? ⟨X,4,none⟩=some v4/\W.cell? ⟨X,5,none⟩=some v5:=
 ⟨cell_of_row W X 0 _ _ _ h,cell_of_row W X 1 _ _ _ h,cell_of_row W X 2 _ _ _ h,cell_of_row W X 3 _ _ _ h,cell_of_row W X 4 _ _ _ h,cell_of_row W X 5 _ _ _ h⟩
theorem qEM {W:World} {X:Nat} {v0 v1 v2 v3 v4 v5 v6 v7:Value} {t:TypeId} (h:W.heap[X]? =some (Obj.cells #[v0,v1,v2,v3,v4,v5,v6,v7] t)):W.cell? ⟨X,0,none⟩=some v0/\W.cell? ⟨X,1,none⟩=some v1/\W.cell? ⟨X,2,none⟩=some v2/\W.cell? ⟨X,3,none⟩=some v3/\W.cell? ⟨X,4,none⟩=some v4/\W.cell? ⟨X,5,none⟩=some v5/\W.cell? ⟨X,6,none⟩=some v6/\W.cell? ⟨X,7,none⟩=some v7:=
 ⟨cell_of_row W X 0 _ _ _ h,cell_of_row W X 1 _ _ _ h,cell_of_row W X 2 _ _ _ h,cell_of_row W X 3 _ _ _ h,cell_of_row W X 4 _ _ _ h,cell_of_row W X 5 _ _ _ h,cell_of_row W X 6 _ _ _ h,cell_of_row W X 7 _ _ _ h⟩
theorem qMT {W:World} {X:Nat} {s1 t1:Bool} {A1 B1:Option Addr} {n1 c1 m1 d1:Nat} {t:TypeId} (h:W.heap[X]? =some (Obj.cells #[.bool s1,.slice A1 n1 c1,.bool t1,.slice B1 m1 d1] t)):qGD W X:=by
 refine⟨_,_,h,λi k z=>?_⟩
 match i with
 | 0|1|2|3=>simp
 | i+4=>simp
theorem qHH {W:World} {X:Nat} {s1 s2:Bool} {A1 B1 A2 B2:Option Addr} {n1 c1 m1 d1 n2 c2 m2 d2:Nat} {t:TypeId} (h:W.heap[X]? =some (Obj.cells #[.bool s1,.slice A1 n1 c1,.slice B1 m1 d1,.bool s2,.slice A2 n2 c2,.slice B2 m2 d2] t)):qGD W X:=by
 refine⟨_,_,h,λi k z=>?_⟩
 match i with
 | 0|1|2|3|4|5=>simp
 | i+6=>simp
theorem bxl {w W:World} {B:Nat} {o:Obj} (h:Le w W) (hk:w.heap[B]? =some o):W.heap[B]? =some o:=(Below.block h B (gsl hk)).trans hk
theorem qIC {x:FracA×FracA} {a b:Rat} (h1:x.1.rat?=some a) (h2:x.2.rat?=some b):tval x=some (a,b):=by unfold tval;rw[h1,h2]
theorem qMU {x:FracA×FracA} (h:x.1.rat?=none):tval x=none:=by unfold tval;rw[h]
theorem qLH {x:FracA×FracA} (h:x.2.rat?=none):tval x=none:=by
 unfold tval;rw[h]
 cases x.1.rat?<;>rfl
theorem qLI {x:FracA×FracA} {g:G2} (h:tval x=some g):x.1.rat?=some g.1/\x.2.rat?=some g.2:=by
 unfold tval at h
 cases h1:x.1.rat? with
 | none=>rw[h1]at h;cases h
 | some a=>
  cases h2:x.2.rat? with
  | none=>rw[h1,h2]at h;cases h
  | some b=>
   rw[h1,h2]at h;injection h with h;subst h;exact⟨rfl,rfl⟩
def qOD (x:FracA×FracA) (w:World) (e:Ending) (w':World):Prop:=Le w w'/\((∃g v,tval x=some g/\e= .returned v/\TurnL .u32 w' v g)∨(tval x=none/\e= .panicked (flt 10)))
def MPred.turnO (x:FracA×FracA):MPred:=⟨λv w=>∃g,tval x=some g/\TurnL .u32 w v g,λ_ _ _ hb ⟨g,h1,h2⟩=>⟨g,h1,h2.le hb⟩⟩
def ABox (W:World) (B:Nat) (x:FracA×FracA):Prop:=
 ∃A1 c1 B1 d1 A2 c2 B2 d2,W.heap[B]? =some (.cells #[.bool x.1.sn,.slice A1 x.1.gn.length c1,.bool x.1.sd,.slice B1 x.1.gd.length d1,.bool x.2.sn,.slice A2 x.2.gn.length c2,.bool x.2.sd,.slice B2 x.2.gd.length d2] 55)∧
  IsFracA (λ_=>True) W (.agg #[.bool x.1.sn,.slice A1 x.1.gn.length c1,.bool x.1.sd,.slice B1 x.1.gd.length d1]) x.1/\IsFracA (λ_=>True) W (.agg #[.bool x.2.sn,.slice A2 x.2.gn.length c2,.bool x.2.sd,.slice B2 x.2.gd.length d2]) x.2
theorem ABox.le {w W:World} {B:Nat} {x:FracA×FracA} (h:ABox w B x) (hb:Le w W):ABox W B x:=by
 obtain⟨b,g,d,j,c,i,f,k,n,l,m⟩:=h;exact⟨b,g,d,j,c,i,f,k,bxl hb n,l.le hb,m.le hb⟩
theorem IsTurnA.mk {w:World} {x:FracA×FracA} {A1 B1 A2 B2:Option Addr} {c1 d1 c2 d2:Nat} (h1:IsFracA (λ_=>True) w (.agg #[.bool x.1.sn,.slice A1 x.1.gn.length c1,.bool x.1.sd,.slice B1 x.1.gd.length d1]) x.1) (h2:IsFracA (λ_=>True) w (.agg #[.bool x.2.sn,.slice A2 x.2.gn.length c2,.bool x.2.sd,.slice B2 x.2.gd.length d2]) x.2):
  IsTurnA w (.agg #[.bool x.1.sn,.slice A1 x.1.gn.length c1,.bool x.1.sd,.slice B1 x.1.gd.length d1,.bool x.2.sn,.slice A2 x.2.gn.length c2,.bool x.2.sd,.slice B2 x.2.gd.length d2]) x:=⟨_,_,_,_,_,_,_,_,rfl,h1,h2⟩
theorem qHI (W:World) (X:Nat) (u0 u1 u2 u3:Value):Touch X W ((((W.setCell ⟨X,0,none⟩ u0).setCell ⟨X,1,none⟩ u1).setCell ⟨X,2,none⟩ u2).setCell ⟨X,3,none⟩ u3):=((((Touch.refl X W).set 0 u0).set 1 u1).set 2 u2).set 3 u3
theorem qOE (z:Int) (hz0: -9223372036854775808<=z) (hz1:z<=9223372036854775807):Rsz (z:Rat) 3:=
 ⟨qMN (N:=z.natAbs) (by omega),by rw[show(z:Rat).den =1 from rfl,qGu];simp⟩
theorem qID (x:FracA):(∃r,x.rat?=some r)∨x.rat?=none:=by
 cases h:x.rat? with
 | none=>exact .inr rfl
 | some r=>exact .inl ⟨r,rfl⟩
theorem qHJ (x:FracA×FracA):(∃g,tval x=some g)∨tval x=none:=by
 cases h:tval x with
 | none=>exact .inr rfl
 | some r=>exact .inl ⟨r,rfl⟩
end Go.Proofs.YtbcbcdgbliheoaaGreat

/- Texts: Text. -/
import Derived.Test.YtfmfefibadpobaaGreatDoorPk36
namespace Go.Proofs.YtfmfefibadpobaaGreatDoor
set_option maxRecDepth 100000
open Go.RowKit Go.Shelf
set_option linter.unusedVariables false
set_option linter.unusedSimpArgs false
theorem qD9:qAh Tryz.prog 12:=λ_ _=>by kernel_rfl
theorem qFb (x:FracA) (r:Rat) (Bx:Nat) (A A':Option Addr) (c c':Nat) (w:World) (kx:w.heap[Bx]? =some (.cells #[.bool x.sn,.slice A x.gn.length c,.bool x.sd,.slice A' x.gd.length c'] 26)) (hxa:IsFracA (λ_=>True) w (.agg #[.bool x.sn,.slice A x.gn.length c,.bool x.sd,.slice A' x.gd.length c']) x) (hw:TxW w) (hr:x.rat?=some r):
  Calls Tryz.prog 12 #[.pointer (some ⟨Bx,0,none⟩)] w λe w'=>e= .returned (.string (baL (qAH r)))/\Le w w':=by
 obtain⟨z,B,C,D⟩:=qAC kx;have i:=(FracA.sz hr).up (n:=1000) (by omega);have⟨s,k,l,m,j⟩:=hyd5 kx hxa hr hw i;clear i hw hr hxa kx;go_enter Tryz.func12,Tryz.ntmps12;go_wp2_with (fail);go_at_call 14;refine(qGI (λ_=>True) x r _ _ (Up.any _) k.out l.out).mono ?_;rintro e p ⟨v,rfl,b,h⟩;have q:=qCg (λ_=>True) r v p (m.out.le b) h j.out;have⟨f,o,t⟩:=hyd3 b h q;clear q h b;go_wp2_with (fail);go_at_call 13;refine t.out.mono ?_;rintro e y ⟨rfl,d⟩;have g:=hyd1 d;clear d;go_wp2;go_ret;exact⟨rfl,f.out.trans g.out⟩
theorem qFc (x:FracA) (Bx:Nat) (A A':Option Addr) (c c':Nat) (w:World) (kx:w.heap[Bx]? =some (.cells #[.bool x.sn,.slice A x.gn.length c,.bool x.sd,.slice A' x.gd.length c'] 26)) (hxa:IsFracA (λ_=>True) w (.agg #[.bool x.sn,.slice A x.gn.length c,.bool x.sd,.slice A' x.gd.length c']) x) (hr:x.rat?=none):
  Calls Tryz.prog 12 #[.pointer (some ⟨Bx,0,none⟩)] w λe w'=>e= .panicked [{v:= .iface 69 (.agg #[.int .i64 10]),recovered:=false}]/\Le w w':=by
 obtain⟨i,j,k,l⟩:=qAC kx;have⟨g,d,f⟩:=hyd3 kx hxa hr;clear hr hxa kx;go_enter Tryz.func12,Tryz.ntmps12;go_wp2_with (fail);go_at_call 14;refine(qGJ (λ_=>True) x _ w (Up.any _) d.out f.out).mono ?_;rintro e h ⟨rfl,b⟩;go_wp2_with (fail);exact⟨rfl,rfl,b⟩
theorem qFp (L:Nat->Prop) (x:FracA) (v:Value) (w:World) (h:IsFracA L w v x) (hw:TxW w):
  Calls Tryz.prog 5 #[v] w λe w'=>e= .returned (.tuple #[.string (baL (qC0 x)),.int .i64 (qC1 x)])/\Le w w':=by
 have D:∀(fn:Fn) (first cap:Array Value) (w:World),(Instr.makeFunc fn first cap).run Tryz.prog w= .ok (.func fn first cap) w:=λ_ _ _ _=>rfl;have f:=h;obtain⟨A,c,q,s,rfl,B,C⟩:=h;obtain⟨p,t,b,o⟩:=al1 w (.cells #[.bool x.sn,.slice A x.gn.length c,.bool x.sd,.slice q x.gd.length s] 26);have n:=(gsl o)
 have i:Calls Tryz.prog 11 #[.func (.func 12) #[] #[.pointer (some ⟨w.heap.size,0,none⟩)]] p λe w'=>e= .returned (.tuple #[.string (baL (qC0 x)),.int .i64 (qC1 x)])/\Le p w':=by
  unfold qC0 qC1
  cases hr:x.rat? with
  | some r=>exact qEv _ _ _ p qD9 λW l=>qFb x r w.heap.size A q c s W ((l.block _ n).trans o) ((f.le (b.trans l)).mono λ_ _=>trivial) (hw.le (b.trans l)) hr
  | none=>exact qEa _ _ 10 p qD9 λW l=>qFc x w.heap.size A q c s W ((l.block _ n).trans o) ((f.le (b.trans l)).mono λ_ _=>trivial) hr
 have⟨z,G,H,m,F,k,E⟩:=hyd7 f B C b o i hw;clear hw i o b C B f;go_enter Tryz.func5,Tryz.ntmps5;go_wp2_with (fail);clear t;go_at_call 11;refine k.out.mono ?_;rintro e I ⟨rfl,d⟩;have g:=m.out.trans d;have⟨y,j⟩:=hyd2 d g;clear g d;go_wp2;go_ret2;exact⟨rfl,j.out⟩
end Go.Proofs.YtfmfefibadpobaaGreatDoor

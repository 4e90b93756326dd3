/- Texts, the reference: Text. -/
import Derived.Test.YtfmfefibadpobaaGreatDoorPk26
namespace Go.Proofs.YtfmfefibadpobaaGreatDoor
set_option maxRecDepth 100000
set_option maxHeartbeats 1000000
open Go.RowKit Go.Shelf
set_option linter.unusedVariables false
set_option linter.unusedSimpArgs false
noncomputable def qC0 (x:FracA):List UInt8:=match x.rat? with
 | some r=>qAH r
 | none=>[]
noncomputable def qC1 (x:FracA):Int:=match x.rat? with
 | some _=>0
 | none=>10
theorem qEn (L L2:Nat->Prop) (x:FracA) (v:Value) (w:World) (hL:Up w L) (h:IsFracA L2 w v x):
  Calls Tryz.prog 6 #[v] w λe w'=>e= .returned (.tuple #[strV (qC0 x),.int .i64 (qC1 x)])/\Le w w':=by
 have C:=h;obtain⟨A,c,B,d,rfl,M,N⟩:=h;have j:=qAA w (.cells #[.bool x.sn,.slice A x.gn.length c,.bool x.sd,.slice B x.gd.length d] 26);have O:=qH5 L L2 x _ _ (hL.le j) (C.le j);have⟨E,U,Y,Z,k,G⟩:=hyd6 hL C M N j O;clear O j N M C hL;go_enter Tryz.func6,Tryz.ntmps6;go_wp2_with (fail);go_at_call 15;refine G.out.mono ?_;rintro e I ⟨b,⟨r,i,v1,rfl,z⟩| ⟨i,rfl⟩⟩
 ·have t:qC0 x=qAH r:=by unfold qC0;rw[i]
  have y:qC1 x=0:=by unfold qC1;rw[i]
  have s:=FracA.sz i;have D:=z;obtain⟨Q,S,R,T,rfl,-,-⟩:=z.form;have f:=(k.out.trans b).trans (qAA I (.cells #[.bool (rneg r),.slice Q (dg (rnum r)).length S,.slice R (dg r.den).length T] 49));have P:=qCZ L r _ _ (E.out.le f) (D.le (qAA _ _)) (s.up (n:=1000) (by omega));have⟨m,o,V,X,F,p,g,J⟩:=hyd8 t y z D i b f s;have H:=hyd1 P;clear P s f b i D z y t;go_wp2_with (fail);go_at_call 16;refine H.out.mono ?_;rintro e W2 ⟨rfl,l⟩;have q:=hyd1 l;clear l;go_wp2;refine bodyPost_ret (v:= .tuple #[strV (qAH r),.int .i64 0]) (by simp[results,Tryz.results6,go_sem,strV]) rfl ?_;exact⟨by rw[m.out,o.out],g.out.trans q.out⟩
 ·have t:qC0 x=[]:=by unfold qC0;rw[i]
  have y:qC1 x=10:=by unfold qC1;rw[i]
  have f:=(k.out.trans b).trans (qAA I (.cells #[.bool false,.slice none 0 0,.slice none 0 0] 49));have⟨m,o,F,p,g⟩:=hyd5 t y i b f;clear f b i y t;unfold qBY;go_wp2;refine bodyPost_ret (v:= .tuple #[strV [],.int .i64 10]) (by simp[results,Tryz.results6,go_sem,strV]) rfl ?_;exact⟨by rw[m.out,o.out],g.out⟩
end Go.Proofs.YtfmfefibadpobaaGreatDoor

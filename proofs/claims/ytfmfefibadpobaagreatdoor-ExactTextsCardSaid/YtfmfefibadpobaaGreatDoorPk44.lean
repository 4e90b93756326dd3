/- From what a row's opening gives of a fraction (a struct of two structs) to the predicate that the contracts speak of. -/
import Derived.Test.YtfmfefibadpobaaGreatDoorPk19
import Derived.Test.YtfmfefibadpobaaGreatDoorPk43
import Derived.Lib.SmallJoins
namespace Go.Proofs.YtfmfefibadpobaaGreatDoor
set_option maxRecDepth 100000
open Go.RowKit Go.ChangeShapes Go.WideShapes Go.Deep
set_option linter.unusedVariables false
theorem qHp {n:Int} (h:(Lit.int .u32 n).wf =true):0<=n/\n<4294967296:=by
 have d:IntKind.u32.min<=n/\n<=IntKind.u32.max:=by simpa[Lit.wf]using h
 have b:IntKind.u32.min=0:=by kernel_rfl
 have c:IntKind.u32.max=4294967295:=by kernel_rfl
 rw[b,c]at d;omega
theorem qHQ {w:World} {v:Value} {zs:List Int} (h:Arr (Value.int .u32) w v zs) (hz:∀n∈zs,(Lit.int .u32 n).wf =true):ArrL (λ_=>True) (gv .u32) w v (zs.map Int.toNat):=by
 obtain⟨A,c,s,k,l,o,m⟩:=h;refine⟨A,c,by rw[s,List.length_map],by rw[List.length_map];exact k,l,o,λi=>?_⟩;rw[List.length_map]at i;obtain⟨b,g,p,f,q⟩:=m i;refine⟨b,g,p,trivial,f,λj r=>?_⟩;have d:j<zs.length:=by simpa using r
 rw[q j d];have:=(qHp (hz _ (List.getElem_mem d))).1;unfold gv;rw[List.getElem_map,Int.toNat_of_nonneg this]
section
variable {H:Type} {enc:TypeId×Value->H} {w:World} {n:Nat}
theorem qF2 {v:Value} {y:DataW H×List MemPlace} (h:DataW.trod enc Tryz.prog w 0 (λ_=>true) true n 22 [v]=some y):∃gs:List Nat,ArrL (λ_=>True) (gv .u32) w v gs:=by
 rcases open_ints Tryz.underlying22 Tryz.underlying82 (by kernel_rfl) h with⟨hcs,_⟩| ⟨x,l,c,zs,hcs,_,hl,hm,hz,_,hcell,hwz⟩
 ·obtain rfl:v= .slice none 0 0:=by simpa using hcs
  exact⟨[],none,0,rfl,Nat.le_refl _,Nat.zero_le _,λ_=>rfl,λh=>absurd h (Nat.lt_irrefl 0)⟩
 ·obtain rfl:v= .slice (some x) l c:=by simpa using hcs
  have:=InRow.arr (k:= .u32) (.inr ⟨_,rfl,hl,hm,by simpa using hz,hcell,hwz⟩);exact⟨_,qHQ this.1 this.2⟩
theorem qEU {v0 v1:Value} {y:DataW H×List MemPlace} (h:DataW.trod enc Tryz.prog w 0 (λ_=>true) true n 24 [v0,v1]=some y):∃(s:Bool) (gs:List Nat),v0= .bool s/\ArrL (λ_=>True) (gv .u32) w v1 gs:=by
 obtain⟨g,m,-,-,-,b,f⟩:=DataW.trod_struct Tryz.underlying24 h;obtain⟨l,c⟩:∃y,g[0]? =some y:=⟨_,List.getElem?_eq_getElem (by rw[b];decide)⟩;obtain⟨o,d⟩:∃y,g[1]? =some y:=⟨_,List.getElem?_eq_getElem (by rw[b];decide)⟩;have i:=(f 0 _ rfl).trans c;have j:=(f 1 _ rfl).trans d;obtain⟨s,e,-⟩:=DataW.trod_bool (cs:=[v0]) Tryz.underlying4 i;obtain⟨gs,k⟩:=qF2 (v:=v1) j;exact⟨s,gs,by simpa using e,k⟩
theorem open_frac {r:Reach} {b0:Nat} {v:Value} {d:DataW H} {p:List MemPlace} (hv:Value.okWide Tryz.prog w r b0 26 v) (h:DataW.Trod enc Tryz.prog w 0 (λ_=>true) true 26 v d p):
  ∃a:FracA,IsFracA (λ_=>True) w v a:=by
 obtain⟨j,rfl,f⟩:=okWide_struct Tryz.underlying26 hv;obtain⟨k,J⟩:=h;obtain⟨x,m,-,-,-,b,t⟩:=DataW.trod_struct Tryz.underlying26 J;obtain⟨l,rfl⟩:∃l:List Value,j=l.toArray:=⟨j.toList,by simp⟩
 have L:l.length=4:=by
  have:Tryz.prog.cellsOf 26=4:=by kernel_rfl
  rw[this]at f;simpa using f
 match l,L with
 | [v0,v1,v2,v3],_=>
  obtain⟨N,g⟩:∃y,x[0]? =some y:=⟨_,List.getElem?_eq_getElem (by rw[b];decide)⟩;obtain⟨O,i⟩:∃y,x[1]? =some y:=⟨_,List.getElem?_eq_getElem (by rw[b];decide)⟩;have E:=(t 0 _ rfl).trans g;have F:=(t 1 _ rfl).trans i;obtain⟨s,I,rfl,o⟩:=qEU (v0:=v0) (v1:=v1) E;obtain⟨M,G,rfl,q⟩:=qEU (v0:=v2) (v1:=v3) F;obtain⟨A,c,C,-⟩:=id o;obtain⟨B,z,D,-⟩:=id q;subst C D;exact⟨⟨s,I,M,G⟩,A,c,B,z,rfl,o,q⟩
end
end Go.Proofs.YtfmfefibadpobaaGreatDoor

/- exact, turning numbers: in. exact, turning numbers: out. exact, turning numbers: plus, times. exact, turning numbers: mirrored, norm. exact, turning numbers: .. -/
import Derived.Test.YtbcbcdgbliheoaaGreatPk41
namespace Go.Proofs.YtbcbcdgbliheoaaGreat
set_option maxRecDepth 100000
set_option maxHeartbeats 4000000
open Go.RowKit Go.Shelf
set_option linter.unusedVariables false
set_option linter.unusedSimpArgs false
theorem qIF (x:FracA×FracA) (va:Value) (w:World) (ha:IsTurnA w va x):Calls Tryz.prog 111 #[va] w (qOD x w):=by
 obtain⟨ag,ai,ah,aj,ak,am,al,an,rfl,s,t⟩:=ha;obtain⟨W0,a0,bp,y,k0,k1⟩:=qGC w (.cells #[.bool x.1.sn,.slice ag x.1.gn.length ai,.bool x.1.sd,.slice ah x.1.gd.length aj,.bool x.2.sn,.slice ak x.2.gn.length am,.bool x.2.sd,.slice al x.2.gd.length an] 55) (.cells #[.bool false,.slice none 0 0,.slice none 0 0,.bool false,.slice none 0 0,.slice none 0 0] 154);obtain⟨ao,ap,aq,ar,au,av,aw,ax⟩:=qEM k0;replace s:=s.le y;replace t:=t.le y;have⟨E,bq,a4,B,C⟩:=hyd5 y k0 k1 s t;clear t s k1 k0 y;go_enter Tryz.func111,Tryz.ntmps111;go_wp2_with (fail);clear a0;refine qA6 (R:=leRel) 7 [some 3,some 4,some 5,some 6,some 7,some 8,some 9,none] [[],[0],[1],[],[3],[4],[2,5],[6]]
  [.eq (.pointer (some ⟨w.heap.size,0,none⟩)),.eq (.agg #[.bool x.1.sn,.slice ag x.1.gn.length ai,.bool x.1.sd,.slice ah x.1.gd.length aj]),MPred.ratO (x.1),.eq (.pointer (some ⟨w.heap.size,4,none⟩)),.eq (.agg #[.bool x.2.sn,.slice ak x.2.gn.length am,.bool x.2.sd,.slice al x.2.gd.length an]),MPred.ratO (x.2),MPred.turnO x] (λch W=>ch=flt 10/\tval x=none/\Le W0 W) (by kernel_rfl) (by kernel_rfl) (by kernel_rfl) (by kernel_rfl) ?_ (by rintro a9 ch W a1 - ⟨rfl,J,j⟩;exact⟨a1,E.out.trans j,.inr ⟨J,rfl⟩⟩) ?_
 ·simp only[List.take_succ_cons,List.take_zero];refine mSc ?_ (mSc ?_ (mSc ?_ (mSc ?_ (mSc ?_ (mSc ?_ (mSc ?_ (qA7)))))))
  ·refine mSl rfl λq W d k Q hK A=>?_;simp only[fA]at hK ⊢;go_wp2;exact hK _ _ lrR rfl
  ·refine mSl rfl λq W d k Q hK A=>?_;obtain⟨h,-⟩:=k;change _=_ at h;have ba:=bcl d (by omega) ao;have bb:=bcl d (by omega) ap;have bc:=bcl d (by omega) aq;have bd:=bcl d (by omega) ar;simp only[fA,h]at hK ⊢;go_wp2;exact hK _ _ lrR rfl
  ·refine mSl rfl λq W d k Q hK A=>?_;obtain⟨h,-⟩:=k;change _=_ at h;simp only[fA,h]at hK ⊢
   rcases qID x.1 with⟨r,hs⟩|hs
   ·have b:=qDu (λ_=>True) x.1 r _ W (Up.any _) (B.out.le d) hs;have⟨c,f,i⟩:=hyd3 b d hs;clear hs d b;go_wp2_with (fail);go_at_call 61;refine c.out.mono ?_;rintro e w' ⟨v',rfl,l,p⟩;obtain⟨aH,aB,aG,aD,aC,aF,aE,qz⟩:=p.qform;subst qz;have z:=hyd1 p;clear p;go_wp2;exact hK _ _ l ⟨_,i.out,z.out⟩
   ·have b:=qDv (λ_=>True) x.1 _ W (Up.any _) (B.out.le d) hs;have⟨c,f,i⟩:=hyd3 b d hs;clear hs d b;go_wp2_with (fail);go_at_call 61;refine c.out.mono ?_;rintro e w' ⟨rfl,l⟩;go_wp2_with (fail);exact A _ _ _ (Le.trans f.out l) ⟨rfl,qMU i.out,f.out.trans l⟩
  ·refine mSl rfl λq W d k Q hK A=>?_;simp only[fA]at hK ⊢;go_wp2;exact hK _ _ lrR rfl
  ·refine mSl rfl λq W d k Q hK A=>?_;obtain⟨h,-⟩:=k;change _=_ at h;have be:=bcl d (by omega) au;have bf:=bcl d (by omega) av;have bg:=bcl d (by omega) aw;have bh:=bcl d (by omega) ax;simp only[fA,h]at hK ⊢;go_wp2;exact hK _ _ lrR rfl
  ·refine mSl rfl λq W d k Q hK A=>?_;obtain⟨h,-⟩:=k;change _=_ at h;simp only[fA,h]at hK ⊢
   rcases qID x.2 with⟨r,hs⟩|hs
   ·have b:=qDu (λ_=>True) x.2 r _ W (Up.any _) (C.out.le d) hs;have⟨c,f,i⟩:=hyd3 b d hs;clear hs d b;go_wp2_with (fail);go_at_call 61;refine c.out.mono ?_;rintro e w' ⟨v',rfl,l,p⟩;obtain⟨aH,aB,aG,aD,aC,aF,aE,qz⟩:=p.qform;subst qz;have z:=hyd1 p;clear p;go_wp2;exact hK _ _ l ⟨_,i.out,z.out⟩
   ·have b:=qDv (λ_=>True) x.2 _ W (Up.any _) (C.out.le d) hs;have⟨c,f,i⟩:=hyd3 b d hs;clear hs d b;go_wp2_with (fail);go_at_call 61;refine c.out.mono ?_;rintro e w' ⟨rfl,l⟩;go_wp2_with (fail);exact A _ _ _ (Le.trans f.out l) ⟨rfl,qLH i.out,f.out.trans l⟩
  ·refine mSl rfl λq W d k Q hK A=>?_;obtain⟨h,e1,-⟩:=k;replace h:∃r,(x.1).rat? =some r/\RatT .u32 W (q 2) r:=h;replace e1:∃r,(x.2).rat? =some r/\RatT .u32 W (q 5) r:=e1;obtain⟨a7,L,n⟩:=h;obtain⟨aR,aL,aQ,aN,aM,aP,aO,N⟩:=n.qform;rw[N]at n;obtain⟨a8,M,o⟩:=e1;obtain⟨aY,aS,aX,aU,aT,aW,aV,O⟩:=o.qform;rw[O]at o;simp only[fA,N,O]at hK ⊢;go_wp2;exact hK _ _ lrR (⟨(a7,a8),qIC L M,TurnL.mk n o⟩)
 ·intro q W d k Q' az _;have eL:∃g,tval x=some g/\TurnL .u32 W (q 6) g:=k 6 (by decide);obtain⟨g,hg,ae,P,ac,V,T,aa,Y,af,S,ad,X,U,ab,Z,qL,l,p⟩:=eL;have H:=(Below.block d (w.heap.size+1) (by omega)).trans a4.out;obtain⟨z0,z1,z2,z3,z4,z5⟩:=qDP H;have⟨g0,g1,g2,g3,g4,g5⟩:=frz6 H;simp only[List.drop_succ_cons,List.drop_zero];rw[show List.range 7=[0,1,2,3,4,5,6]from rfl];simp only[fA,qL];have j:=λu0 u1 u2 u3 u4 u5=>qGE (Le.trans E.out d) (show w.heap.size<=w.heap.size+1 by omega) u0 u1 u2 u3 u4 u5;have F:=λu0 u1 u2 u3 u4 u5=>qDP (qE0 H u0 u1 u2 u3 u4 u5);simp only[set6]at F;have D:=λu0 u1 u2 u3 u4 u5=>And.intro (l.touch (qHH H) (qCd W (w.heap.size+1) u0 u1 u2 u3 u4 u5)) (p.touch (qHH H) (qCd W (w.heap.size+1) u0 u1 u2 u3 u4 u5));have⟨G,I,m,br,bu,z,bs,f⟩:=hyd8 j F D H l p qL d;clear d qL p l H D F j;have a2:=hyd1 hg;clear hg;go_wp2;refine az _ _ ?_;go_wp2;obtain⟨d0,d1,d2,d3,d4,d5⟩:=I.out (.bool ae) (.slice P ac V) (.slice T aa Y) (.bool af) (.slice S ad X) (.slice U ab Z);exact bodyPost_ret (v:= .agg #[.bool ae,.slice P ac V,.slice T aa Y,.bool af,.slice S ad X,.slice U ab Z]) (by simp[results,Tryz.results111,go_sem,d0,d1,d2,d3,d4,d5]) rfl ⟨G.out _ _ _ _ _ _,.inl ⟨g,_,a2.out,rfl,TurnL.mk (m.out _ _ _ _ _ _).1 (m.out _ _ _ _ _ _).2⟩⟩
theorem qJP (x:FracA×FracA) (r:G2) (va:Value) (w:World) (ha:IsTurnA w va x) (hs:tval x=some r):Calls Tryz.prog 111 #[va] w λe w'=>∃v',e= .returned v'/\Le w w'/\TurnL .u32 w' v' r:=by
 refine(qIF x va w ha).mono ?_;rintro e w' ⟨c,⟨g,v,b,rfl,h⟩| ⟨b,-⟩⟩
 ·rw[hs]at b;injection b with b;subst b;exact⟨v,rfl,c,h⟩
 ·rw[hs]at b
  cases b
theorem qJQ (x:FracA×FracA) (va:Value) (w:World) (ha:IsTurnA w va x) (hs:tval x=none):Calls Tryz.prog 111 #[va] w λe w'=>e= .panicked (flt 10)/\Le w w':=by
 refine(qIF x va w ha).mono ?_;rintro e w' ⟨b,⟨g,v,c,-⟩| ⟨-,h⟩⟩
 ·rw[hs]at c
  cases c
 ·exact⟨h,b⟩
end Go.Proofs.YtbcbcdgbliheoaaGreat

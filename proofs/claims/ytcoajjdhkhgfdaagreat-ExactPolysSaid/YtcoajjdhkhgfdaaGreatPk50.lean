/- law 1: copied, erase. -/
import Derived.Test.YtcoajjdhkhgfdaaGreatPk31
namespace Go.Proofs.YtcoajjdhkhgfdaaGreat
set_option maxRecDepth 100000
set_option maxHeartbeats 2000000
open Go.RowKit Go.Shelf
set_option linter.unusedVariables false
set_option linter.unusedSimpArgs false
theorem qK5 {W:World} {X:Nat} {v0 v1 v2 v3 u:Value} {t:TypeId} (h:W.heap[X]? =some (Obj.cells #[v0,v1,v2,v3] t)):(W.setCell ⟨X,1,none⟩ u).heap[X]? =some (.cells #[v0,u,v2,v3] t):=by
 simp only[World.setCell,Array.getElem?_modify,h];simp
theorem qK6 {W:World} {X:Nat} {v0 v1 v2 v3 u:Value} {t:TypeId} (h:W.heap[X]? =some (Obj.cells #[v0,v1,v2,v3] t)):(W.setCell ⟨X,3,none⟩ u).heap[X]? =some (.cells #[v0,v1,v2,u] t):=by
 simp only[World.setCell,Array.getElem?_modify,h];simp
theorem qHQ {w:World} {base e:Nat} {v:Value} {xs:List Nat} (h:w.ownsRow base e 1 v xs.length (xs.map (gv .u32))):∃A c,v= .slice A xs.length c:=by
 obtain⟨A,c,e,-⟩:=(ArrL.of_own h (L:=λ_=>True) λ_ _=>trivial:ArrL _ (gv .u32) _ _ _);exact⟨A,c,e⟩
theorem qIe {w W0 W1:World} {v:Value} {g:List Nat} {e t:TypeId} {o:Obj} {base:Nat} {s s':Bool} {A B:Option Addr} {n c m d:Nat} (hle:Le w W0) (hb:w.heap.size<W0.heap.size) (hbase:w.heap.size<base) (r1:W1.ownsRow base e 1 v ([]++g).length (([]++g).map (gv .u32))) (r2:Below W0.heap.size (W0.alloc o) W1)
  (k0:W0.heap[w.heap.size]? =some (.cells #[.bool s,.slice A n c,.bool s',.slice B m d] t)) (k1:W0.heap[w.heap.size+1]? =some (.cells #[.bool false,.slice none 0 0,.bool false,.slice none 0 0] t)):
  ∃A1 c1 W2,v= .slice A1 g.length c1/\W1.setCell ⟨w.heap.size,1,none⟩ (.slice A1 g.length c1)=W2/\Le W0 W1/\W1.heap[w.heap.size]? =some (.cells #[.bool s,.slice A n c,.bool s',.slice B m d] t)∧
   W2.heap[w.heap.size]? =some (.cells #[.bool s,.slice A1 g.length c1,.bool s',.slice B m d] t)/\W2.heap[w.heap.size+1]? =some (.cells #[.bool false,.slice none 0 0,.bool false,.slice none 0 0] t)/\Le w W2/\W2.ownsRow base e 1 (.slice A1 g.length c1) g.length (g.map (gv .u32))/\W0.heap.size<=W2.heap.size∧
   ∀b2 v2 n2 xs2,w.heap.size<b2->W0.ownsRow b2 e 1 v2 n2 xs2->W2.ownsRow b2 e 1 v2 n2 xs2:=by
 simp only[List.nil_append]at r1;obtain⟨A1,c1,rfl⟩:=qHQ r1;have b:Le W0 W1:=Below.trans (qAA _ _) r2;have f:=(b.block _ (gsl k0)).trans k0;have i:=(b.block _ (gsl k1)).trans k1;refine⟨A1,c1,_,rfl,rfl,b,f,qK5 f,(Below.heap_setCell _ _ _ _ (show w.heap.size+1≠w.heap.size by omega)).trans i,(hle.trans b).setCell (p:=⟨w.heap.size,1,none⟩) (Nat.le_refl _) _,qA3 r1 hbase _,?_,λb2 v2 n2 xs2 h j=>qA3 (qAq j b) h _⟩;have:=b.size;simpa[World.setCell]using this
theorem qIf {w W0 W1:World} {v:Value} {g:List Nat} {e t:TypeId} {o:Obj} {base:Nat} {s s':Bool} {A B:Option Addr} {n c m d:Nat} (hle:Le w W0) (hb:w.heap.size<W0.heap.size) (hbase:w.heap.size<base) (r1:W1.ownsRow base e 1 v ([]++g).length (([]++g).map (gv .u32))) (r2:Below W0.heap.size (W0.alloc o) W1)
  (k0:W0.heap[w.heap.size]? =some (.cells #[.bool s,.slice A n c,.bool s',.slice B m d] t)) (k1:W0.heap[w.heap.size+1]? =some (.cells #[.bool false,.slice none 0 0,.bool false,.slice none 0 0] t)):
  ∃A1 c1 W2,v= .slice A1 g.length c1/\W1.setCell ⟨w.heap.size,3,none⟩ (.slice A1 g.length c1)=W2/\Le W0 W1/\W1.heap[w.heap.size]? =some (.cells #[.bool s,.slice A n c,.bool s',.slice B m d] t)∧
   W2.heap[w.heap.size]? =some (.cells #[.bool s,.slice A n c,.bool s',.slice A1 g.length c1] t)/\W2.heap[w.heap.size+1]? =some (.cells #[.bool false,.slice none 0 0,.bool false,.slice none 0 0] t)/\Le w W2/\W2.ownsRow base e 1 (.slice A1 g.length c1) g.length (g.map (gv .u32))/\W0.heap.size<=W2.heap.size∧
   ∀b2 v2 n2 xs2,w.heap.size<b2->W0.ownsRow b2 e 1 v2 n2 xs2->W2.ownsRow b2 e 1 v2 n2 xs2:=by
 simp only[List.nil_append]at r1;obtain⟨A1,c1,rfl⟩:=qHQ r1;have b:Le W0 W1:=Below.trans (qAA _ _) r2;have f:=(b.block _ (gsl k0)).trans k0;have i:=(b.block _ (gsl k1)).trans k1;refine⟨A1,c1,_,rfl,rfl,b,f,qK6 f,(Below.heap_setCell _ _ _ _ (show w.heap.size+1≠w.heap.size by omega)).trans i,(hle.trans b).setCell (p:=⟨w.heap.size,3,none⟩) (Nat.le_refl _) _,qA3 r1 hbase _,?_,λb2 v2 n2 xs2 h j=>qA3 (qAq j b) h _⟩;have:=b.size;simpa[World.setCell]using this
theorem qK7 (L:Nat->Prop) (x:FracA) (v:Value) (w:World) (hL:Up w L) (h:IsFracA (λ_=>True) w v x) (hn:x.gn.length<=1000) (hd:x.gd.length<=1000):
  Calls Tryz.prog 6 #[v] w λe w'=>∃v',e= .returned v'/\Le w w'/\IsFracA L w' v' x:=by
 obtain⟨A,c,B,d,rfl,p1,p2⟩:=h;obtain⟨t,ac,q,l,k0,k1⟩:=qDX w (.cells #[.bool x.sn,.slice A x.gn.length c,.bool x.sd,.slice B x.gd.length d] 27) (.cells #[.bool false,.slice none 0 0,.bool false,.slice none 0 0] 27);have aE:=Nat.le_of_eq q;have aF:=Nat.le_of_eq q.symm;clear q;obtain⟨T,U,V,X⟩:=qAI k0;have j:=qEh t 99 t.heap.size (Nat.le_refl _);have k:=((p1.le l).le (qAA t (.cells #[] 99))).arr;have⟨C,aI,ao,E,ak,al,o,p⟩:=hyd8 hL p1 p2 l k0 k1 j k;clear k j k1 k0 l p2 p1 hL;go_enter Tryz.func6,Tryz.ntmps6;have ae:w.heap.size<t.heap.size:=by omega
 have ae:w.heap.size<t.heap.size:=by omega
 have aC:¬w.heap.size+1=w.heap.size:=by omega
 have aD:¬w.heap.size=w.heap.size+1:=by omega
 go_wp2_with (first | (at_builtin;(refine qAM rfl (.tmp 3) (.tmp 6) 23 rfl t.heap.size 99 .u32 4 qGc (by decide) _ [] rfl o.out _ x.gn rfl p.out (by simp;omega) (by simp) ?_);intro v1 W1 P Q r3 r4;(obtain⟨R,Y,z,e1,ad,m1,r,s,f,y,O,m7,m8⟩:=qIe E.out (by omega) (by omega) P Q ak.out al.out);subst e1;(have i1:=qAI r);(have i2:=fz0 r 1);(have i3:=qAI s);(have i4:=qAI f);clear P Q r3 r4;(have g:=Lib.hid (qEh z 99 z.heap.size (Nat.le_refl _)));(have i:=Lib.hid ((ao.out.le y).le (qAA z (.cells #[] 99))).arr);(have aB:w.heap.size<z.heap.size:=by omega);(have J:=Lib.hid s);(have M:=Lib.hid f);(have m:=Lib.hid y);(have G:=Lib.hid O);clear m1 r s f y O m8 T U V X ac;(obtain⟨T,U,V,X⟩:=i1);(obtain⟨b0,b1,b2,b3⟩:=i3);clear i4)| (at_builtin;go_must (refine qAM rfl (.tmp 10) (.tmp 13) 23 rfl z.heap.size 99 .u32 4 qGc (by decide) _ [] rfl g.out _ x.gd rfl i.out (by simp;omega) (by simp) ?_);intro v2 W3 P Q r3 r4;(obtain⟨S,Z,W4,e1,a9,m1,r,s,f,y,O,m7,m8⟩:=qIf m.out (by omega) (by omega) P Q J.out M.out);subst e1;(have i1:=qAI r);(have i2:=fz0 r 3);(have i3:=qAI s);(have i4:=qAI f);clear P Q r3 r4;(have ax:=Lib.hid s);(have N:=Lib.hid f);(have n:=Lib.hid y);(have H:=Lib.hid O);(have I:=Lib.hid (m8 _ _ _ _ (by omega) G.out));(have h0:=fz0 f 0);(have h1:=fz0 f 1);(have h2:=fz0 f 2);(have h3:=fz0 f 3);clear m1 r s f y O m8 T U V X b0 b1 b2 b3 ad;(obtain⟨T,U,V,X⟩:=i1);(obtain⟨b0,b1,b2,b3⟩:=i3);(obtain⟨f0,f1,f2,f3⟩:=i4)))
 have F:=λu0 u1 u2 u3=>qBv (u0:=u0) (u1:=u1) (u2:=u2) (u3:=u3) n.out (show w.heap.size<=w.heap.size+1 by omega);have af:=λu0 u1 u2 u3=>qAI (qBP (u0:=u0) (u1:=u1) (u2:=u2) (u3:=u3) N.out)
 have D:∀u0 u1 u2 u3,IsFracA L ((((W4.setCell ⟨w.heap.size+1,0,none⟩ u0).setCell ⟨w.heap.size+1,1,none⟩ u1).setCell ⟨w.heap.size+1,2,none⟩ u2).setCell ⟨w.heap.size+1,3,none⟩ u3) (.agg #[.bool x.sn,.slice R x.gn.length Y,.bool x.sd,.slice S x.gd.length Z]) x:=λu0 u1 u2 u3=>by
  refine⟨R,Y,S,Z,rfl,?_,?_⟩
  ·exact ArrL.of_own (qA3 (qA3 (qA3 (qA3 I.out (by omega) u0) (by omega) u1) (by omega) u2) (by omega) u3) (λb hb=>C.out b (by omega))
  ·exact ArrL.of_own (qA3 (qA3 (qA3 (qA3 H.out (by omega) u0) (by omega) u1) (by omega) u2) (by omega) u3) (λb hb=>C.out b (by omega))
 obtain⟨d0,d1,d2,d3⟩:=af (.bool x.sn) (.slice R x.gn.length Y) (.bool x.sd) (.slice S x.gd.length Z);exact bodyPost_ret (v:= .agg #[.bool x.sn,.slice R x.gn.length Y,.bool x.sd,.slice S x.gd.length Z]) (by simp[results,Tryz.results6,go_sem,d0,d1,d2,d3]) rfl ⟨_,rfl,F _ _ _ _,D _ _ _ _⟩
def EraB (w w':World):Prop:=∀(b:Nat) (cs:Array Value) (t:TypeId),w.heap[b]? =some (Obj.cells cs t)->∃cs',w'.heap[b]? =some (Obj.cells cs' t)/\cs'.size=cs.size
theorem EraB.trans {a b c:World} (h:EraB a b) (k:EraB b c):EraB a c:=λi cs t hi=>by
 obtain⟨cs1,h1,h2⟩:=h i cs t hi;obtain⟨cs2,k1,k2⟩:=k i cs1 t h1;exact⟨cs2,k1,k2.trans h2⟩
theorem EraB.set (w:World) (b o:Nat) (u:Value):EraB w (w.setCell ⟨b,o,none⟩ u):=λi cs t hi=>by
 by_cases hb:b=i
 ·subst hb;refine⟨cs.setIfInBounds o u,?_,by simp⟩;simp only[World.setCell,Array.getElem?_modify,hi];simp
 ·exact⟨cs,(Below.heap_setCell _ _ _ _ (λh=>hb h.symm)).trans hi,rfl⟩
theorem EraB.of_le {w w':World} (h:Le w w'):EraB w w':=λi cs t hi=>⟨cs,(h.block i (gsl hi)).trans hi,rfl⟩
def EraC (w w':World):Prop:=∀(b o:Nat) (u:Value),w.cell? ⟨b,o,none⟩=some u->∃u',w'.cell? ⟨b,o,none⟩=some u'/\((∃g:Int,u= .int .u32 g)->∃g:Int,u'= .int .u32 g)/\((∀g:Int,u≠ .int .u32 g)->u'=u)
theorem EraC.trans {a b c:World} (h:EraC a b) (k:EraC b c):EraC a c:=λi o u hu=>by
 obtain⟨u1,h1,h2,h3⟩:=h i o u hu;obtain⟨u2,k1,k2,k3⟩:=k i o u1 h1;refine⟨u2,k1,λhg=>k2 (h2 hg),λhn=>?_⟩;have:=h3 hn;subst this;exact k3 hn
theorem qLr {w:World} {b o:Nat} {u:Value} (h:w.cell? ⟨b,o,none⟩=some u):b<w.heap.size:=by
 refine Nat.lt_of_not_le λc=>?_;have:w.heap[b]? =none:=Array.getElem?_eq_none c;unfold World.cell? at h;simp[this]at h
theorem EraC.of_le {w w':World} (h:Le w w'):EraC w w':=λb o u hu=>⟨u,(Below.cell h (p:=⟨b,o,none⟩) (qLr hu)).trans hu,id,λ_=>rfl⟩
theorem EraC.set {w:World} {b o:Nat} {cs:Array Value} {t:TypeId} {g g':Int} (hk:w.heap[b]? =some (Obj.cells cs t)) (hc:w.cell? ⟨b,o,none⟩=some (.int .u32 g)):EraC w (w.setCell ⟨b,o,none⟩ (.int .u32 g')):=λi j u hu=>by
 by_cases hb:i=b
 ·subst hb
  have hk2:(w.setCell ⟨i,o,none⟩ (.int .u32 g')).heap[i]? =some (.cells (cs.setIfInBounds o (.int .u32 g')) t):=by
   simp only[World.setCell,Array.getElem?_modify,hk];simp
  rw[cell_of_row _ _ _ _ t (0,0) hk]at hu hc
  by_cases c:j=o
  ·subst c;refine⟨.int .u32 g',?_,λ_=>⟨g',rfl⟩,λd=>?_⟩
   ·rw[cell_of_row _ _ _ _ t (0,0) hk2,Array.getElem?_setIfInBounds];have:=(gsl hu);simp[this]
   ·rw[hc]at hu;injection hu with hu;exact absurd hu.symm (d g)
  ·refine⟨u,?_,id,λ_=>rfl⟩;rw[cell_of_row _ _ _ _ t (0,0) hk2,Array.getElem?_setIfInBounds,if_neg (λh=>c h.symm)];exact hu
 ·exact⟨u,(World.cell?_of_block (Below.heap_setCell _ _ _ _ hb)).trans hu,id,λ_=>rfl⟩
def EraS (w:World) (B0:Nat) (A:Option Addr) (n:Nat):Prop:=n<=1000000/\(0<n->∃b off cs t,A=some ⟨b,off,none⟩/\B0<=b/\w.heap[b]? =some (Obj.cells cs t)/\∀j,j<n->∃g:Int,w.cell? ⟨b,off+j,none⟩=some (.int .u32 g))
def EraF (w:World) (B0:Nat) (v:Value):Prop:=∃s A n c s' B m d,v= .agg #[.bool s,.slice A n c,.bool s',.slice B m d]/\EraS w B0 A n/\EraS w B0 B m
theorem EraS.to {w w':World} {B0:Nat} {A:Option Addr} {n:Nat} (h:EraS w B0 A n) (k:EraB w w') (kc:EraC w w'):EraS w' B0 A n:=⟨h.1,λh0=>by
 obtain⟨b,off,cs,t,e,hb,hk,hs⟩:=h.2 h0;obtain⟨cs',k1,k2⟩:=k b cs t hk;refine⟨b,off,cs',t,e,hb,k1,λj hj=>?_⟩;obtain⟨g,hg⟩:=hs j hj;obtain⟨u',q1,q2,-⟩:=kc b (off+j) _ hg;obtain⟨g',hg'⟩:=q2 ⟨g,rfl⟩
 exact⟨g',by rw[q1,hg']⟩⟩
theorem EraF.to {w w':World} {B0:Nat} {v:Value} (h:EraF w B0 v) (k:EraB w w') (kc:EraC w w'):EraF w' B0 v:=by
 obtain⟨s,A,n,c,g,B,m,d,e,b,f⟩:=h;exact⟨s,A,n,c,g,B,m,d,e,b.to k kc,f.to k kc⟩
theorem NumU.era {L:Nat->Prop} {w:World} {A:Option Addr} {n c x B0:Nat} (h:NumU L w (.slice A n c) x) (hL:∀b,L b->B0<=b) (hx:(dg x).length <=1000000):EraS w B0 A n:=by
 obtain⟨⟨r,s,e,v,y,z,i⟩,q⟩:=h;injection e with e1 e2 e3;subst e1 e2;refine⟨hx,λg=>?_⟩;obtain⟨b,d,rfl,k,p,l⟩:=i g;obtain⟨f,t,o⟩:=q b d _ _ rfl;exact⟨b,d,f,t,rfl,hL b k,o,λj m=>⟨_,l j m⟩⟩
theorem IsRes.era {L:Nat->Prop} {w:World} {v:Value} {c:Int} {res:Except Int Rat} {B0:Nat} (h:IsRes L w v c res) (hL:∀b,L b->B0<=b) (hs:∀r,res= .ok r->Rsz r 40):EraF w B0 v:=by
 cases res with
 | ok r=>
  obtain⟨⟨A,i,B,d,rfl,f,g⟩,-⟩:=h;have:=hs r rfl;exact⟨_,_,_,_,_,_,_,_,rfl,f.era hL (Nat.le_trans this.1 (by decide)),g.era hL (Nat.le_trans this.2 (by decide))⟩
 | error x=>
  obtain⟨rfl,-⟩:=h;exact⟨_,_,_,_,_,_,_,_,rfl,⟨by omega,λh=>by omega⟩,⟨by omega,λh=>by omega⟩⟩
theorem qLF (B0:Nat) (v:Value) (w:World) (hB:B0<=w.heap.size) (h:EraF w B0 v):
  Calls Tryz.prog 21 #[v] w λe w'=>e= .returned (.tuple #[])/\Below B0 w w'/\EraB w w'/\EraC w w':=by
 obtain⟨s,A,n,c,R,B,m,d,rfl,hn,hm⟩:=h;obtain⟨W0,Y,F,k0⟩:=al1 w (.cells #[.bool s,.slice A n c,.bool R,.slice B m d] 27);have au:=hn.1;have ar:=hm.1;have H:=F.mono hB
 have J:∀(A:Option Addr) (n b f:Nat),EraS w B0 A n->0<n->A=some ⟨b,f,none⟩->b<w.heap.size:=λA n b f hA h0 e=>by
  obtain⟨b',am,cs,t,G,X,hk,-⟩:=hA.2 h0;rw[e]at G;injection G with G;injection G with G;subst G;exact(gsl hk)
 obtain⟨S,T,U,V⟩:=qAI k0;have⟨D,af,I,P,O,C⟩:=hyd6 F k0 H hn hm J;clear J hm hn H k0 F;go_enter Tryz.func21,Tryz.ntmps21;go_wp2;clear Y;go_loopw [8] (λi wr=>∃k:Nat,k<=n/\i= .int .i64 k/\Hid (wr.heap[w.heap.size]? =some (.cells #[.bool s,.slice A n c,.bool R,.slice B m d] 27))/\Hid (Below B0 w wr)/\Hid (EraB w wr/\EraC w wr)) (λi _=>n - (intOf i).toNat)
 case atStart=>exact⟨0,Nat.zero_le _,rfl,af,I,Lib.hid ⟨EraB.of_le D.out,EraC.of_le D.out⟩⟩
 case round=>
  obtain⟨k,hk,rfl,z,E,o⟩:=hrel;clear S T U V;obtain⟨S,T,U,V⟩:=qAI z.out
  by_cases aq:k<n
  ·obtain⟨b,f,cs,t,rfl,X,j,l⟩:=(P.out.to o.out.1 o.out.2).2 (by omega);have Z:=C.out _ n b f P.out (by omega) rfl;obtain⟨u,hu⟩:=l k (by omega);have aa:=fz0 j (f+k);have M:(k:Int)<(n:Int):=by omega
   have y:¬b=w.heap.size:=by omega
   have k1:Hid ((wr.setCell ⟨b,f+k,none⟩ (.int .u32 7)).heap[w.heap.size]? =some (.cells #[.bool s,.slice (some ⟨b,f,none⟩) n c,.bool R,.slice B m d] 27)):=Lib.hid ((Below.heap_setCell _ _ _ _ (λh=>y h.symm)).trans z.out);have q:Hid (Below B0 w (wr.setCell ⟨b,f+k,none⟩ (.int .u32 7))):=Lib.hid (E.out.setCell (p:=⟨b,f+k,none⟩) X _);have k3:Hid (EraB w (wr.setCell ⟨b,f+k,none⟩ (.int .u32 7))/\EraC w (wr.setCell ⟨b,f+k,none⟩ (.int .u32 7))):=Lib.hid ⟨o.out.1.trans (EraB.set _ _ _ _),o.out.2.trans (EraC.set j hu)⟩;clear z E o y;have⟨L,Q⟩:=hyd2 j l;clear l j;go_wp2;go_roundw
   case rel=>exact⟨k+1,by omega,by go_num,k1,q,k3⟩
   case measure=>simp[intOf];omega
  ·have M:¬(k:Int)<(n:Int):=by omega
   rename World=>w0
   go_wp2;go_loopw [21] (λi wr=>∃k:Nat,k<=m/\i= .int .i64 k/\Hid (wr.heap[w.heap.size]? =some (.cells #[.bool s,.slice A n c,.bool R,.slice B m d] 27))/\Hid (Below B0 w wr)/\Hid (EraB w wr/\EraC w wr)) (λi _=>m - (intOf i).toNat)
   case atStart=>exact⟨0,Nat.zero_le _,rfl,z,E,o⟩
   case round=>
    obtain⟨q,ap,rfl,x,r,g⟩:=hrel;clear S T U V;obtain⟨S,T,U,V⟩:=qAI x.out
    by_cases al:q<m
    ·obtain⟨b,f,cs,t,rfl,X,j,l⟩:=(O.out.to g.out.1 g.out.2).2 (by omega);have Z:=C.out _ m b f O.out (by omega) rfl;obtain⟨u,hu⟩:=l q (by omega);have aa:=fz0 j (f+q);have N:(q:Int)<(m:Int):=by omega
     have y:¬b=w.heap.size:=by omega
     have k1:Hid ((wr.setCell ⟨b,f+q,none⟩ (.int .u32 7)).heap[w.heap.size]? =some (.cells #[.bool s,.slice A n c,.bool R,.slice (some ⟨b,f,none⟩) m d] 27)):=Lib.hid ((Below.heap_setCell _ _ _ _ (λh=>y h.symm)).trans x.out);have ah:Hid (Below B0 w (wr.setCell ⟨b,f+q,none⟩ (.int .u32 7))):=Lib.hid (r.out.setCell (p:=⟨b,f+q,none⟩) X _);have k3:Hid (EraB w (wr.setCell ⟨b,f+q,none⟩ (.int .u32 7))/\EraC w (wr.setCell ⟨b,f+q,none⟩ (.int .u32 7))):=Lib.hid ⟨g.out.1.trans (EraB.set _ _ _ _),g.out.2.trans (EraC.set j hu)⟩;clear x r g y;have⟨L,Q⟩:=hyd2 j l;clear l j;go_wp2;go_roundw
     case rel=>exact⟨q+1,by omega,by go_num,k1,ah,k3⟩
     case measure=>simp[intOf];omega
    ·have N:¬(q:Int)<(m:Int):=by omega
     go_wp2;go_end0;exact⟨rfl,r.out,g.out.1,g.out.2⟩
end Go.Proofs.YtcoajjdhkhgfdaaGreat

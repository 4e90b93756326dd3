/- Polynomials, program side: AddPoly's function. (The regions between --@ARM and --@END are printed by gen_poly.py.) -/
import Derived.Test.YtcoajjdhkhgfdaaGreatPk24
namespace Go.Proofs.YtcoajjdhkhgfdaaGreat
set_option maxRecDepth 100000
set_option maxHeartbeats 2000000
open Go.RowKit Go.Shelf
set_option linter.unusedVariables false
set_option linter.unusedSimpArgs false
def lfP:Code->Code
 | .seq a _=>a
 | c=>c
def rtP:Code->Code
 | .seq _ b=>b
 | c=>c
theorem RowE.num {α:Type} {K:EK α} {e:TypeId} {base:Nat} {w:World} {A:Option Addr} {n c:Nat} {xs:List α} (h:RowE K e base w (.slice A n c) xs):n=xs.length:=by
 obtain⟨b,d,e⟩:=h.slice;injection e
theorem RowE.frz {α:Type} {K:EK α} {e:TypeId} {base:Nat} {w:World} {g n c:Nat} {xs:List α} (h:RowE K e base w (.slice (some ⟨g,0,none⟩) n c) xs) (j:Nat):w.frozen? ⟨g,j,none⟩=false:=by
 have f:=h.num;subst f;obtain⟨b,i,d,-⟩:=h;exact d.frozenAt j
def MPred.poly (B:Nat) (p:List FracA):MPred:=⟨λv w=>∃xs,qAC p= .ok xs/\RowE (ratK .u32) 58 B w v xs,λ_ _ _ hb ⟨xs,h1,h2⟩=>⟨xs,h1,h2.le hb⟩⟩
def MPred.ratU (r:Rat):MPred:=⟨λv w=>RatL (λ_=>True) .u32 w v r,λ_ _ _ hb h=>h.le hb⟩
theorem RatL.frm {L:Nat->Prop} {k:IntKind} {w:World} {v:Value} {r:Rat} (h:RatL L k w v r):∃s A n c B m d,v= .agg #[.bool s,.slice A n c,.slice B m d]:=by
 obtain⟨f,b,rfl,⟨A,c,rfl,-⟩,⟨B,d,rfl,-⟩⟩:=h;exact⟨_,_,_,_,_,_,_,rfl⟩
def GTwo:JRel:=λD x W=>(D 3=true->D 1=true)/\(D 3=true->∀g,(x 3).ownBlock =some g->(x 1).ownBlock ≠some g)
theorem GTwo.start {W:World}:∀D x,(∀j,j<6->D j=false)->GTwo D x W:=λD x h=>⟨λk=>(by rw[h 3 (by decide)]at k;cases k),λk=>(by rw[h 3 (by decide)]at k;cases k)⟩
theorem GTwo.keep {D:Nat->Bool} {x:Nat->Value} {W W':World} {i:Nat} {v:Value} (h:GTwo D x W) (h1:i≠1) (h3:i≠3):GTwo (updB D i) (updV x i v) W':=by
 unfold GTwo updB updV;rw[if_neg (Ne.symm h3),if_neg (Ne.symm h3),if_neg (Ne.symm h1),if_neg (Ne.symm h1)];exact h
theorem GTwo.one {D:Nat->Bool} {x:Nat->Value} {W W':World} {v:Value} (h:GTwo D x W) (hD:D 1=false):GTwo (updB D 1) (updV x 1 v) W':=by
 have b:D 3=false:=by
  cases e:D 3 with
  | false=>rfl
  | true=>have:=h.1 e;rw[hD]at this;cases this
 unfold GTwo updB updV;simp[b]
theorem GTwo.two {D:Nat->Bool} {x:Nat->Value} {W':World} {v:Value} (hD:D 1=true) (hn:∀g,v.ownBlock=some g->(x 1).ownBlock ≠some g):GTwo (updB D 3) (updV x 3 v) W':=by
 unfold GTwo updB updV;simp[hD];exact hn
def addL (x y:List Rat):List Rat:=(List.range (max x.length y.length)).map λj=>x.getD j 0+y.getD j 0
noncomputable def addP (p q:List FracA):Except Int (List Rat):=
 match qAC p with
 | .error z=> .error z
 | .ok x=>match qAC q with
  | .error z=> .error z
  | .ok y=>qAR (cutz (addL x y))
noncomputable def addF (p q:List FracA):Except Int (List Rat×List Rat):=
 match qAC p with
 | .error z=> .error z
 | .ok x=>match qAC q with
  | .error z=> .error z
  | .ok y=> .ok (x,y)
theorem qD9 {p q:List FracA} {z:Int} (h:qAC p= .error z):addF p q= .error z:=by unfold addF;rw[h]
theorem qDa {p q:List FracA} {x:List Rat} {z:Int} (h:qAC p= .ok x) (h2:qAC q= .error z):addF p q= .error z:=by unfold addF;rw[h,h2]
theorem qMC {p q:List FracA} {z:Int} (h:addF p q= .error z):addP p q= .error z:=by
 unfold addF at h;unfold addP
 cases hx:qAC p with
 | error z1=>rw[hx]at h;injection h with h;subst h;rfl
 | ok x=>
  rw[hx]at h
  cases hy:qAC q with
  | error z1=>rw[hy]at h;injection h with h;subst h;rfl
  | ok y=>rw[hy]at h;cases h
def addK (x y:List Rat) (k:Nat):List Rat:=(List.range x.length).map λj=>if j<k then x.getD j 0+y.getD j 0 else x.getD j 0
theorem qKG (x y:List Rat):addK x y 0=x:=by
 unfold addK;refine List.ext_getElem (by simp) λi c b=>?_;simp[List.getD_eq_getElem?_getD,List.getElem?_eq_getElem b]
theorem qCW (x y:List Rat) (k:Nat):(addK x y k).length =x.length:=by simp[addK]
theorem qKH {x y:List Rat} {k:Nat} (hk:k<x.length):(addK x y k).set k (x.getD k 0+y.getD k 0)=addK x y (k+1):=by
 refine List.ext_getElem (by simp[addK]) λi b c=>?_;rw[List.getElem_set]
 by_cases e:k=i
 ·subst e;simp[addK]
 ·rw[if_neg e];simp only[addK,List.getElem_map,List.getElem_range]
  by_cases h:i<k
  ·rw[if_pos h,if_pos (by omega)]
  ·rw[if_neg h,if_neg (by omega)]
theorem qL6 {x y:List Rat} {k:Nat} (hk:k<(addK x y k).length):(addK x y k)[k]=x.getD k 0:=by simp[addK]
theorem qKs {x y:List Rat} (h:y.length<=x.length):addK x y y.length=addL x y:=by
 unfold addK addL;rw[show max x.length y.length=x.length by omega];refine List.map_congr_left λj _=>?_
 by_cases b:j<y.length
 ·rw[if_pos b]
 ·rw[if_neg b];have:y.getD j 0=0:=by rw[List.getD_eq_getElem?_getD,List.getElem?_eq_none (by omega)];rfl
  rw[this,Rat.add_zero]
theorem qKI (x y:List Rat):addL x y=addL y x:=by
 unfold addL;rw[show max x.length y.length=max y.length x.length by omega];exact List.map_congr_left λj _=>Rat.add_comm _ _
theorem qKJ {x:FracA} {r:Rat} (h:inE x= .ok r):Rsz r 40:=by
 unfold inE at h
 cases hr:x.rat? with
 | none=>rw[hr]at h;cases h
 | some r'=>
  rw[hr]at h;injection h with h;subst h;exact(FracA.val hr).sz
theorem qEY {α β:Type} {f:α->Except Int β}:∀{l:List α} {ys:List β},mapE f l= .ok ys->∀y∈ys,∃x∈l,f x= .ok y
 | [],ys,h,y,hy=>by
  have:ys=[]:=by simpa[mapE]using h.symm
  subst this;cases hy
 | a::l,ys,h,y,hy=>by
  cases ha:f a with
  | error z=>simp[mapE,ha]at h
  | ok b=>
   cases hl:mapE f l with
   | error z=>simp[mapE,ha,hl]at h
   | ok bs=>
    have:b::bs=ys:=by simpa[mapE,ha,hl]using h
    subst this;simp only[List.mem_cons]at hy
    rcases hy with rfl|hy
    ·exact⟨a,by simp,ha⟩
    ·obtain⟨x,d,c⟩:=qEY hl y hy;exact⟨x,by simp[d],c⟩
theorem qAL {p:List FracA} {xs:List Rat} (h:qAC p= .ok xs):xs.length<=65/\(∀r∈xs,Rsz r 40)/\qAT xs=true:=by
 unfold qAC at h
 split at h
 ·cases h
 ·cases hm:mapE inE p with
  | error z=>rw[hm]at h;cases h
  | ok rs=>
   rw[hm]at h;dsimp only at h
   split at h
   ·injection h with h;subst h;refine⟨by rw[qCV hm];omega,λr b=>?_,by assumption⟩;obtain⟨x,-,c⟩:=qEY hm r b;exact qKJ c
   ·cases h
theorem qAN {r:Rat} {m n:Nat} (h:Rsz r m) (hmn:m<=n):Rsz r n:=⟨Nat.le_trans h.1 hmn,Nat.le_trans h.2 hmn⟩
theorem qEZ:Rsz 0 1:=by
 have b:rnum (0:Rat)=0:=by decide+kernel
 have c:(0:Rat).den =1:=by decide+kernel
 unfold Rsz;rw[b,c,qA4,qEl]
 decide
theorem qBS {xs:List Rat} {n:Nat} (h:∀r∈xs,Rsz r n) (hn:1<=n) (j:Nat):Rsz (xs.getD j 0) n:=by
 rw[List.getD_eq_getElem?_getD]
 cases e:xs[j]? with
 | none=>exact qAN qEZ hn
 | some r=>exact h r (List.mem_of_getElem? e)
noncomputable def pa9:Code:=(qAn 9 ((Tryz.f25).body.getD .skip)).getD 0 .skip
noncomputable def pa4:Code:=(qAn 4 ((Tryz.f25).body.getD .skip)).getD 0 .skip
theorem pa_4 (L:Nat->Prop) (w W:World) (res:Except Int (List Rat)) (X Y:List Rat) (AX AY:Option Addr) (nX cX nY cY:Nat) (hL:Up w L) (hbw:Below w.heap.size w W) (hX:RowE (ratK .u32) 58 w.heap.size W (.slice AX nX cX) X) (hY:RowE (ratK .u32) 58 w.heap.size W (.slice AY nY cY) Y)
  (hnX:X.length=nX) (hnY:Y.length=nY) (hle:nY<=nX) (h65:nX<=65) (hsX:∀r∈X,Rsz r 40) (hsY:∀r∈Y,Rsz r 40) (hne:∀g,(Value.slice AY nY cY).ownBlock =some g->(Value.slice AX nX cX).ownBlock ≠some g) (hres:res=qAR (cutz (addL X Y)))
  (t:Array Value) (ht:∃u:Nat->Value,t=#[u 0,(u 1),(u 2),.slice AX nX cX,.slice AY nY cY,(u 5),(u 6),(u 7),(u 8),(u 9),(u 10),(u 11),(u 12),(u 13),(u 14),(u 15),(u 16),(u 17),(u 18),(u 19),(u 20),(u 21),(u 22),(u 23),(u 24),(u 25),(u 26),(u 27),(u 28),(u 29),(u 30),(u 31),(u 32),(u 33),(u 34),(u 35),(u 36),(u 37)]):
  ∀K1:Act->World->Prop,(∀a w1,pa9.wp Tryz.prog (bodyPost Tryz.prog Tryz.f25 (MapPost (frK L) 27 w res)) a w1->K1 a w1)->∀K:Act->World->Prop,(∀a w1,(rtP pa4).wp Tryz.prog (Exit.then K1 (bodyPost Tryz.prog Tryz.f25 (MapPost (frK L) 27 w res))) a w1->K a w1)->(lfP pa4).wp Tryz.prog (Exit.then K (Exit.then K1 (bodyPost Tryz.prog Tryz.f25 (MapPost (frK L) 27 w res)))) {tmps:=t,defers:=[]} W:=by
 intro K1 ce K hK;obtain⟨u,rfl⟩:=ht
 conv=>arg 2;whnf
 have⟨br,aQ,bt,bu,q,D,aT,aU⟩:=hyd8 hL hbw hX hY hnX hnY hsX hsY;have⟨aS,a8⟩:=hyd2 hne hres;clear hres hne hsY hsX hnY hnX hY hX hbw hL;go_wp2_with (fail)
 conv=>arg 2;whnf
 go_wp2_with (fail);go_loopw [20] (λi wr=>∃k:Nat,i= .int .i64 (k:Int)/\k<=nY/\Hid (Below w.heap.size w wr)/\Hid (RowE (ratK .u32) 58 w.heap.size wr (.slice AX nX cX) (addK X Y k))/\Hid (RowE (ratK .u32) 58 w.heap.size wr (.slice AY nY cY) Y)) (λi _=>nY - (intOf i).toNat)
 case atStart=>exact⟨0,rfl,Nat.zero_le _,aQ,Lib.hid (by rw[qKG];exact bt.out),bu⟩
 case round=>
  obtain⟨k,rfl,hk,hb,hx,hy⟩:=hrel
  by_cases bx:k<nY
  ·have a5:k<Y.length:=by rw[D.out];exact bx
   have ai:k<(addK X Y k).length :=by rw[qCW,q.out];omega
   obtain⟨gy,cy,m,-,ci,-,-,cs,H,hc⟩:=hy.out.at a5;rw[D.out]at m;injection m with m e2 e3;subst m e3;clear e2;have an:Y.getD k 0=Y[k]:=by rw[List.getD_eq_getElem?_getD,List.getElem?_eq_getElem a5];rfl
   have ad:Rsz Y[k] 2000000:=qAN (aU.out _ (List.getElem_mem a5)) (by decide);generalize Y[k]=b at H an ad;obtain⟨s2,A2,n2,c2,B2,m2,d2,rfl,a2⟩:=H;have q0:wr.cell? ⟨gy,k*3,none⟩=some (.bool s2):=hc 0 _ rfl;have q1:wr.cell? ⟨gy,k*3+1,none⟩=some (.slice A2 n2 c2):=hc 1 _ rfl;have q2:wr.cell? ⟨gy,k*3+2,none⟩=some (.slice B2 m2 d2):=hc 2 _ rfl;obtain⟨W1,bs,G,k1⟩:=enew wr (.cells #[.bool s2,.slice A2 n2 c2,.slice B2 m2 d2] 58);have aD:=hx.out.le G;have aW:=hy.out.le G;have ap:Below w.heap.size w W1:=hb.out.trans (G.mono hb.out.size);have aq:=a2.le G;obtain⟨d,cx,m,bv,ah,-,-,cs,H,O⟩:=aD.at ai;rw[qCW,q.out]at m;injection m with m e2 e3;subst m e3;clear e2;have aE:=qL6 ai;have ac:Rsz (X.getD k 0) 2000000:=qAN (qBS aT.out (by decide) k) (by decide);rw[aE]at H;obtain⟨a,ha⟩:∃a,X.getD k 0=a:=⟨_,rfl⟩;rw[ha]at H ac;obtain⟨s1,A1,n1,c1,B1,m1,d1,rfl,aM⟩:=H;have x0:W1.cell? ⟨d,k*3,none⟩=some (.bool s1):=O 0 _ rfl;have x1:W1.cell? ⟨d,k*3+1,none⟩=some (.slice A1 n1 c1):=O 1 _ rfl;have x2:W1.cell? ⟨d,k*3+2,none⟩=some (.slice B1 m1 d1):=O 2 _ rfl;have z0:=cell_of_row W1 wr.heap.size 0 _ _ _ k1;have z1:=cell_of_row W1 wr.heap.size 1 _ _ _ k1;have z2:=cell_of_row W1 wr.heap.size 2 _ _ _ k1;have aF:=gsl k1;have ab:=qKH (x:=X) (y:=Y) (k:=k) (by rw[qCW]at ai;exact ai)
   rw[ha,an]at ab;have j1:(k:Int)<(nY:Int):=by omega
   have j2:(k:Int)<(nX:Int):=by omega
   have j3:(0:Int)<=(k:Int):=by omega
   have jx:k<nX:=by omega
   have⟨bM,cl,ar,aX,M,a3,aN,bb⟩:=hyd8 G k1 aD aW ap aq aM x0;have⟨bc,bd,bC,bD,bE,a9,aB,aC⟩:=hyd8 x1 x2 z0 z1 z2 ab ac ad;have⟨bS,cf,bR,cg,bO,bN⟩:=hyd6 an ha aE hc O a2;clear a2 O hc aE ha an ad ac ab z2 z1 z0 x2 x1 x0 aM aq ap aW aD k1 G;clear hb hx hy;go_wp2_with (fail);clear bs q0 q1 q2;have T:=ah;have aa:=ar.out;have l:=hyd1 aa;clear aa;refine qAW (R:=leRel) 9 [some 25,some 26,some 27,some 28,some 29,some 30,some 31,some 32,some 33,none] [[],[],[],[],[2,3],[4],[],[5,6],[0,1],[7,8]]
    [.eq (.slice (some ⟨d,0,none⟩) nX cX),.eq (.int .i64 (k:Int)),.eq (.slice (some ⟨d,0,none⟩) nX cX),.eq (.int .i64 (k:Int)),.eq (.pointer (some ⟨d,k*3,none⟩)),.eq (.agg #[.bool s1,.slice A1 n1 c1,.slice B1 m1 d1]),.eq (.agg #[.bool s2,.slice A2 n2 c2,.slice B2 m2 d2]),MPred.ratU (a+b),.eq (.pointer (some ⟨d,k*3,none⟩))] (λ_ _=>False) (by kernel_rfl) (by kernel_rfl) (by kernel_rfl) (by kernel_rfl) (by kernel_rfl) ?_ (λ_ _ _ _ h=>h.elim) ?_
   ·simp only[List.take_succ_cons,List.take_zero];refine sMc rfl ?_ (sMc rfl ?_ (sMc rfl ?_ (sMc rfl ?_ (sMc rfl ?_ (sMc rfl ?_ (sMc rfl ?_ (sMc rfl ?_ (sMc rfl ?_ (qA0)))))))))
    ·intro xv W c s Q hK hP;simp only[fA]at hK ⊢;go_wp2;exact hK _ _ lrR rfl
    ·intro xv W c s Q hK hP;simp only[fA]at hK ⊢;go_wp2;exact hK _ _ lrR rfl
    ·intro xv W c s Q hK hP;simp only[fA]at hK ⊢;go_wp2;exact hK _ _ lrR rfl
    ·intro xv W c s Q hK hP;simp only[fA]at hK ⊢;go_wp2;exact hK _ _ lrR rfl
    ·intro xv W c s Q hK hP;obtain⟨J,m,-⟩:=s;change _=_ at J m;simp only[fA,J,m]at hK ⊢;go_wp2;exact hK _ _ lrR rfl
    ·intro xv W c s Q hK hP;obtain⟨J,-⟩:=s;change _=_ at J;have t0:=(Below.cell c (p:=⟨d,k*3,none⟩) ah).trans bb.out;have t1:=(Below.cell c (p:=⟨d,k*3+1,none⟩) ah).trans bc.out;have t2:=(Below.cell c (p:=⟨d,k*3+2,none⟩) ah).trans bd.out;simp only[fA,J]at hK ⊢;go_wp2;exact hK _ _ lrR rfl
    ·intro xv W c s Q hK hP;have t0:=(Below.cell c (p:=⟨wr.heap.size,0,none⟩) aF).trans bC.out;have t1:=(Below.cell c (p:=⟨wr.heap.size,1,none⟩) aF).trans bD.out;have t2:=(Below.cell c (p:=⟨wr.heap.size,2,none⟩) aF).trans bE.out;simp only[fA]at hK ⊢;go_wp2;exact hK _ _ lrR rfl
    ·intro xv W c s Q hK hP;obtain⟨J,m,-⟩:=s;change _=_ at J m;simp only[fA,J,m]at hK ⊢;have kc:=qET (λ_=>True) a b _ _ W (Up.any _) (aN.out.le c) (a3.out.le c) aB.out aC.out;have b2:=hyd1 kc;clear kc;go_wp2_with (fail);go_at_call 27;refine b2.out.mono ?_;rintro e w' ⟨v',rfl,y1,y2⟩;obtain⟨vs,vA,vn,vc,vB,vm,vd,rfl⟩:=y2.frm;have⟨bA,bB⟩:=hyd2 y1 y2;clear y2 y1;go_wp2;exact hK _ _ bA.out bB.out
    ·intro xv W c s Q hK hP;obtain⟨J,m,-⟩:=s;change _=_ at J m;simp only[fA,J,m]at hK ⊢;go_wp2;exact hK _ _ lrR rfl
   intro xv W c s Q' aL _;have f7:RatL (λ_=>True) .u32 W (xv 7) (a+b):=s 7 (by decide);obtain⟨s3,A3,n3,c3,B3,m3,d3,qv⟩:=f7.frm;have e8:=s 8 (by decide);change _=_ at e8;simp only[List.drop_succ_cons,List.drop_zero];rw[show List.range 9=[0,1,2,3,4,5,6,7,8]from rfl];simp only[fA,qv,e8];clear s;rw[qv]at f7;clear qv e8;have t0:=(Below.cell c (p:=⟨d,k*3,none⟩) T).trans bb.out;have t1:=(Below.cell c (p:=⟨d,k*3+1,none⟩) T).trans bc.out;have t2:=(Below.cell c (p:=⟨d,k*3+2,none⟩) T).trans bd.out;have y0:=(l.out.le c).frz (k*3);have y1:=(l.out.le c).frz (k*3+1);have y2:=(l.out.le c).frz (k*3+2);have⟨aK,a1⟩:=hyd2 f7 c;clear c f7;go_wp2;refine aL _ _ ?_;clear aL t0 t1 t2 y0 y1 y2;have f7:=aK.out;have c:=a1.out;clear aK a1;obtain⟨V,hV⟩:∃V,((W.setCell ⟨d,k*3,none⟩ (.bool s3)).setCell ⟨d,k*3+1,none⟩ (.slice A3 n3 c3)).setCell ⟨d,k*3+2,none⟩ (.slice B3 m3 d3)=V:=⟨_,rfl⟩;have aA:=RowE.store (ar.out.le c) (i:=k) (by rw[qCW,q.out];exact jx) (cs:=[.bool s3,.slice A3 n3 c3,.slice B3 m3 d3]) (y:=a+b) ⟨_,_,_,_,_,_,_,rfl,f7⟩;have ag:=qA7 (n:=w.heap.size) bv [.bool s3,.slice A3 n3 c3,.slice B3 m3 d3] (k*3) w W (M.out.trans (c.mono M.out.size));have am:=(aX.out.le c).keep (W:=W.setCells d (k*3) [.bool s3,.slice A3 n3 c3,.slice B3 m3 d3]) aA.2 λg hg=>qAa (λe=>by subst e;exact aS.out _ hg rfl) _ _ _
   have ae:=aA.1;rw[a9.out]at ae;change Below w.heap.size w (((W.setCell ⟨d,k*3,none⟩ (.bool s3)).setCell ⟨d,k*3+1,none⟩ (.slice A3 n3 c3)).setCell ⟨d,k*3+2,none⟩ (.slice B3 m3 d3))at ag;change RowE _ _ _ (((W.setCell ⟨d,k*3,none⟩ (.bool s3)).setCell ⟨d,k*3+1,none⟩ (.slice A3 n3 c3)).setCell ⟨d,k*3+2,none⟩ (.slice B3 m3 d3)) _ _ at am;change RowE _ _ _ (((W.setCell ⟨d,k*3,none⟩ (.bool s3)).setCell ⟨d,k*3+1,none⟩ (.slice A3 n3 c3)).setCell ⟨d,k*3+2,none⟩ (.slice B3 m3 d3)) _ _ at ae;rw[hV]at ag am ae ⊢;clear aA hV f7;have⟨a1,aP,aY,aV⟩:=hyd4 c ag am ae;clear ae am ag c;go_wp2;go_roundw
   case rel=>exact⟨k+1,by go_num,by omega,aP,aV,aY⟩
   case measure=>simp[intOf];omega
  ·obtain rfl:k=nY:=by omega
   have al:=hx.out;have I:(addK X Y k).length =nX:=by rw[qCW];exact q.out
   rw[<-D.out,qKs (by rw[q.out,D.out];exact hle)]at al I;have hcut:=qKE w.heap.size _ _ wr al (by rw[I];omega);obtain⟨F,aj⟩:∃r,addL X Y=r:=⟨_,rfl⟩;rw[aj]at hcut I;rw[I]at hcut;have A:=a8.out;rw[aj]at A;have j1:¬(k:Int)<(k:Int):=by omega
   have⟨bQ,a4,bP,au,ak⟩:=hyd5 al hcut aj I A;clear A I aj hcut al;go_wp2_with (fail)
   conv=>arg 2;whnf
   go_wp2_with (fail);go_at_call 29;refine a4.out.mono ?_;rintro e W2 ⟨A9,c9,-,rfl,P,B⟩
   have S:(cutz F).length =topN F nX:=by
    unfold cutz;rw[au.out,List.length_take,au.out];have:=qGe F nX;omega
   have N:Below w.heap.size w W2:=hb.out.trans (P.mono hb.out.size);have U:=qCf L _ (cutz F) W2 (br.out.le N) B.seq;rw[<-ak.out]at U;have⟨bw,bh,f,a7,bg⟩:=hyd5 P B N U S;clear S U N B P;go_wp2_with (fail);go_at_call 28;refine a7.out.mono ?_;rintro e W3 ⟨j,⟨ys,v3,aZ,rfl,C⟩| ⟨z,hz,rfl⟩⟩
   ·have o:Below w.heap.size w W3:=f.out.trans (j.mono f.out.size);have E:=C.base (base':=w.heap.size) f.out.size;have⟨a6,ba,bi,v,Z⟩:=hyd5 j aZ C o E;clear E o C aZ j;go_wp2;go_ret;exact⟨v.out,.inl ⟨ys,_,ba.out,rfl,Z.out⟩⟩
   ·have o:Below w.heap.size w W3:=f.out.trans (j.mono f.out.size);have⟨a6,b1,v⟩:=hyd3 j hz o;clear o hz j;go_wp2_with (fail);exact⟨rfl,v.out,.inr ⟨z,b1.out,rfl⟩⟩
theorem qIa (L:Nat->Prop) (p q:List FracA) (vp vq:Value) (Bp Bq:Nat) (tp tq:TypeId) (w:World) (hL:Up w L) (kp:w.heap[Bp]? =some (.cells #[vp] tp)) (kq:w.heap[Bq]? =some (.cells #[vq] tq)) (hp:SeqE inK w vp p) (hq:SeqE inK w vq q):
  Calls Tryz.prog 25 #[.pointer (some ⟨Bp,0,none⟩),.pointer (some ⟨Bq,0,none⟩)] w (MapPost (frK L) 27 w (addP p q)):=by
 obtain⟨res,J⟩:∃r,addP p q=r:=⟨_,rfl⟩;rw[J];have aD:=gsl kp;have aF:=gsl kq;have⟨ar,aG,aH,aC,aE,M⟩:=hyd6 hL kp kq hp hq J;clear J hq hp kq kp hL;go_enter Tryz.func25,Tryz.ntmps25;go_wp2_with (fail);refine qCI (R:=leRel) 4 [some 7,some 8,some 9,some 10,some 3,some 4] [[],[0],[],[1,2],[1],[3]]
  [.eq vp,MPred.poly w.heap.size p,.eq vq,MPred.poly w.heap.size q] GTwo (λch W=>Le w W/\∃z,addF p q= .error z/\ch=flt z) (by kernel_rfl) (by kernel_rfl) (by kernel_rfl) (by kernel_rfl) (by kernel_rfl) GTwo.start ?_ ?_ ?_
 ·simp only[List.take_succ_cons,List.take_zero];refine sGc rfl ?_ (sGc rfl ?_ (sGc rfl ?_ (sGc rfl ?_ (qA0))))
  ·intro Dn xv W hD U k V C Q hK hP;have cc:=(Below.cell k (p:=⟨Bp,0,none⟩) aD).trans (cell_of_row w Bp 0 _ _ _ aG.out);have cc:W.cell? ⟨Bp,0,none⟩=some vp:=cc;simp only[fA]at hK ⊢;go_wp2;exact hK _ _ lrR rfl (C.keep (by decide) (by decide))
  ·intro Dn xv W hD U k V C Q hK hP;obtain⟨e0,-⟩:=V;change _=_ at e0;have kc:=qBR _ p W (aC.out.le k);simp only[fA,e0]at hK ⊢;have⟨ai,aq,c⟩:=hyd3 kc C k;clear k C kc;go_wp2_with (fail);go_at_call 26;refine ai.out.mono ?_;rintro e w' ⟨O,⟨xs,v,E,rfl,y3⟩| ⟨z,E,rfl⟩⟩
   ·have S:=y3.base (base':=w.heap.size) c.out.size;have⟨P,B,aK,s⟩:=hyd4 O E y3 S;clear S y3 E O;go_wp2;exact hK _ _ P.out ⟨xs,B.out,s.out⟩ (aq.out.one hD)
   ·have S:Le w w':=c.out.trans O;have⟨P,B,s⟩:=hyd3 O E S;clear S E O;go_wp2_with (fail);exact hP _ _ _ ⟨s.out,z,qD9 B.out,rfl⟩
  ·intro Dn xv W hD U k V C Q hK hP;have cc:=(Below.cell k (p:=⟨Bq,0,none⟩) aF).trans (cell_of_row w Bq 0 _ _ _ aH.out);have cc:W.cell? ⟨Bq,0,none⟩=some vq:=cc;simp only[fA]at hK ⊢;go_wp2;exact hK _ _ lrR rfl (C.keep (by decide) (by decide))
  ·intro Dn xv W hD U k V C Q hK hP;obtain⟨e0,e1,-⟩:=V;change _=_ at e1;have d1:=U 1 (by decide);replace e0:∃xs,qAC p= .ok xs/\RowE (ratK .u32) 58 w.heap.size W (xv 1) xs:=e0;have kc:=qBR _ q W (aE.out.le k);simp only[fA,e1]at hK ⊢;have⟨ai,aq,c,ao⟩:=hyd4 kc C k e0;clear e0 k C kc;go_wp2_with (fail);go_at_call 26;refine ai.out.mono ?_;rintro e w' ⟨O,⟨xs,v,E,rfl,y3⟩| ⟨z,E,rfl⟩⟩
   ·have S:=y3.base (base':=w.heap.size) c.out.size
    have y5:∀g,v.ownBlock=some g->(xv 1).ownBlock ≠some g:=λg h1 h2=>by
     obtain⟨aJ,-,h3⟩:=ao.out;have h4:=(h3.nib h2).2.1;have h5:=(y3.nib h1).1;omega
    have⟨P,B,aK,s,aj⟩:=hyd5 O E y3 S y5;clear y5 S y3 E O;go_wp2;exact hK _ _ P.out ⟨xs,B.out,s.out⟩ (GTwo.two d1 aj.out)
   ·have S:Le w w':=c.out.trans O;obtain⟨aJ,h3,-⟩:=ao.out;have y5:=qDa h3 E;have⟨P,B,s,aj,aO⟩:=hyd5 O E S y5 h3;clear h3 y5 S E O;go_wp2_with (fail);exact hP _ _ _ ⟨s.out,z,aj.out,rfl⟩
 ·rintro a9 ch W9 aB ⟨aw,z,hz,rfl⟩;exact⟨aB,aw,.inr ⟨z,by rw[<-M.out];exact qMC hz,rfl⟩⟩
 intro D xv W hD k V C Q' av _;obtain⟨X,l,f⟩:=V 1 (by decide);obtain⟨Y,m,h⟩:=V 3 (by decide);have d:=C.2 (hD 3 (by decide));simp only[List.drop_succ_cons,List.drop_zero];rw[show List.range 4=[0,1,2,3]from rfl];simp only[fA];clear V C;obtain⟨vx,ax⟩:∃v,xv 1=v:=⟨_,rfl⟩;obtain⟨vy,ay⟩:∃v,xv 3=v:=⟨_,rfl⟩;rw[ax]at f d ⊢;rw[ay]at h d ⊢;clear ax ay hD;have⟨t,x,i,j,o,c⟩:=hyd6 l m f h d k;clear k d h f m l;go_wp2;refine av _ _ ?_;clear av;have l:=t.out;have m:=x.out;have f:=i.out;have h:=j.out;have d:=o.out;have k:=c.out;clear t x i j o c;have b:=M.out;unfold addP at b;rw[l,m]at b;dsimp only at b;obtain⟨a0,aa,-⟩:=qAL l;obtain⟨a2,ab,-⟩:=qAL m;obtain⟨AX,cX,rfl⟩:=f.slice;obtain⟨AY,cY,rfl⟩:=h.slice;obtain⟨nX,y⟩:∃n,X.length=n:=⟨_,rfl⟩;obtain⟨nY,A⟩:∃n,Y.length=n:=⟨_,rfl⟩;rw[y]at f a0 d;rw[A]at h a2 d;rw[y,A]
 by_cases aP:nX<nY
 ·have j1:(nX:Int)<(nY:Int):=by omega
  have ac:∀g,(Value.slice AX nX cX).ownBlock =some g->(Value.slice AY nY cY).ownBlock ≠some g:=λg h1 h2=>d g h2 h1;have H:res=qAR (cutz (addL Y X)):=by rw[qKI];exact b.symm
  have⟨c,t,x,Z,N,T,i,j⟩:=hyd8 k l m b aa ab f h;have⟨F,G,o,ah,I⟩:=hyd5 y A d ac H;clear H ac d A y h f ab aa b m l k;go_upto_region 4 with(fail);exact pa_4 L w _ res Y X AY AX nY cY nX cX ar.out c.out j.out i.out G.out F.out (by omega) a2 T.out N.out ah.out I.out _ (qAO _ _ (by kernel_rfl)) _ (by assumption) _ (by assumption)
 ·have j1:¬(nX:Int)<(nY:Int):=by omega
  have H:res=qAR (cutz (addL X Y)):=b.symm;have⟨c,t,x,Z,N,T,i,j⟩:=hyd8 k l m b aa ab f h;have⟨F,G,o,I⟩:=hyd4 y A d H;clear H d A y h f ab aa b m l k;go_upto_region 4 with(fail);exact pa_4 L w _ res X Y AX AY nX cX nY cY ar.out c.out i.out j.out F.out G.out (by omega) a0 N.out T.out o.out I.out _ (qAO _ _ (by kernel_rfl)) _ (by assumption) _ (by assumption)
end Go.Proofs.YtcoajjdhkhgfdaaGreat

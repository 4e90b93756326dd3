/- Roots, program side: RootsIn; the exported functions. (The region is that of Compare's function, at another world.) -/
import Derived.Test.YtenjpccpldajoaaGreatDoorPk36
namespace Go.Proofs.YtenjpccpldajoaaGreatDoor
set_option maxRecDepth 100000
set_option maxHeartbeats 4000000
open Go.RowKit Go.Shelf
set_option linter.unusedVariables false
set_option linter.unusedSimpArgs false
def valI:Except Int Int→Int
 | .ok z=>z
 | .error _=>0
def qHg:Except Int Int→Int
 | .ok _=>0
 | .error z=>z
noncomputable def qBD (p:List FracA) (x y:FracA):Except Int Int:=
 match qAc p with
 | .error z=> .error z
 | .ok l=>match x.rat? with
  | none=> .error 10
  | some a=>match y.rat? with
   | none=> .error 10
   | some b=>if l.length=0 then .error 6 else if 0<rsgn (a - b)then .error 2 else if l.length=1 then .ok 0 else .ok (cntA a (qBU l) - cntA b (qBU l))
theorem qNB {p:List FracA} {x y:FracA} {z:Int} (h:qAc p= .error z):qBD p x y= .error z:=by unfold qBD;rw[h]
theorem qKX {p:List FracA} {x y:FracA} {l:List Rat} (h:qAc p= .ok l) (hb:x.rat?=none∨y.rat?=none):qBD p x y= .error 10:=by
 unfold qBD;rw[h];dsimp only
 rcases hb with hb|hb
 ·rw[hb]
 ·rw[hb]
  cases x.rat?<;>rfl
theorem qLg {p:List FracA} {x y:FracA} {l:List Rat} {a b:Rat} (h:qAc p= .ok l) (ha:x.rat?=some a) (hb:y.rat?=some b):qBD p x y=if l.length=0 then .error 6 else if 0<rsgn (a - b)then .error 2 else if l.length=1 then .ok 0 else .ok (cntA a (qBU l) - cntA b (qBU l)):=by
 unfold qBD;rw[h,ha,hb]
theorem qJw (res:Except Int Int) (g:FuncId) (cap:Array Value) (w:World) (hg:qAF Tryz.prog g) (hf:∀W,Le w W→Calls Tryz.prog g cap W (IntR W res)):
  Calls Tryz.prog 58 #[.func (.func g) #[] cap] w fun e w'=>e= .returned (.tuple #[.int .i64 (valI res),.int .i64 (qHg res)])∧Le w w':=by
 cases res with
 | ok z=>
  refine qED g cap z w hg fun W hW=>(hf W hW).mono ?_;rintro e W' ⟨hle,⟨z',h1,rfl⟩| ⟨z',h1,-⟩⟩
  ·injection h1 with h1;subst h1;exact⟨rfl,hle⟩
  ·cases h1
 | error z=>
  refine qD7 g cap z w hg fun W hW=>(hf W hW).mono ?_;rintro e W' ⟨hle,⟨z',h1,-⟩| ⟨z',h1,rfl⟩⟩
  ·cases h1
  ·injection h1 with h1;subst h1;exact⟨rfl,hle⟩
theorem qNy (p:List FracA) (vp:Value) (w:World) (hp:SeqE inK w vp p) (hroom:qEB p):Calls Tryz.prog 32 #[vp] w fun e w'=>e= .returned (.tuple #[.int .i64 (valI (qCx p)),.int .i64 (qHg (qCx p))])∧Le w w':=by
 have hmf:=mkf;have hp0:=hp;obtain⟨A1,c1,rfl,-⟩:=hp.slice;obtain⟨W1,hW1,hb1,k1⟩:=enew w (.cells #[.slice A1 p.length c1] 45);have hrun:=qJw (qCx p) 89 #[.pointer (some ⟨w.heap.size,0,none⟩)] W1 qJv fun W hW=>qNA p _ w.heap.size _ W ((hW.block _ (gsl k1)).trans k1) (hp0.le (hb1.trans (hW.mono hb1.size))) hroom;obtain⟨v,hv⟩:∃v,valI (qCx p)=v:=⟨_,rfl⟩;obtain⟨c,hc⟩:∃c,qHg (qCx p)=c:=⟨_,rfl⟩;rw[hv,hc]at hrun ⊢;have⟨hp0',hp',hb1',k1',hrun',hroom',hv',hc'⟩:=hyd8 hp0 hp hb1 k1 hrun hroom hv hc;clear hc hv hroom hrun k1 hb1 hp hp0;go_enter Tryz.func32,Tryz.ntmps32;go_wp2_with (fail);clear hW1;go_at_call 58;refine hrun'.out.mono ?_;rintro e W2 ⟨rfl,hle⟩;have hle2:Le w W2:=hb1'.out.trans (hle.mono hb1'.out.size);have⟨hle',hle2'⟩:=hyd2 hle hle2;clear hle2 hle;go_wp2;go_ret2;exact⟨rfl,hle2'.out⟩
theorem qIQ:qAF Tryz.prog 98:=fun _ _=>by kernel_rfl
theorem qKY (p:List FracA) (x y:FracA) (vp va vb:Value) (Bp Bx By:Nat) (tp:TypeId) (w:World) (kp:w.heap[Bp]? =some (.cells #[vp] tp)) (hp:SeqE inK w vp p) (hx:FBox w Bx va x) (hy:FBox w By vb y) (hroom:qEB p):
  Calls Tryz.prog 98 #[.pointer (some ⟨Bp,0,none⟩),.pointer (some ⟨Bx,0,none⟩),.pointer (some ⟨By,0,none⟩)] w (IntR w (qBD p x y)):=by
 obtain⟨res,hres⟩:∃r,qBD p x y=r:=⟨_,rfl⟩;rw[hres];have c0:w.cell? ⟨Bp,0,none⟩=some vp:=cell_of_row w Bp 0 _ _ _ kp;have kc:=qEe vp p w hp;have hpl:=qEz;unfold qAF at hpl;have⟨kp',hp',kc',hres',hroom',hx',hy'⟩:=hyd7 kp hp kc hres hroom hx hy;clear hy hx hroom hres kc hp kp;go_enter Tryz.func98,Tryz.ntmps98;go_wp2_with (fail);go_at_call 73;refine kc'.out.mono ?_;rintro e W1 ⟨hle,⟨X,v1,hx9,rfl,hrow⟩| ⟨z,hz,rfl⟩⟩
 ·obtain⟨x65,xsz,xt⟩:=qCD hx9;have hx1:=hx'.out.le hle;have hy1:=hy'.out.le hle;have hxl:=hx1.lt;have hyl:=hy1.lt;obtain⟨A,c,A',c',rfl,kx,hxa⟩:=hx1;obtain⟨B,d,B',d',rfl,ky,hya⟩:=hy1;obtain⟨a0,a1,a2,a3⟩:=qAA kx;obtain⟨b0,b1,b2,b3⟩:=qAA ky;obtain⟨LA,lc,rfl⟩:=hrow.slice;obtain⟨n,hn⟩:∃n,X.length=n:=⟨_,rfl⟩;rw[hn]at hrow ⊢;clear c0;have⟨kx',ky',hxa',hya',hle',hx9',hrow',xsz'⟩:=hyd8 kx ky hxa hya hle hx9 hrow xsz;have⟨xt',hn'⟩:=hyd2 xt hn;clear hn xt xsz hrow hx9 hle hya hxa ky kx;go_wp2_with (fail);refine qB3 (R:=leRel) 6 [some 10,some 11,some 12,some 13,some 5,some 6,none,none] [[],[0],[],[2],[],[],[1,4],[3,5]]
   [.eq (.agg #[.bool x.sn,.slice A x.gn.length c,.bool x.sd,.slice A' x.gd.length c']),MPred.ratO x,.eq (.agg #[.bool y.sn,.slice B y.gn.length d,.bool y.sd,.slice B' y.gd.length d']),MPred.ratO y,MPred.box W1.heap.size (.cells #[.bool false,.slice none 0 0,.slice none 0 0] 70),MPred.box W1.heap.size (.cells #[.bool false,.slice none 0 0,.slice none 0 0] 70)] (TwoG 4 5) (fun ch W=>ch=flt 10∧(x.rat?=none∨y.rat?=none)∧Le W1 W) (by kernel_rfl) (by kernel_rfl) (by kernel_rfl) (by kernel_rfl) (by kernel_rfl) (fun D x' hD=>TwoG.start (hD 4 (by decide)) (hD 5 (by decide))) ?_ ?_ ?_
  ·simp only[List.take_succ_cons,List.take_zero];refine sGc rfl ?_ (sGc rfl ?_ (sGc rfl ?_ (sGc rfl ?_ (sGc rfl ?_ (sGc rfl ?_ (qAR))))))
   ·intro D x' W hD hdn hR hf hG Q hK hP;have cc0:=(Below.cell hR (p:=⟨Bx,0,none⟩) (by show Bx<W1.heap.size;omega)).trans a0;have cc1:=(Below.cell hR (p:=⟨Bx,1,none⟩) (by show Bx<W1.heap.size;omega)).trans a1;have cc2:=(Below.cell hR (p:=⟨Bx,2,none⟩) (by show Bx<W1.heap.size;omega)).trans a2;have cc3:=(Below.cell hR (p:=⟨Bx,3,none⟩) (by show Bx<W1.heap.size;omega)).trans a3;simp only[fA]at hK ⊢;go_wp2;exact hK _ _ lrR rfl (hG.quiet (Le.refl _) (by decide) (by decide))
   ·intro D x' W hD hdn hR hf hG Q hK hP;obtain⟨e0,-⟩:=hf;change _=_ at e0;simp only[fA,e0]at hK ⊢
    cases hr:x.rat? with
    | some r=>
     have r1:=qAh (fun _=>True) x r _ W (Up.any _) (hxa'.out.le hR) hr;have⟨r1',hr',hG',hR'⟩:=hyd4 r1 hr hG hR;clear hR hG hr r1;go_wp2_with (fail);go_at_call 41;refine r1'.out.mono ?_;rintro e w' ⟨v',rfl,y1,y2⟩;have y3:=y2;obtain⟨A1,c1,A2,c2,rfl,-,-⟩:=y2.form;have y2':=hyd1 y2;clear y2;go_wp2;exact hK _ _ y1 ⟨r,hr'.out,y3⟩ (hG'.out.quiet y1 (by decide) (by decide))
    | none=>
     have r1:=qBC (fun _=>True) x _ W (Up.any _) (hxa'.out.le hR) hr;have⟨r1',hr',hG',hR'⟩:=hyd4 r1 hr hG hR;clear hR hG hr r1;go_wp2_with (fail);go_at_call 41;refine r1'.out.mono ?_;rintro e w' ⟨rfl,y1⟩;go_wp2_with (fail);exact hP _ _ _ ⟨rfl,.inl hr'.out,hR'.out.trans y1⟩
   ·intro D x' W hD hdn hR hf hG Q hK hP;have cc0:=(Below.cell hR (p:=⟨By,0,none⟩) (by show By<W1.heap.size;omega)).trans b0;have cc1:=(Below.cell hR (p:=⟨By,1,none⟩) (by show By<W1.heap.size;omega)).trans b1;have cc2:=(Below.cell hR (p:=⟨By,2,none⟩) (by show By<W1.heap.size;omega)).trans b2;have cc3:=(Below.cell hR (p:=⟨By,3,none⟩) (by show By<W1.heap.size;omega)).trans b3;simp only[fA]at hK ⊢;go_wp2;exact hK _ _ lrR rfl (hG.quiet (Le.refl _) (by decide) (by decide))
   ·intro D x' W hD hdn hR hf hG Q hK hP;obtain⟨e0,-⟩:=hf;change _=_ at e0;simp only[fA,e0]at hK ⊢
    cases hr:y.rat? with
    | some r=>
     have r1:=qAh (fun _=>True) y r _ W (Up.any _) (hya'.out.le hR) hr;have⟨r1',hr',hG',hR'⟩:=hyd4 r1 hr hG hR;clear hR hG hr r1;go_wp2_with (fail);go_at_call 41;refine r1'.out.mono ?_;rintro e w' ⟨v',rfl,y1,y2⟩;have y3:=y2;obtain⟨A1,c1,A2,c2,rfl,-,-⟩:=y2.form;have y2':=hyd1 y2;clear y2;go_wp2;exact hK _ _ y1 ⟨r,hr'.out,y3⟩ (hG'.out.quiet y1 (by decide) (by decide))
    | none=>
     have r1:=qBC (fun _=>True) y _ W (Up.any _) (hya'.out.le hR) hr;have⟨r1',hr',hG',hR'⟩:=hyd4 r1 hr hG hR;clear hR hG hr r1;go_wp2_with (fail);go_at_call 41;refine r1'.out.mono ?_;rintro e w' ⟨rfl,y1⟩;go_wp2_with (fail);exact hP _ _ _ ⟨rfl,.inr hr'.out,hR'.out.trans y1⟩
   ·intro D x' W hD hdn hR hf hG Q hK hP;simp only[fA]at hK ⊢;have hs9:=hR.size;go_wp2;exact hK _ _ (qAB _ _) ⟨_,rfl,hs9,by unfold World.alloc;exact Array.getElem?_push_size⟩ (hG.left (by decide))
   ·intro D x' W hD hdn hR hf hG Q hK hP;simp only[fA]at hK ⊢;have hs9:=hR.size;go_wp2;exact hK _ _ (qAB _ _) ⟨_,rfl,hs9,by unfold World.alloc;exact Array.getElem?_push_size⟩ (hG.right (by decide))
  ·rintro a9 ch W hdf ⟨rfl,hbad,hle9⟩;exact⟨hdf,(show Le w W1 from hle'.out).trans hle9,.inr ⟨10,by rw[←hres'.out];exact qKX hx9'.out hbad,rfl⟩⟩
  ·intro D x' W hD hR hf hG Q' hQ1 _;have e0:=hf 0 (by decide);have e2:=hf 2 (by decide);change _=_ at e0 e2;obtain⟨a,ha,hra⟩:=hf 1 (by decide);obtain⟨b,hb,hrb⟩:=hf 3 (by decide);obtain⟨k4,q4,hk4,hx4⟩:=hf 4 (by decide);obtain⟨k5,q5,hk5,hx5⟩:=hf 5 (by decide);replace q4:x' 4=_:=q4;replace q5:x' 5=_:=q5;replace hra:RatL (fun _=>True) .u32 W (x' 1) a:=hra;replace hrb:RatL (fun _=>True) .u32 W (x' 3) b:=hrb;have hne:=hG.ne (hD 4 (by decide)) (hD 5 (by decide));rw[q4,q5]at hne;have hne2:k5≠k4:=fun h=>hne (by rw[h]);obtain⟨An,cn,Ad,cd,q1,-,-⟩:=hra.form;obtain⟨Bn,dn,Bd,dd,q3,-,-⟩:=hrb.form;rw[q1]at hra;rw[q3]at hrb;simp only[List.drop_succ_cons,List.drop_zero];rw[show List.range 6=[0,1,2,3,4,5]from rfl];simp only[fA,e0,e2,q1,q3,q4,q5];clear e0 e2 q1 q3 q4 q5 hf hG hD hne;obtain⟨sa,hsa⟩:∃sa,rneg a=sa:=⟨_,rfl⟩;obtain⟨sb,hsb⟩:∃sb,rneg b=sb:=⟨_,rfl⟩;rw[hsa]at hra ⊢;rw[hsb]at hrb ⊢
   obtain⟨V1,hV1,hle1,j4,j5,hra1,hrb1⟩:∃V1,((W.setCell ⟨k4,0,none⟩ (.bool sa)).setCell ⟨k4,1,none⟩ (.slice An (dg (rnum a)).length cn)).setCell ⟨k4,2,none⟩ (.slice Ad (dg a.den).length cd)=V1∧Le W1 V1∧V1.heap[k4]? =some (.cells #[.bool sa,.slice An (dg (rnum a)).length cn,.slice Ad (dg a.den).length cd] 70)∧V1.heap[k5]? =some (.cells #[.bool false,.slice none 0 0,.slice none 0 0] 70)∧RatL (fun _=>True) .u32 V1 (.agg #[.bool sa,.slice An (dg (rnum a)).length cn,.slice Ad (dg a.den).length cd]) a∧RatL (fun _=>True) .u32 V1 (.agg #[.bool sb,.slice Bn (dg (rnum b)).length dn,.slice Bd (dg b.den).length dd]) b:=
    ⟨_,rfl,qAg hR hk4,qA0 hx4,((Below.heap_setCell _ _ _ _ hne2).trans ((Below.heap_setCell _ _ _ _ hne2).trans (Below.heap_setCell _ _ _ _ hne2))).trans hx5,hra.box3 hx4,hrb.box3 hx4⟩
   obtain⟨V2,hV2,hle2,l4,l5,hra2,hrb2⟩:∃V2,((V1.setCell ⟨k5,0,none⟩ (.bool sb)).setCell ⟨k5,1,none⟩ (.slice Bn (dg (rnum b)).length dn)).setCell ⟨k5,2,none⟩ (.slice Bd (dg b.den).length dd)=V2∧Le W1 V2∧V2.heap[k4]? =some (.cells #[.bool sa,.slice An (dg (rnum a)).length cn,.slice Ad (dg a.den).length cd] 70)∧V2.heap[k5]? =some (.cells #[.bool sb,.slice Bn (dg (rnum b)).length dn,.slice Bd (dg b.den).length dd] 70)∧RatL (fun _=>True) .u32 V2 (.agg #[.bool sa,.slice An (dg (rnum a)).length cn,.slice Ad (dg a.den).length cd]) a∧RatL (fun _=>True) .u32 V2 (.agg #[.bool sb,.slice Bn (dg (rnum b)).length dn,.slice Bd (dg b.den).length dd]) b:=
    ⟨_,rfl,qAg hle1 hk5,((Below.heap_setCell _ _ _ _ (Ne.symm hne2)).trans ((Below.heap_setCell _ _ _ _ (Ne.symm hne2)).trans (Below.heap_setCell _ _ _ _ (Ne.symm hne2)))).trans j4,qA0 j5,hra1.box3 j5,hrb1.box3 j5⟩
   have hne3:¬k5=k4:=hne2;have hne4:¬k4=k5:=fun h=>hne2 h.symm;obtain⟨z0,z1,z2,f0,f1,f2⟩:=qAD hx4;obtain⟨u0,u1,u2,g0,g1,g2⟩:=qAD j5;obtain⟨d0,d1,d2,-⟩:=qAD l4;obtain⟨d3,d4,d5,-⟩:=qAD l5;have hl4:=(gsl l4);have hl5:=(gsl l5);have⟨hR',hle1',hle2',hx4',hx5',j4',j5',l4'⟩:=hyd8 hR hle1 hle2 hx4 hx5 j4 j5 l4;have⟨l5',hra',hrb',hra1',hrb1',hra2',hrb2',hsa'⟩:=hyd8 l5 hra hrb hra1 hrb1 hra2 hrb2 hsa;have⟨hsb',ha',hb'⟩:=hyd3 hsb ha hb;clear hb ha hsb hsa hrb2 hra2 hrb1 hra1 hrb hra l5 l4 j5 j4 hx5 hx4 hle2 hle1 hR;go_wp2;clear z0 z1 z2 f0 f1 f2 u0 u1 u2 g0 g1 g2;refine hQ1 _ _ ?_;clear hV1 hV2 hQ1 a0 a1 a2 a3 b0 b1 b2 b3;have hle02:Le w V2:=(show Le w W1 from hle'.out).trans hle2'.out;have hrow2:=hrow'.out.le hle2'.out;have hres1:=qLg hx9'.out ha'.out hb'.out;rw[hres'.out,hn'.out]at hres1;obtain⟨cv,hcv⟩:∃cv,rsgn (a - b)=cv:=⟨_,rfl⟩;rw[hcv]at hres1
   by_cases h0:n=0
   ·rw[if_pos h0]at hres1;subst h0;have⟨hle02',hrow2',hres1',hcv'⟩:=hyd4 hle02 hrow2 hres1 hcv;clear hcv hres1 hrow2 hle02;go_wp2_with (fail);go_at_call 48
    with_reducible refine(qAY _ _).mono ?_
    rintro e W3 ⟨rfl,rfl⟩;go_wp2_with (fail);exact⟨rfl,hle02'.out,.inr ⟨6,hres1'.out,rfl⟩⟩
   ·rw[if_neg h0]at hres1;have j1:(0:Int)<(n:Int):=by omega
    have j2:0<n:=by omega
    have hmin:=qDw (fun _=>True) a b _ _ V2 (Up.any _) hra2'.out hrb2'.out ((FracA.sz ha'.out).up (by decide)) ((FracA.sz hb'.out).up (by decide));have⟨hle02',hrow2',hres1',hcv',hmin'⟩:=hyd5 hle02 hrow2 hres1 hcv hmin;clear hmin hcv hres1 hrow2 hle02;go_wp2_with (fail);go_at_call 48
    with_reducible refine(qAX _ _).mono ?_
    rintro e W3 ⟨rfl,rfl⟩;go_wp2_with (fail);go_at_call 57;refine hmin'.out.mono ?_;rintro e V3 ⟨v3,rfl,hle3,hr3⟩;obtain⟨Cn,en,Cd,ed,e3,-,-⟩:=hr3.form;have hsg:=qEX (fun _=>True) (a - b) _ V3 hr3;rw[hcv'.out]at hsg;subst e3;have⟨hle3',hr3',hsg'⟩:=hyd3 hle3 hr3 hsg;clear hsg hr3 hle3;go_wp2_with (fail);go_at_call 60;refine hsg'.out.mono ?_;rintro e V4 ⟨rfl,hle4⟩;have hle24:Le V2 V4:=hle3'.out.trans hle4;have hle04:Le w V4:=hle02'.out.trans hle24;clear d0 d1 d2 d3 d4 d5
    by_cases hcp:0<cv
    ·have hres2:=hres1'.out;rw[if_pos hcp]at hres2;have j3:decide (cv≤0)=false:=decide_eq_false (by omega);have j5:¬cv≤0:=by omega
     have⟨hle4',hle24',hle04',hres2'⟩:=hyd4 hle4 hle24 hle04 hres2;clear hres2 hle04 hle24 hle4;go_wp2_with (fail);go_at_call 48
     with_reducible refine(qAY _ _).mono ?_
     rintro e W3 ⟨rfl,rfl⟩;go_wp2_with (fail);exact⟨rfl,hle04'.out,.inr ⟨2,hres2'.out,rfl⟩⟩
    ·have hres2:=hres1'.out;rw[if_neg hcp]at hres2;have j3:decide (cv≤0)=true:=decide_eq_true (by omega);have j5:cv≤0:=by omega
     have hrow4:=hrow2'.out.le hle24
     by_cases h1:n=1
     ·rw[if_pos h1]at hres2;subst h1;have⟨hle4',hle24',hle04',hres2',hrow4'⟩:=hyd5 hle4 hle24 hle04 hres2 hrow4;clear hrow4 hres2 hle04 hle24 hle4;go_wp2_with (fail);go_at_call 48
      with_reducible refine(qAX _ _).mono ?_
      rintro e W3 ⟨rfl,rfl⟩;go_wp2;go_ret;exact⟨hle04'.out,.inl ⟨0,hres2'.out,rfl⟩⟩
     ·rw[if_neg h1]at hres2;have j4:((n:Int)==1)=false:=by simp;omega
      have hch:=hroom'.out X hx9'.out (by have:=hn'.out;omega);obtain⟨hel,hll⟩:=qIh hch;have hrow9:RowE (ratK .u32) 70 w.heap.size V4 (.slice LA X.length lc) X:=by rw[hn'.out];exact hrow4
      have kh:=qJs w.heap.size _ X V4 hrow9 hle04.size hch;rw[hn'.out]at kh;obtain⟨L,hL⟩:∃L,qBU X=L:=⟨_,rfl⟩;rw[hL]at kh hel hll hres2;have ka4:=(hle24.block _ (gsl l4'.out)).trans l4'.out;have kb4:=(hle24.block _ (gsl l5'.out)).trans l5'.out;have hra4:=hra2'.out.le hle24;have hrb4:=hrb2'.out.le hle24;have hgx:∀k,W1.heap.size≤k→(Value.slice LA n lc).ownBlock ≠some k:=fun k hk h9=>by have:=(hrow'.out.nib h9).2.1;omega
      have hg4:=hgx k4 hk4;have hg5:=hgx k5 hk5;clear hgx hrow9;have⟨hle4',hle24',hle04',hres2',hrow4',hch',kh',hL'⟩:=hyd8 hle4 hle24 hle04 hres2 hrow4 hch kh hL;have⟨hel',ka4',kb4',hra4',hrb4',hg4',hg5'⟩:=hyd7 hel ka4 kb4 hra4 hrb4 hg4 hg5;clear hg5 hg4 hrb4 hra4 kb4 ka4 hel hL kh hch hrow4 hres2 hle04 hle24 hle4;go_wp2_with (fail);go_at_call 48
      with_reducible refine(qAX _ _).mono ?_
      rintro e W3 ⟨rfl,rfl⟩;go_wp2_with (fail);go_at_call 91;refine kh'.out.mono ?_;rintro e V5 ⟨v5,rfl,hw5,hr5⟩;have hle05:Le w V5:=(show Below w.heap.size w V4 from hle04'.out).trans hw5.below;have ka5:=(hw5.oth k4 (gsl ka4'.out) hg4'.out).trans ka4'.out;have kb5:=(hw5.oth k5 (gsl kb4'.out) hg5'.out).trans kb4'.out;have hra5:=hra4'.out.kp hw5.kp;have hrb5:=hrb4'.out.kp hw5.kp;obtain⟨CA,cc,rfl⟩:=hr5.slice;have kk:=qHf CA L.length cc V5;have⟨hw5',hle05',hr5',kk',ka5',kb5',hra5',hrb5'⟩:=hyd8 hw5 hle05 hr5 kk ka5 kb5 hra5 hrb5;clear hrb5 hra5 kb5 ka5 kk hr5 hle05 hw5;go_wp2_with (fail);go_at_call 90;refine kk'.out.mono ?_;rintro e V6 ⟨rfl,hle6,kB⟩;have hr6:=(hr5'.out.le hle6).base0;have hle06:=hle05'.out.trans hle6;have ka6:=(hle6.block _ (gsl ka5'.out)).trans ka5'.out;have kb6:=(hle6.block _ (gsl kb5'.out)).trans kb5'.out;have hra6:=hra5'.out.le hle6;have hrb6:=hrb5'.out.le hle6;have hka:=gsl ka6;have hkb:=gsl kb6;have q0:V6.cell? ⟨k4,0,none⟩=some (.bool sa):=cell_of_row V6 k4 0 _ _ _ ka6;have q1:V6.cell? ⟨k4,1,none⟩=some (.slice An (dg (rnum a)).length cn):=cell_of_row V6 k4 1 _ _ _ ka6;have q2:V6.cell? ⟨k4,2,none⟩=some (.slice Ad (dg a.den).length cd):=cell_of_row V6 k4 2 _ _ _ ka6;have r0:V6.cell? ⟨k5,0,none⟩=some (.bool sb):=cell_of_row V6 k5 0 _ _ _ kb6;have r1:V6.cell? ⟨k5,1,none⟩=some (.slice Bn (dg (rnum b)).length dn):=cell_of_row V6 k5 1 _ _ _ kb6;have r2:V6.cell? ⟨k5,2,none⟩=some (.slice Bd (dg b.den).length dd):=cell_of_row V6 k5 2 _ _ _ kb6
      obtain⟨cA,hcA⟩:∃c,chgN (L.map (qGO a))=c:=⟨_,rfl⟩;obtain⟨cB,hcB⟩:∃c,chgN (L.map (qGO b))=c:=⟨_,rfl⟩;have bA:cA≤1000:=by rw[←hcA];exact Nat.le_trans (qGP _) (by rw[List.length_map];exact hll)
      have bB:cB≤1000:=by rw[←hcB];exact Nat.le_trans (qGP _) (by rw[List.length_map];exact hll)
      have hres3:=hres2'.out;unfold cntA at hres3;rw[hcA,hcB]at hres3;obtain⟨df,hdf⟩:∃d,(cA:Int) - (cB:Int)=d:=⟨_,rfl⟩;rw[hdf]at hres3
      have hcnt:∀(r:Rat) (W:World) (B1 B2 cR:Nat),Le V6 W→Rsz r 40→IBox W B1 r.num→IBox W B2 (r.den:Int)→chgN (L.map (qGO r))=cR→Calls Tryz.prog 131 #[.func (.func 142) #[] #[.pointer (some ⟨B1,0,none⟩),.pointer (some ⟨B2,0,none⟩)],.pointer (some ⟨V5.heap.size,0,none⟩)] W fun e w'=>e= .returned (.int .i64 (cR:Int))∧Le W w':=fun r W B1 B2 cR hW hr i1 i2 hc=>by
       have h9:=qEq 142 #[.pointer (some ⟨B1,0,none⟩),.pointer (some ⟨B2,0,none⟩)] (qGO r) L _ V5.heap.size _ W ((hW.block _ (gsl kB)).trans kB) (hr6.le hW) hll qIy (fun l hl=>qGN _) fun V hV l hl A n c hrl=>by
        have h8:=qLe 0 (.slice A n c) l r.num (r.den:Int) B1 B2 V hrl (hel'.out l hl).2.1 (hel'.out l hl).2.2 (i1.le hV) (i2.le hV) (Isz.up (n:=10000) hr.1 (by decide)) (Isz.up (m:=40) (by unfold Isz;rw[Int.natAbs_natCast];exact hr.2) (by decide));have e8:(qCq l r.num (r.den:Int) l.length).sign =qGO r l:=rfl;rw[e8]at h8;simpa using h8
       rw[hc]at h9;exact h9
      have hsA:=FracA.sz ha'.out;have hsB:=FracA.sz hb'.out;have⟨hle6',kB',hr6',hle06',ka6',kb6',hra6',hrb6'⟩:=hyd8 hle6 kB hr6 hle06 ka6 kb6 hra6 hrb6;have⟨q0',q1',q2',r0',r1',r2',hcA',hcB'⟩:=hyd8 q0 q1 q2 r0 r1 r2 hcA hcB;have⟨hres3',hcnt',hsA',hsB',hdf'⟩:=hyd5 hres3 hcnt hsA hsB hdf;clear hdf hsB hsA hcnt hres3 hcB hcA r2 r1 r0 q2 q1 q0 hrb6 hra6 kb6 ka6 hle06 hr6 kB hle6;clear ka5' kb5' hra5' hrb5' ka4' kb4' hra4' hrb4';go_wp2_with (fail);refine qAM (R:=leRel) 9 [some 30,some 31,some 32,some 33,some 34,some 35,some 36,some 37,some 38,some 3] [[],[],[1],[0,2],[],[],[5],[4,6],[3,7],[8]]
       [.eq (.func (.func 131) #[] #[.pointer (some ⟨V5.heap.size,0,none⟩)]),.eq (.agg #[.bool sa,.slice An (dg (rnum a)).length cn,.slice Ad (dg a.den).length cd]),MPred.sgn a,.eq (.int .i64 (cA:Int)),.eq (.func (.func 131) #[] #[.pointer (some ⟨V5.heap.size,0,none⟩)]),.eq (.agg #[.bool sb,.slice Bn (dg (rnum b)).length dn,.slice Bd (dg b.den).length dd]),MPred.sgn b,.eq (.int .i64 (cB:Int)),.eq (.int .i64 df)] (fun _ _=>False) (by kernel_rfl) (by kernel_rfl) (by kernel_rfl) (by kernel_rfl) (by kernel_rfl) ?_ (fun _ _ _ _ h=>h.elim) ?_
      ·simp only[List.take_succ_cons,List.take_zero];refine sMc rfl ?_ (sMc rfl ?_ (sMc rfl ?_ (sMc rfl ?_ (sMc rfl ?_ (sMc rfl ?_ (sMc rfl ?_ (sMc rfl ?_ (sMc rfl ?_ (qAR)))))))))
       ·intro xv W hR hf Q hK hP;simp only[fA]at hK ⊢;go_wp2;exact hK _ _ lrR rfl
       ·intro xv W hR hf Q hK hP;have t0:=(Below.cell hR (p:=⟨k4,0,none⟩) hka).trans q0'.out;have t1:=(Below.cell hR (p:=⟨k4,1,none⟩) hka).trans q1'.out;have t2:=(Below.cell hR (p:=⟨k4,2,none⟩) hka).trans q2'.out;simp only[fA]at hK ⊢;go_wp2;exact hK _ _ lrR rfl
       ·intro xv W hR hf Q hK hP;obtain⟨e0,-⟩:=hf;change _=_ at e0;simp only[fA,e0]at hK ⊢;have kc:=qIg a _ W (hra6'.out.le hR);have kc':=hyd1 kc;clear kc;go_wp2_with (fail);go_at_call 99;refine kc'.out.mono ?_;rintro e w' ⟨⟨v',rfl,y2⟩,y1⟩;have y3:=y2;obtain⟨B1,B2,rfl,-,-⟩:=y2;have⟨y1',y3'⟩:=hyd2 y1 y3;clear y3 y1;go_wp2;exact hK _ _ y1'.out y3'.out
       ·intro xv W hR hf Q hK hP;obtain⟨e0,e1,-⟩:=hf;change _=_ at e0;replace e1:∃B1 B2,(xv 2)= .func (.func 142) #[] #[.pointer (some ⟨B1,0,none⟩),.pointer (some ⟨B2,0,none⟩)]∧IBox W B1 a.num∧IBox W B2 (a.den:Int):=e1;obtain⟨B1,B2,q9,i1,i2⟩:=e1;simp only[fA,e0,q9]at hK ⊢;have kc:=hcnt'.out a W B1 B2 cA hR hsA'.out i1 i2 hcA'.out;have⟨kc',i1',i2'⟩:=hyd3 kc i1 i2;clear i2 i1 kc;go_wp2_with (fail);go_at_call 131;refine kc'.out.mono ?_;rintro e w' ⟨rfl,y1⟩;have y1':=hyd1 y1;clear y1;go_wp2;exact hK _ _ y1'.out rfl
       ·intro xv W hR hf Q hK hP;simp only[fA]at hK ⊢;go_wp2;exact hK _ _ lrR rfl
       ·intro xv W hR hf Q hK hP;have t0:=(Below.cell hR (p:=⟨k5,0,none⟩) hkb).trans r0'.out;have t1:=(Below.cell hR (p:=⟨k5,1,none⟩) hkb).trans r1'.out;have t2:=(Below.cell hR (p:=⟨k5,2,none⟩) hkb).trans r2'.out;simp only[fA]at hK ⊢;go_wp2;exact hK _ _ lrR rfl
       ·intro xv W hR hf Q hK hP;obtain⟨e0,-⟩:=hf;change _=_ at e0;simp only[fA,e0]at hK ⊢;have kc:=qIg b _ W (hrb6'.out.le hR);have kc':=hyd1 kc;clear kc;go_wp2_with (fail);go_at_call 99;refine kc'.out.mono ?_;rintro e w' ⟨⟨v',rfl,y2⟩,y1⟩;have y3:=y2;obtain⟨B1,B2,rfl,-,-⟩:=y2;have⟨y1',y3'⟩:=hyd2 y1 y3;clear y3 y1;go_wp2;exact hK _ _ y1'.out y3'.out
       ·intro xv W hR hf Q hK hP;obtain⟨e0,e1,-⟩:=hf;change _=_ at e0;replace e1:∃B1 B2,(xv 6)= .func (.func 142) #[] #[.pointer (some ⟨B1,0,none⟩),.pointer (some ⟨B2,0,none⟩)]∧IBox W B1 b.num∧IBox W B2 (b.den:Int):=e1;obtain⟨B1,B2,q9,i1,i2⟩:=e1;simp only[fA,e0,q9]at hK ⊢;have kc:=hcnt'.out b W B1 B2 cB hR hsB'.out i1 i2 hcB'.out;have⟨kc',i1',i2'⟩:=hyd3 kc i1 i2;clear i2 i1 kc;go_wp2_with (fail);go_at_call 131;refine kc'.out.mono ?_;rintro e w' ⟨rfl,y1⟩;have y1':=hyd1 y1;clear y1;go_wp2;exact hK _ _ y1'.out rfl
       ·intro xv W hR hf Q hK hP;obtain⟨e0,e1,-⟩:=hf;change _=_ at e0 e1;have jj:=hdf'.out;simp only[fA,e0,e1]at hK ⊢;go_wp2;exact hK _ _ lrR (by show Value.int _ _=Value.int _ _;congr 1)
      intro xv W hR hf Q' hQ1 _;have e8:=hf 8 (by decide);change _=_ at e8;simp only[List.drop_succ_cons,List.drop_zero];rw[show List.range 9=[0,1,2,3,4,5,6,7,8]from rfl];simp only[fA,e8];clear hf;clear e8;have hR':=hyd1 hR;clear hR;go_wp2;refine hQ1 _ _ ?_;clear hQ1;have hR:=hR'.out;clear hR';have hle09:Le w W:=hle06'.out.trans hR;have⟨hle09',hR'⟩:=hyd2 hle09 hR;clear hR hle09;go_wp2;go_ret;exact⟨hle09'.out,.inl ⟨df,hres3'.out,rfl⟩⟩
 ·have hres1:=qNB (x:=x) (y:=y) hz;rw[hres'.out]at hres1;have⟨hle',hz',hres1'⟩:=hyd3 hle hz hres1;clear hres1 hz hle;go_wp2_with (fail);exact⟨rfl,hle'.out,.inr ⟨z,hres1'.out,rfl⟩⟩
theorem qLh (p:List FracA) (x y:FracA) (vp vx vy:Value) (w:World) (hp:SeqE inK w vp p) (hx:IsFracA (fun _=>True) w vx x) (hy:IsFracA (fun _=>True) w vy y) (hroom:qEB p):Calls Tryz.prog 35 #[vp,vx,vy] w fun e w'=>e= .returned (.tuple #[.int .i64 (valI (qBD p x y)),.int .i64 (qHg (qBD p x y))])∧Le w w':=by
 have hmf:=mkf;have hp0:=hp;have hx0:=hx;have hy0:=hy;obtain⟨A1,c1,rfl,-⟩:=hp.slice;obtain⟨XA,xc,XB,xd,rfl,-,-⟩:=hx;obtain⟨YA,yc,YB,yd,rfl,-,-⟩:=hy;obtain⟨W1,hW1,hb1,k1⟩:=enew w (.cells #[.slice A1 p.length c1] 45);obtain⟨W2,hW2,hb2,k2⟩:=enew W1 (.cells #[.bool x.sn,.slice XA x.gn.length xc,.bool x.sd,.slice XB x.gd.length xd] 26);obtain⟨W3,hW3,hb3,k3⟩:=enew W2 (.cells #[.bool y.sn,.slice YA y.gn.length yc,.bool y.sd,.slice YB y.gd.length yd] 26);have hb02:Below w.heap.size w W2:=hb1.trans (hb2.mono hb1.size);have hb03:Below w.heap.size w W3:=hb02.trans (hb3.mono hb02.size);have k13:=(hb3.block _ (gsl ((hb2.block _ (gsl k1)).trans k1))).trans ((hb2.block _ (gsl k1)).trans k1);have k23:=(hb3.block _ (gsl k2)).trans k2
 have hrun:=qJw (qBD p x y) 98 #[.pointer (some ⟨w.heap.size,0,none⟩),.pointer (some ⟨W1.heap.size,0,none⟩),.pointer (some ⟨W2.heap.size,0,none⟩)] W3 qIQ fun W hW=>
  qKY p x y _ _ _ w.heap.size W1.heap.size W2.heap.size _ W ((hW.block _ (gsl k13)).trans k13) (hp0.le (hb03.trans (hW.mono hb03.size))) (FBox.mk hx0 (hb03.trans (hW.mono hb03.size)) ((hW.block _ (gsl k23)).trans k23)) (FBox.mk hy0 (hb03.trans (hW.mono hb03.size)) ((hW.block _ (gsl k3)).trans k3)) hroom
 obtain⟨v,hv⟩:∃v,valI (qBD p x y)=v:=⟨_,rfl⟩;obtain⟨c,hc⟩:∃c,qHg (qBD p x y)=c:=⟨_,rfl⟩;rw[hv,hc]at hrun ⊢;have⟨hp0',hx0',hy0',hp',hb1',hb2',hb3',hb02'⟩:=hyd8 hp0 hx0 hy0 hp hb1 hb2 hb3 hb02;have⟨hb03',k1',k2',k3',k13',k23',hrun',hroom'⟩:=hyd8 hb03 k1 k2 k3 k13 k23 hrun hroom;have⟨hv',hc'⟩:=hyd2 hv hc;clear hc hv hroom hrun k23 k13 k3 k2 k1 hb03 hb02 hb3 hb2 hb1 hp hy0 hx0 hp0;go_enter Tryz.func35,Tryz.ntmps35;go_wp2_with (fail);clear hW1 hW2 hW3;go_at_call 58;refine hrun'.out.mono ?_;rintro e W4 ⟨rfl,hle⟩;have hle4:Le w W4:=(show Below w.heap.size w W3 from hb03'.out).trans (hle.mono hb03'.out.size);have⟨hle',hle4'⟩:=hyd2 hle hle4;clear hle4 hle;go_wp2;go_ret2;exact⟨rfl,hle4'.out⟩
end Go.Proofs.YtenjpccpldajoaaGreatDoor

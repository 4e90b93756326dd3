/- exact: operated, Add, Sub, Mul, Div, Compare. exact: Nearest's closure. exact: FromInt, Ratio, Nearest. -/
import Derived.Test.YtenjpccpldajoaaGreatDoorPk18
namespace Go.Proofs.YtenjpccpldajoaaGreatDoor
set_option maxRecDepth 100000
set_option maxHeartbeats 2000000
open Go.RowKit Go.Shelf
set_option linter.unusedVariables false
set_option linter.unusedSimpArgs false
theorem OperPost.ok {L:Nat→Prop} {r:Rat} {w:World} {e:Ending} {w':World} (h:OperPost L (.ok r) w e w'):∃v,e= .returned v∧Le w w'∧FracL L w' v r:=by
 obtain⟨hle,⟨r',v,hr,rfl,hf⟩| ⟨c,hr,-⟩⟩:=h
 ·injection hr with hr;subst hr;exact⟨v,rfl,hle,hf⟩
 ·cases hr
theorem OperPost.err {L:Nat→Prop} {c:Int} {w:World} {e:Ending} {w':World} (h:OperPost L (.error c) w e w'):e= .panicked (flt c)∧Le w w':=by
 obtain⟨hle,⟨r',v,hr,-⟩| ⟨c',hr,rfl⟩⟩:=h
 ·cases hr
 ·injection hr with hr;subst hr;exact⟨rfl,hle⟩
theorem qKR (L:Nat→Prop) (res:Except Int Rat) (g:FuncId) (cap:Array Value) (w:World) (hg:qAF Tryz.prog g) (hf:∀W,Le w W→Calls Tryz.prog g cap W (OperPost L res W)):
  Calls Tryz.prog 42 #[.func (.func g) #[] cap] w (qC1 L res w):=by
 cases res with
 | ok r=>
  refine(qDb L r g cap w hg fun W hW=>(hf W hW).mono fun e W' h=>h.ok).mono ?_;rintro e w' ⟨v,rfl,hle,h⟩;exact⟨hle,v,0,rfl,h,rfl⟩
 | error c=>
  refine(qEb c g cap w hg fun W hW=>(hf W hW).mono fun e W' h=>h.err).mono ?_;rintro e w' ⟨rfl,hle⟩;exact⟨hle,qCz,c,rfl,rfl,rfl⟩
theorem FBox.mk {w W:World} {B:Nat} {x:FracA} {A A':Option Addr} {c c':Nat} {L:Nat→Prop} (hv:IsFracA L w (.agg #[.bool x.sn,.slice A x.gn.length c,.bool x.sd,.slice A' x.gd.length c']) x) (hle:Le w W) (hk:W.heap[B]? =some (.cells #[.bool x.sn,.slice A x.gn.length c,.bool x.sd,.slice A' x.gd.length c'] 26)):FBox W B (.agg #[.bool x.sn,.slice A x.gn.length c,.bool x.sd,.slice A' x.gd.length c']) x:=
 ⟨A,c,A',c',rfl,hk,(hv.le hle).mono fun _ _=>trivial⟩
theorem qDo (L:Nat→Prop) (x y:FracA) (f:Rat→Rat→Except Int Rat) (g:FuncId) (va vb:Value) (w:World) (hL:Up w L) (h1:IsFracA (fun _=>True) w va x) (h2:IsFracA (fun _=>True) w vb y) (hg:qAF Tryz.prog g) (hop:OpOk Tryz.prog g f):
  Calls Tryz.prog 54 #[va,vb,.func (.func g) #[] #[]] w (qC1 L (opR f x y) w):=by
 have hx0:=h1;have hy0:=h2;obtain⟨A,c,A',c',rfl,p1,p2⟩:=h1;obtain⟨B,d,B',d',rfl,q1,q2⟩:=h2;obtain⟨W0,hW0,hsz,hle,k0,k1,k2,k3⟩:=qK9 w (.cells #[.bool x.sn,.slice A x.gn.length c,.bool x.sd,.slice A' x.gd.length c'] 26) (.cells #[.bool y.sn,.slice B y.gn.length d,.bool y.sd,.slice B' y.gd.length d'] 26) (.cells #[.func (.func g) #[] #[]] 87) (.cells #[.bool false,.slice none 0 0,.bool false,.slice none 0 0] 26);have hmf:∀(fn:Fn) (first cap:Array Value) (w:World),(Instr.makeFunc fn first cap).run Tryz.prog w= .ok (.func fn first cap) w:=fun _ _ _ _=>rfl
 have hf:∀W,Le W0 W→Calls Tryz.prog 115 #[.pointer (some ⟨w.heap.size,0,none⟩),.pointer (some ⟨w.heap.size+1,0,none⟩),.pointer (some ⟨w.heap.size+1+1,0,none⟩)] W (OperPost L (opR f x y) W):=fun W hW=>
  qJ5 L x y f g _ _ _ _ _ W (hL.le (hle.trans hW)) (FBox.mk hx0 (hle.trans hW) ((hW.block _ (by omega)).trans k0)) (FBox.mk hy0 (hle.trans hW) ((hW.block _ (by omega)).trans k1)) _ ((hW.block _ (by omega)).trans k2) hg hop
 have hrun:=qKR L (opR f x y) _ _ W0 qH6 hf;have⟨hL',hx0',hy0',p1',p2',q1',q2',hle'⟩:=hyd8 hL hx0 hy0 p1 p2 q1 q2 hle;have⟨k0',k1',k2',k3',hf',hrun',hop',hg'⟩:=hyd8 k0 k1 k2 k3 hf hrun hop hg;clear hg hop hrun hf k3 k2 k1 k0 hle q2 q1 p2 p1 hy0 hx0 hL;go_enter Tryz.func54,Tryz.ntmps54;go_wp2_with (fail);clear hW0;go_at_call 42;refine hrun'.out.mono ?_;rintro e W1 ⟨hle1,v1,cc,rfl,hres⟩;have hresF:=hres.form;obtain⟨s5,A5,n5,c5,s6,A6,n6,c6,rfl⟩:=hresF;have k9:=(hle1.block _ (gsl k3'.out)).trans k3'.out;have hle9:=fun u0 u1 u2 u3=>qAu (u0:=u0) (u1:=u1) (u2:=u2) (u3:=u3) (hle'.out.trans hle1) (show w.heap.size≤w.heap.size+1+1+1 by omega);have hb9:=fun u0 u1 u2 u3=>qAA (qAd (u0:=u0) (u1:=u1) (u2:=u2) (u3:=u3) k9);have hfin:=fun u0 u1 u2 u3=>IsRes.box4 (u0:=u0) (u1:=u1) (u2:=u2) (u3:=u3) hres k9;obtain⟨f0,f1,f2,f3⟩:=qAA k9;have⟨g0,g1,g2,g3⟩:=frz4 k9;have⟨hle1',hres',k9',hle9',hb9',hfin'⟩:=hyd6 hle1 hres k9 hle9 hb9 hfin;clear hfin hb9 hle9 k9 hres hle1;go_wp2;obtain⟨d0,d1,d2,d3⟩:=hb9'.out (.bool s5) (.slice A5 n5 c5) (.bool s6) (.slice A6 n6 c6);exact bodyPost_ret (v:= .tuple #[.agg #[.bool s5,.slice A5 n5 c5,.bool s6,.slice A6 n6 c6],.int .i64 cc]) (by simp[results,Tryz.results54,go_sem,d0,d1,d2,d3]) rfl ⟨hle9'.out _ _ _ _,_,_,rfl,hfin'.out _ _ _ _⟩
theorem qKS:qAF Tryz.prog 55:=fun _ _=>by kernel_rfl
theorem qL3:OpOk Tryz.prog 55 (fun a b=>outR (a+b)):=fun a b va vb W ha hb hva hvb=>
 (qBy (fun _=>True) a b va vb W (Up.any _) hva hvb (ha.up (by decide)) (hb.up (by decide))).mono fun e W' ⟨v,he,hle,hr⟩=>⟨hle,.inl ⟨_,v,rfl,he,hr⟩⟩
theorem qCX (L:Nat→Prop) (x y:FracA) (va vb:Value) (w:World) (hL:Up w L) (h1:IsFracA (fun _=>True) w va x) (h2:IsFracA (fun _=>True) w vb y):
  Calls Tryz.prog 14 #[va,vb] w (qC1 L (opR (fun a b=>outR (a+b)) x y) w):=by
 have hx0:=h1;have hy0:=h2;obtain⟨A,c,A',c',rfl,p1,p2⟩:=h1;obtain⟨B,d,B',d',rfl,q1,q2⟩:=h2;obtain⟨W0,hW0,hsz,hle,k0,k1,k2⟩:=qBF w (.cells #[.bool x.sn,.slice A x.gn.length c,.bool x.sd,.slice A' x.gd.length c'] 26) (.cells #[.bool y.sn,.slice B y.gn.length d,.bool y.sd,.slice B' y.gd.length d'] 26) (.cells #[.bool false,.slice none 0 0,.bool false,.slice none 0 0] 26);obtain⟨a0,a1,a2,a3⟩:=qAA k0;obtain⟨b0,b1,b2,b3⟩:=qAA k1;have hcall:=qDo L x y (fun a b=>outR (a+b)) 55 _ _ W0 (hL.le hle) (hx0.le hle) (hy0.le hle) qKS qL3;have⟨hL',hx0',hy0',p1',p2',q1',q2',hle'⟩:=hyd8 hL hx0 hy0 p1 p2 q1 q2 hle;have⟨k0',k1',k2',hcall'⟩:=hyd4 k0 k1 k2 hcall;clear hcall k2 k1 k0 hle q2 q1 p2 p1 hy0 hx0 hL;go_enter Tryz.func14,Tryz.ntmps14;go_wp2_with (fail);clear hW0;go_at_call 54;refine hcall'.out.mono ?_;rintro e W1 ⟨hle1,v1,cc,rfl,hres⟩;have hresF:=hres.form;obtain⟨s5,A5,n5,c5,s6,A6,n6,c6,rfl⟩:=hresF;have k9:=(hle1.block _ (gsl k2'.out)).trans k2'.out;have hle9:=fun u0 u1 u2 u3=>qAu (u0:=u0) (u1:=u1) (u2:=u2) (u3:=u3) (hle'.out.trans hle1) (show w.heap.size≤w.heap.size+1+1 by omega);have hb9:=fun u0 u1 u2 u3=>qAA (qAd (u0:=u0) (u1:=u1) (u2:=u2) (u3:=u3) k9);have hfin:=fun u0 u1 u2 u3=>IsRes.box4 (u0:=u0) (u1:=u1) (u2:=u2) (u3:=u3) hres k9;obtain⟨f0,f1,f2,f3⟩:=qAA k9;have⟨g0,g1,g2,g3⟩:=frz4 k9;have⟨hle1',hres',k9',hle9',hb9',hfin'⟩:=hyd6 hle1 hres k9 hle9 hb9 hfin
 clear hfin hb9 hle9 k9 hres hle1;go_wp2;obtain⟨d0,d1,d2,d3⟩:=hb9'.out (.bool s5) (.slice A5 n5 c5) (.bool s6) (.slice A6 n6 c6);exact bodyPost_ret (v:= .tuple #[.agg #[.bool s5,.slice A5 n5 c5,.bool s6,.slice A6 n6 c6],.int .i64 cc]) (by simp[results,Tryz.results14,go_sem,d0,d1,d2,d3]) rfl ⟨hle9'.out _ _ _ _,_,_,rfl,hfin'.out _ _ _ _⟩
theorem qJ8:qAF Tryz.prog 57:=fun _ _=>by kernel_rfl
theorem qKT:OpOk Tryz.prog 57 (fun a b=>outR (a - b)):=fun a b va vb W ha hb hva hvb=>
 (qDw (fun _=>True) a b va vb W (Up.any _) hva hvb (ha.up (by decide)) (hb.up (by decide))).mono fun e W' ⟨v,he,hle,hr⟩=>⟨hle,.inl ⟨_,v,rfl,he,hr⟩⟩
theorem qMg (L:Nat→Prop) (x y:FracA) (va vb:Value) (w:World) (hL:Up w L) (h1:IsFracA (fun _=>True) w va x) (h2:IsFracA (fun _=>True) w vb y):
  Calls Tryz.prog 16 #[va,vb] w (qC1 L (opR (fun a b=>outR (a - b)) x y) w):=by
 have hx0:=h1;have hy0:=h2;obtain⟨A,c,A',c',rfl,p1,p2⟩:=h1;obtain⟨B,d,B',d',rfl,q1,q2⟩:=h2;obtain⟨W0,hW0,hsz,hle,k0,k1,k2⟩:=qBF w (.cells #[.bool x.sn,.slice A x.gn.length c,.bool x.sd,.slice A' x.gd.length c'] 26) (.cells #[.bool y.sn,.slice B y.gn.length d,.bool y.sd,.slice B' y.gd.length d'] 26) (.cells #[.bool false,.slice none 0 0,.bool false,.slice none 0 0] 26);obtain⟨a0,a1,a2,a3⟩:=qAA k0;obtain⟨b0,b1,b2,b3⟩:=qAA k1;have hcall:=qDo L x y (fun a b=>outR (a - b)) 57 _ _ W0 (hL.le hle) (hx0.le hle) (hy0.le hle) qJ8 qKT;have⟨hL',hx0',hy0',p1',p2',q1',q2',hle'⟩:=hyd8 hL hx0 hy0 p1 p2 q1 q2 hle;have⟨k0',k1',k2',hcall'⟩:=hyd4 k0 k1 k2 hcall;clear hcall k2 k1 k0 hle q2 q1 p2 p1 hy0 hx0 hL;go_enter Tryz.func16,Tryz.ntmps16;go_wp2_with (fail);clear hW0;go_at_call 54;refine hcall'.out.mono ?_;rintro e W1 ⟨hle1,v1,cc,rfl,hres⟩;have hresF:=hres.form;obtain⟨s5,A5,n5,c5,s6,A6,n6,c6,rfl⟩:=hresF;have k9:=(hle1.block _ (gsl k2'.out)).trans k2'.out;have hle9:=fun u0 u1 u2 u3=>qAu (u0:=u0) (u1:=u1) (u2:=u2) (u3:=u3) (hle'.out.trans hle1) (show w.heap.size≤w.heap.size+1+1 by omega);have hb9:=fun u0 u1 u2 u3=>qAA (qAd (u0:=u0) (u1:=u1) (u2:=u2) (u3:=u3) k9);have hfin:=fun u0 u1 u2 u3=>IsRes.box4 (u0:=u0) (u1:=u1) (u2:=u2) (u3:=u3) hres k9;obtain⟨f0,f1,f2,f3⟩:=qAA k9;have⟨g0,g1,g2,g3⟩:=frz4 k9;have⟨hle1',hres',k9',hle9',hb9',hfin'⟩:=hyd6 hle1 hres k9 hle9 hb9 hfin
 clear hfin hb9 hle9 k9 hres hle1;go_wp2;obtain⟨d0,d1,d2,d3⟩:=hb9'.out (.bool s5) (.slice A5 n5 c5) (.bool s6) (.slice A6 n6 c6);exact bodyPost_ret (v:= .tuple #[.agg #[.bool s5,.slice A5 n5 c5,.bool s6,.slice A6 n6 c6],.int .i64 cc]) (by simp[results,Tryz.results16,go_sem,d0,d1,d2,d3]) rfl ⟨hle9'.out _ _ _ _,_,_,rfl,hfin'.out _ _ _ _⟩
theorem qJ9:qAF Tryz.prog 56:=fun _ _=>by kernel_rfl
theorem qKU:OpOk Tryz.prog 56 (fun a b=>outR (a*b)):=fun a b va vb W ha hb hva hvb=>
 (qCJ (fun _=>True) a b va vb W (Up.any _) hva hvb (ha.up (by decide)) (hb.up (by decide))).mono fun e W' ⟨v,he,hle,hr⟩=>⟨hle,.inl ⟨_,v,rfl,he,hr⟩⟩
theorem qCc (L:Nat→Prop) (x y:FracA) (va vb:Value) (w:World) (hL:Up w L) (h1:IsFracA (fun _=>True) w va x) (h2:IsFracA (fun _=>True) w vb y):
  Calls Tryz.prog 15 #[va,vb] w (qC1 L (opR (fun a b=>outR (a*b)) x y) w):=by
 have hx0:=h1;have hy0:=h2;obtain⟨A,c,A',c',rfl,p1,p2⟩:=h1;obtain⟨B,d,B',d',rfl,q1,q2⟩:=h2;obtain⟨W0,hW0,hsz,hle,k0,k1,k2⟩:=qBF w (.cells #[.bool x.sn,.slice A x.gn.length c,.bool x.sd,.slice A' x.gd.length c'] 26) (.cells #[.bool y.sn,.slice B y.gn.length d,.bool y.sd,.slice B' y.gd.length d'] 26) (.cells #[.bool false,.slice none 0 0,.bool false,.slice none 0 0] 26);obtain⟨a0,a1,a2,a3⟩:=qAA k0;obtain⟨b0,b1,b2,b3⟩:=qAA k1;have hcall:=qDo L x y (fun a b=>outR (a*b)) 56 _ _ W0 (hL.le hle) (hx0.le hle) (hy0.le hle) qJ9 qKU;have⟨hL',hx0',hy0',p1',p2',q1',q2',hle'⟩:=hyd8 hL hx0 hy0 p1 p2 q1 q2 hle;have⟨k0',k1',k2',hcall'⟩:=hyd4 k0 k1 k2 hcall;clear hcall k2 k1 k0 hle q2 q1 p2 p1 hy0 hx0 hL;go_enter Tryz.func15,Tryz.ntmps15;go_wp2_with (fail);clear hW0;go_at_call 54;refine hcall'.out.mono ?_;rintro e W1 ⟨hle1,v1,cc,rfl,hres⟩;have hresF:=hres.form;obtain⟨s5,A5,n5,c5,s6,A6,n6,c6,rfl⟩:=hresF;have k9:=(hle1.block _ (gsl k2'.out)).trans k2'.out;have hle9:=fun u0 u1 u2 u3=>qAu (u0:=u0) (u1:=u1) (u2:=u2) (u3:=u3) (hle'.out.trans hle1) (show w.heap.size≤w.heap.size+1+1 by omega);have hb9:=fun u0 u1 u2 u3=>qAA (qAd (u0:=u0) (u1:=u1) (u2:=u2) (u3:=u3) k9);have hfin:=fun u0 u1 u2 u3=>IsRes.box4 (u0:=u0) (u1:=u1) (u2:=u2) (u3:=u3) hres k9;obtain⟨f0,f1,f2,f3⟩:=qAA k9;have⟨g0,g1,g2,g3⟩:=frz4 k9;have⟨hle1',hres',k9',hle9',hb9',hfin'⟩:=hyd6 hle1 hres k9 hle9 hb9 hfin
 clear hfin hb9 hle9 k9 hres hle1;go_wp2;obtain⟨d0,d1,d2,d3⟩:=hb9'.out (.bool s5) (.slice A5 n5 c5) (.bool s6) (.slice A6 n6 c6);exact bodyPost_ret (v:= .tuple #[.agg #[.bool s5,.slice A5 n5 c5,.bool s6,.slice A6 n6 c6],.int .i64 cc]) (by simp[results,Tryz.results15,go_sem,d0,d1,d2,d3]) rfl ⟨hle9'.out _ _ _ _,_,_,rfl,hfin'.out _ _ _ _⟩
theorem qL4:qAF Tryz.prog 61:=fun _ _=>by kernel_rfl
theorem qMh:OpOk Tryz.prog 61 divE:=by
 intro a b va vb w ha hb hva hvb;have hva0:=hva;have hvb0:=hvb;obtain⟨An,cn,Ad,cd,rfl,-,-⟩:=hva.form;obtain⟨Bn,dn,Bd,dd,rfl,-,-⟩:=hvb.form;obtain⟨sa,hsa⟩:∃sa,rneg a=sa:=⟨_,rfl⟩;obtain⟨sb,hsb⟩:∃sb,rneg b=sb:=⟨_,rfl⟩;rw[hsa]at hva0 ⊢;rw[hsb]at hvb0 ⊢;obtain⟨W0,hW0,hsz,hle,k0,k1,k2⟩:=qBF w (.cells #[.bool sa,.slice An (dg (rnum a)).length cn,.slice Ad (dg a.den).length cd] 70) (.cells #[.bool sb,.slice Bn (dg (rnum b)).length dn,.slice Bd (dg b.den).length dd] 70) (.cells #[.bool false,.slice none 0 0,.slice none 0 0] 70);obtain⟨a0,a1,a2,-⟩:=qAD k0;obtain⟨b0,b1,b2,-⟩:=qAD k1;obtain⟨sg9,hsg9⟩:∃sg9,rsgn b=sg9:=⟨_,rfl⟩;have hs:=qEX (fun _=>True) b _ W0 (hvb0.le hle);rw[hsg9]at hs;show Calls _ _ _ _ (fun e W'=>_);have⟨hva',hvb',hva0',hvb0',hsa',hsb',hle',k0'⟩:=hyd8 hva hvb hva0 hvb0 hsa hsb hle k0;have⟨k1',k2',hs',ha',hb'⟩:=hyd5 k1 k2 hs ha hb;clear hb ha hs k2 k1 k0 hle hsb hsa hvb0 hva0 hvb hva
 by_cases hb0:b=0
 ·have h9:sg9=0:=by rw[←hsg9];exact rsgn_zero.2 hb0
  have hdv:divE a b= .error 11:=by unfold divE;rw[if_pos hb0]
  subst h9;have hpost:∀(e:Ending) (W':World),(Le w W'∧e= .panicked (flt 11))→(Le w W'∧((∃r v,divE a b=outR r∧e= .returned v∧RatL (fun _=>True) .u32 W' v r)∨(∃c,divE a b= .error c∧e= .panicked (flt c)))):=fun e W' ⟨h1,h2⟩=>⟨h1,.inr ⟨11,hdv,h2⟩⟩;refine Calls.mono ?_ hpost;clear hpost;have⟨hb0',hdv',hsg9'⟩:=hyd3 hb0 hdv hsg9;clear hsg9 hdv hb0;go_enter Tryz.func61,Tryz.ntmps61;go_wp2_with (fail);clear hW0;go_at_call 60;refine hs'.out.mono ?_;rintro e W1 ⟨rfl,hle1⟩;have hle2:=hle'.out.trans hle1;have⟨hle1',hle2'⟩:=hyd2 hle1 hle2;clear hle2 hle1;go_wp2_with (fail);go_at_call 48;refine(qAY _ _).mono ?_;rintro e W2 ⟨rfl,rfl⟩;go_wp2_with (fail);exact⟨rfl,hle2'.out,rfl⟩
 ·have h9:(sg9 != 0)=true:=by have:¬sg9=0:=fun h=>hb0 (rsgn_zero.1 (hsg9.trans h));simpa using this
  have h10:¬sg9=0:=fun h=>hb0 (rsgn_zero.1 (hsg9.trans h));have h11:(sg9==0)=false:=beq_eq_false_iff_ne.2 h10;have hdv:divE a b=outR (a / b):=by unfold divE;rw[if_neg hb0]
  obtain⟨R,hR⟩:∃R,a / b=R:=⟨_,rfl⟩;rw[hR]at hdv;have hpost:∀(e:Ending) (W':World),(Le w W'∧∃v,e= .returned v∧RatL (fun _=>True) .u32 W' v R)→(Le w W'∧((∃r v,divE a b=outR r∧e= .returned v∧RatL (fun _=>True) .u32 W' v r)∨(∃c,divE a b= .error c∧e= .panicked (flt c)))):=fun e W' ⟨h1,v,h2,h3⟩=>⟨h1,.inl ⟨R,v,hdv,h2,h3⟩⟩;refine Calls.mono ?_ hpost;clear hpost;have hb0':=hyd1 hb0;clear hb0;have⟨hdv',hsg9',hR'⟩:=hyd3 hdv hsg9 hR;clear hR hsg9 hdv;go_enter Tryz.func61,Tryz.ntmps61;go_wp2_with (fail);clear hW0;go_at_call 60;refine hs'.out.mono ?_;rintro e W1 ⟨rfl,hle1⟩;have hle2:=hle'.out.trans hle1;have k01:=(hle1.block _ (by omega)).trans k0'.out;have k11:=(hle1.block _ (by omega)).trans k1'.out;have k21:=(hle1.block _ (by omega)).trans k2'.out;clear a0 a1 a2 b0 b1 b2;obtain⟨a0,a1,a2,-⟩:=qAD k01;obtain⟨b0,b1,b2,-⟩:=qAD k11;have hov:=qEW (fun _=>True) a b _ _ W1 (Up.any _) (hva0'.out.le hle2) (hvb0'.out.le hle2) (ha'.out.up (by decide)) (hb'.out.up (by decide)) hb0'.out;rw[hR'.out]at hov;have⟨hle1',hle2',k01',k11',k21',hov'⟩:=hyd6 hle1 hle2 k01 k11 k21 hov;clear hov k21 k11 k01 hle2 hle1;go_wp2_with (fail);go_at_call 48;refine(qAX _ _).mono ?_;rintro e W2 ⟨rfl,rfl⟩;go_wp2_with (fail);go_at_call 62;refine hov'.out.mono ?_;rintro e W3 ⟨v3,rfl,hle3,hr3⟩;have hr4:=hr3;obtain⟨Cn,en,Cd,ed,rfl,-,-⟩:=hr3.form;have k23:=(hle3.block _ (gsl k21'.out)).trans k21'.out;obtain⟨z0,z1,z2,f0,f1,f2⟩:=qAD k23
  have hle9:=fun u0 u1 u2=>qAg (u0:=u0) (u1:=u1) (u2:=u2) (hle2'.out.trans hle3) (show w.heap.size≤w.heap.size+1+1 by omega);have hb9:=fun u0 u1 u2=>qAD (qA0 (u0:=u0) (u1:=u1) (u2:=u2) k23);have hfin:=fun u0 u1 u2=>RatL.box3 (u0:=u0) (u1:=u1) (u2:=u2) hr4 k23;obtain⟨sr,hsr⟩:∃sr,rneg R=sr:=⟨_,rfl⟩;rw[hsr]at hfin ⊢;have⟨hle3',hr3',hr4',k23',hle9',hb9',hfin',hsr'⟩:=hyd8 hle3 hr3 hr4 k23 hle9 hb9 hfin hsr;clear hsr hfin hb9 hle9 k23 hr4 hr3 hle3;go_wp2;obtain⟨d0,d1,d2,-⟩:=hb9'.out (.bool sr) (.slice Cn (dg (rnum R)).length en) (.slice Cd (dg R.den).length ed);exact bodyPost_ret (v:= .agg #[.bool sr,.slice Cn (dg (rnum R)).length en,.slice Cd (dg R.den).length ed]) (by simp[results,Tryz.results61,go_sem,d0,d1,d2]) rfl ⟨hle9'.out _ _ _,_,rfl,hfin'.out _ _ _⟩
theorem qMi (L:Nat→Prop) (x y:FracA) (va vb:Value) (w:World) (hL:Up w L) (h1:IsFracA (fun _=>True) w va x) (h2:IsFracA (fun _=>True) w vb y):
  Calls Tryz.prog 18 #[va,vb] w (qC1 L (opR divE x y) w):=by
 have hx0:=h1;have hy0:=h2;obtain⟨A,c,A',c',rfl,p1,p2⟩:=h1;obtain⟨B,d,B',d',rfl,q1,q2⟩:=h2;obtain⟨W0,hW0,hsz,hle,k0,k1,k2⟩:=qBF w (.cells #[.bool x.sn,.slice A x.gn.length c,.bool x.sd,.slice A' x.gd.length c'] 26) (.cells #[.bool y.sn,.slice B y.gn.length d,.bool y.sd,.slice B' y.gd.length d'] 26) (.cells #[.bool false,.slice none 0 0,.bool false,.slice none 0 0] 26);obtain⟨a0,a1,a2,a3⟩:=qAA k0;obtain⟨b0,b1,b2,b3⟩:=qAA k1;have hcall:=qDo L x y divE 61 _ _ W0 (hL.le hle) (hx0.le hle) (hy0.le hle) qL4 qMh;have⟨hL',hx0',hy0',p1',p2',q1',q2',hle'⟩:=hyd8 hL hx0 hy0 p1 p2 q1 q2 hle;have⟨k0',k1',k2',hcall'⟩:=hyd4 k0 k1 k2 hcall;clear hcall k2 k1 k0 hle q2 q1 p2 p1 hy0 hx0 hL;go_enter Tryz.func18,Tryz.ntmps18;go_wp2_with (fail);clear hW0;go_at_call 54;refine hcall'.out.mono ?_;rintro e W1 ⟨hle1,v1,cc,rfl,hres⟩;have hresF:=hres.form;obtain⟨s5,A5,n5,c5,s6,A6,n6,c6,rfl⟩:=hresF;have k9:=(hle1.block _ (gsl k2'.out)).trans k2'.out;have hle9:=fun u0 u1 u2 u3=>qAu (u0:=u0) (u1:=u1) (u2:=u2) (u3:=u3) (hle'.out.trans hle1) (show w.heap.size≤w.heap.size+1+1 by omega);have hb9:=fun u0 u1 u2 u3=>qAA (qAd (u0:=u0) (u1:=u1) (u2:=u2) (u3:=u3) k9);have hfin:=fun u0 u1 u2 u3=>IsRes.box4 (u0:=u0) (u1:=u1) (u2:=u2) (u3:=u3) hres k9;obtain⟨f0,f1,f2,f3⟩:=qAA k9;have⟨g0,g1,g2,g3⟩:=frz4 k9;have⟨hle1',hres',k9',hle9',hb9',hfin'⟩:=hyd6 hle1 hres k9 hle9 hb9 hfin
 clear hfin hb9 hle9 k9 hres hle1;go_wp2;obtain⟨d0,d1,d2,d3⟩:=hb9'.out (.bool s5) (.slice A5 n5 c5) (.bool s6) (.slice A6 n6 c6);exact bodyPost_ret (v:= .tuple #[.agg #[.bool s5,.slice A5 n5 c5,.bool s6,.slice A6 n6 c6],.int .i64 cc]) (by simp[results,Tryz.results18,go_sem,d0,d1,d2,d3]) rfl ⟨hle9'.out _ _ _ _,_,_,rfl,hfin'.out _ _ _ _⟩
theorem qIK (x y:FracA) (g:FuncId) (cap:Array Value) (w:World) (hg:qAF Tryz.prog g) (hf:∀W,Le w W→Calls Tryz.prog g cap W (qKi x y W)):
  Calls Tryz.prog 58 #[.func (.func g) #[] cap] w fun e w'=>e= .returned (.tuple #[.int .i64 (cmpV x y),.int .i64 (okE (okAF x&&okAF y))])∧Le w w':=by
 cases hb:(okAF x&&okAF y)with
 | true=>
  refine(qED g cap (cmpV x y) w hg fun W hW=>(hf W hW).mono fun e W' h=>?_).mono fun e w' h=>h;obtain⟨hle,⟨-,rfl⟩| ⟨hb2,-⟩⟩:=h
  ·exact⟨rfl,hle⟩
  ·rw[hb]at hb2;cases hb2
 | false=>
  rw[qMX hb];refine(qD7 g cap 10 w hg fun W hW=>(hf W hW).mono fun e W' h=>?_).mono fun e w' h=>h;obtain⟨hle,⟨hb2,-⟩| ⟨-,rfl⟩⟩:=h
  ·rw[hb]at hb2;cases hb2
  ·exact⟨rfl,hle⟩
theorem qBN (x y:FracA) (va vb:Value) (w:World) (h1:IsFracA (fun _=>True) w va x) (h2:IsFracA (fun _=>True) w vb y):
  Calls Tryz.prog 17 #[va,vb] w fun e w'=>e= .returned (.tuple #[.int .i64 (cmpV x y),.int .i64 (okE (okAF x&&okAF y))])∧Le w w':=by
 have hx0:=h1;have hy0:=h2;obtain⟨A,c,A',c',rfl,p1,p2⟩:=h1;obtain⟨B,d,B',d',rfl,q1,q2⟩:=h2;obtain⟨W0,hW0,hsz,hle,k0,k1⟩:=qAy w (.cells #[.bool x.sn,.slice A x.gn.length c,.bool x.sd,.slice A' x.gd.length c'] 26) (.cells #[.bool y.sn,.slice B y.gn.length d,.bool y.sd,.slice B' y.gd.length d'] 26);have hmf:∀(fn:Fn) (first cap:Array Value) (w:World),(Instr.makeFunc fn first cap).run Tryz.prog w= .ok (.func fn first cap) w:=fun _ _ _ _=>rfl
 have hrun:=qIK x y _ #[.pointer (some ⟨w.heap.size,0,none⟩),.pointer (some ⟨w.heap.size+1,0,none⟩)] W0 qIG fun W hW=>
  qKP x y _ _ _ _ W (FBox.mk hx0 (hle.trans hW) ((hW.block _ (by omega)).trans k0)) (FBox.mk hy0 (hle.trans hW) ((hW.block _ (by omega)).trans k1))
 obtain⟨cv,hcv⟩:∃cv,cmpV x y=cv:=⟨_,rfl⟩;obtain⟨ev,hev⟩:∃ev,okE (okAF x&&okAF y)=ev:=⟨_,rfl⟩;rw[hcv,hev]at hrun ⊢;have⟨hx0',hy0',p1',p2',q1',q2',hle',k0'⟩:=hyd8 hx0 hy0 p1 p2 q1 q2 hle k0;have⟨k1',hrun',hcv',hev'⟩:=hyd4 k1 hrun hcv hev;clear hev hcv hrun k1 k0 hle q2 q1 p2 p1 hy0 hx0;go_enter Tryz.func17,Tryz.ntmps17;go_wp2_with (fail);clear hW0;go_at_call 58;refine hrun'.out.mono ?_;rintro e W1 ⟨rfl,hle1⟩;have hle2:=hle'.out.trans hle1;have⟨hle1',hle2'⟩:=hyd2 hle1 hle2;clear hle2 hle1;go_wp2;go_ret2;exact⟨rfl,hle2'.out⟩
attribute [local go_sem] Oper.semAt_some
def qCd (x:FracA) (w:World) (e:Ending) (w':World):Prop:=Le w w'∧(((qAe x).2=0∧e= .returned (.int .i64 (qAe x).1))∨((qAe x).2≠0∧e= .panicked (flt (qAe x).2)))
theorem qDf (W:World) (t:TypeId):RatL (fun _=>True) .u32 ((W.alloc (.cells #[.int .u32 1] t)).alloc (.cells #[.int .u32 2] t)) (.agg #[.bool false,.slice (some ⟨W.heap.size,0,none⟩) 1 1,.slice (some ⟨W.heap.size+1,0,none⟩) 1 1]) halfR:=by
 obtain⟨h1,h2,h3⟩:=qGZ;refine⟨_,_,by rw[h1],?_,?_⟩
 ·rw[h2];exact(qDG (L:=fun _=>True) (k:= .u32) (V:=W) (g:=1) (fun _ _=>trivial) (by omega) qDy t).le (qAB _ _)
 ·rw[h3];have h:=qDG (L:=fun _=>True) (k:= .u32) (V:=W.alloc (.cells #[.int .u32 1] t)) (g:=2) (fun _ _=>trivial) (by omega) (by rw[qAO];omega) t;rw[World.size_alloc]at h;exact h
structure NearI (W0:World) (n₀ R:Nat) (t:TypeId) (Bs:List Nat) (N:Nat) (pre:List (Fin (dg N).length)) (W:World):Prop where
 kept:Kept n₀ Bs W0 W
 size:W0.heap.size≤W.heap.size
 ex:∃z:Int,W.heap[R]? =some (.cells #[.int .i64 z] t)∧(pre<+:List.finRange (dg N).length →z=(nv ((dg N).drop ((dg N).length - pre.length)):Int))
theorem NearI.from (W0:World) (n₀ R:Nat) (t:TypeId) (Bs:List Nat) (N N0:Nat) (h:W0.heap.size≤N0) (hn:n₀≤W0.heap.size) (hR:R<N0) (hBs:∀B∈Bs,B<W0.heap.size):OwnFrom N0 (NearI W0 n₀ R t Bs N):=by
 rintro s X Y row ⟨h1,hs,z,h6,h7⟩ hg hrow;refine⟨h1.trans ⟨(Below.refl _ _).grown hg (by omega) fun k e=>by have:=(hrow k e).1;omega,fun B hB=>hg.block B (by have:=hBs B hB;omega) (fun e=>by have:=(hrow _ e.symm).1;have:=hBs B hB;omega)⟩,Nat.le_trans hs hg.size,z,?_,h7⟩;exact(hg.block R (gsl h6) (fun e=>by have:=(hrow _ e.symm).1;omega)).trans h6
theorem qL5 (l:List Nat) (k:Nat) (h:k≤l.length):nv (l.drop k)≤nv l:=by
 have e:=qBf l k h;have:0<B9^k:=qES k;have:=Nat.le_mul_of_pos_left (nv (l.drop k)) this;omega
theorem qMj {N m g:Nat} {z:Int} (hN:N≤4611686018427387904) (hm:m<(dg N).length) (hg:(dg N)[m]=g) (hz:z=(nv ((dg N).drop (m+1)):Int)):wrap64 (wrap64 (z*1000000000)+(g:Int))=(nv ((dg N).drop m):Int):=by
 have e:=qCY (dg N) m hm;have hle:=qL5 (dg N) m (by omega);rw[qAl]at hle;rw[hg,qAO]at e;subst hz;have h1:wrap64 ((nv ((dg N).drop (m+1)):Int)*1000000000)=(nv ((dg N).drop (m+1)):Int)*1000000000:=IntWalk.wrap64_in _ (by omega);rw[h1];have h2:(nv ((dg N).drop (m+1)):Int)*1000000000+(g:Int)=(nv ((dg N).drop m):Int):=by omega
 rw[h2];exact IntWalk.wrap64_in _ (by omega)
theorem NearI.step {W0:World} {n₀ R:Nat} {t:TypeId} {Bs:List Nat} {N:Nat} {pre:List (Fin (dg N).length)} {x:Fin (dg N).length} {W:World} {z:Int} (hN:N≤4611686018427387904)
  (k1:Kept n₀ Bs W0 W) (k2:W0.heap.size≤W.heap.size) (h5:W.heap[R]? =some (.cells #[.int .i64 z] t)) (h6:pre<+:List.finRange (dg N).length →z=(nv ((dg N).drop ((dg N).length - pre.length)):Int))
  (m g:Nat) (hm:(dg N).length - 1 - x.1=m) (hg:(dg N)[m]?.getD 0=g) (hR:n₀≤R) (hBs:∀B∈Bs,B≠R) (N0:Nat) (aa:Act):
  ownPostG N0 (Kept n₀ Bs) (NearI W0 n₀ R t Bs N) (fun _ _ _=>False) (pre++[x]) W .normal aa (W.setCell ⟨R,0,none⟩ (.int .i64 (wrap64 (wrap64 (z*1000000000)+(g:Int))))):=by
 have hx:=x.2;have hml:m<(dg N).length :=by omega
 have hgd:(dg N)[m]=g:=by rw[←hg];simp[hml]
 have hk:Kept n₀ Bs W (W.setCell ⟨R,0,none⟩ (.int .i64 (wrap64 (wrap64 (z*1000000000)+(g:Int))))):=⟨(Below.refl _ W).setCell (p:=⟨R,0,none⟩) hR _,fun B hB=>Below.heap_setCell _ _ _ _ (hBs B hB)⟩;refine⟨(KeepsOthers.setCell _ _ _).from _,hk,k1.trans hk,by simpa[World.setCell]using k2,_,qAW h5,fun hp=>?_⟩;obtain⟨p1,p2⟩:=qCt hp;have h9:=h6 p1;rw[show(dg N).length - pre.length=m+1 by omega]at h9;rw[List.length_append,List.length_singleton,show(dg N).length - (pre.length+1)=m by omega];exact qMj hN hml hgd h9
theorem qEy:qAF Tryz.prog 64:=fun _ _=>by kernel_rfl
theorem qGj (x:FracA) (Bx:Nat) (va:Value) (w:World) (hx:FBox w Bx va x) (hr:x.rat?=none):
  Calls Tryz.prog 64 #[.pointer (some ⟨Bx,0,none⟩)] w (qCd x w):=by
 obtain⟨A,c,A',c',rfl,kx,hxa⟩:=hx;obtain⟨a0,a1,a2,a3⟩:=qAA kx;have hE:qAe x=(0,10):=by unfold qAe;rw[hr]
 have⟨kx',hxa',hr',hE'⟩:=hyd4 kx hxa hr hE;clear hE hr hxa kx;go_enter Tryz.func64,Tryz.ntmps64;go_wp2_with (fail);go_at_call 41;refine(qBC (fun _=>True) x _ w (Up.any _) hxa'.out hr'.out).mono ?_;rintro e W1 ⟨rfl,hle1⟩;go_wp2_with (fail);exact⟨rfl,hle1,.inr ⟨by rw[hE'.out];decide,by rw[hE'.out]⟩⟩
theorem qGk (x:FracA) (r:Rat) (Bx:Nat) (va:Value) (w:World) (hx:FBox w Bx va x) (hr:x.rat?=some r) (N q0 m0:Nat) (hN:qBj r=N) (hq0:rnum (r+halfR) / (r+halfR).den =q0) (hm0:rnum (r+halfR)%(r+halfR).den =m0) (hfit:4611686018427387904<N) (hsb:rneg (r+halfR)=true) (hm0p:m0≠0):
  Calls Tryz.prog 64 #[.pointer (some ⟨Bx,0,none⟩)] w (qCd x w):=by
 obtain⟨A,c,A',c',rfl,kx,hxa⟩:=hx;obtain⟨a0,a1,a2,a3⟩:=qAA kx;have hsz0:=FracA.sz hr;obtain⟨b,hb⟩:∃b,r+halfR=b:=⟨_,rfl⟩;rw[hb]at hq0 hm0 hsb;have hbs:Rsz b 2001:=by rw[←hb];exact qBW (n:=1000) (hsz0.up (by decide)) (halfR_sz.up (by decide))
 have hE:qAe x=(0,12):=by
  unfold qAe qCQ;rw[hr];simp only[hN];rw[decide_eq_false (show¬N≤4611686018427387904 by omega)]
  rfl
 have hNE:q0+1=N:=by
  rw[←hN,←hq0];unfold qBj;rw[hb,hsb];rw[hm0];rw[if_pos ⟨rfl,hm0p⟩]
 have⟨kx',hxa',hr',hN',hsz0',hb',hbs',hE'⟩:=hyd8 kx hxa hr hN hsz0 hb hbs hE;have⟨hNE',hsb',hq0',hm0'⟩:=hyd4 hNE hsb hq0 hm0;clear hm0 hq0 hsb hNE hE hbs hb hsz0 hN hr hxa kx;go_enter Tryz.func64,Tryz.ntmps64;go_wp2_with (fail);go_at_call 41;refine(qAh (fun _=>True) x r _ _ (Up.any _) hxa'.out hr'.out).mono ?_;rintro e W1 ⟨v1,rfl,hle1,hr1⟩;have hr10:=hr1;obtain⟨A1,c1,A2,c2,rfl,-,-⟩:=hr1.form;obtain⟨W2,hW2,hsz2,hle2,-,-⟩:=qAy W1 (.cells #[.int .u32 1] 92) (.cells #[.int .u32 2] 92);have hhalf:=qDf W1 92;rw[hW2]at hhalf;have hr2:=hr10.le hle2;have⟨hle1',hr1',hr10',hle2',hhalf',hr2'⟩:=hyd6 hle1 hr1 hr10 hle2 hhalf hr2;clear hr2 hhalf hle2 hr10 hr1 hle1;go_wp2_with (fail);clear hW2;go_at_call 55;refine(qBy (fun _=>True) r halfR _ _ W2 (Up.any _) hr2'.out hhalf'.out (hsz0'.out.up (by decide)) (halfR_sz.up (by decide))).mono ?_;rintro e W3 ⟨v3,rfl,hle3,hr3⟩;rw[hb'.out]at hr3;obtain⟨Bn,dn,Bd,dd,rfl,hbn,hbd⟩:=hr3.form;rw[hsb'.out];obtain⟨W4,hW4,hle4,kb⟩:=al1 W3 (.cells #[.bool true,.slice Bn (dg (rnum b)).length dn,.slice Bd (dg b.den).length dd] 70);obtain⟨d0,d1,d2,-⟩:=qAD kb;have hbn4:=hbn.le hle4;have hbd4:=hbd.le hle4;have hle04:=((hle1'.out.trans hle2'.out).trans hle3).trans hle4;have ms1:=hbs'.out.1;have ms2:=hbs'.out.2;have hd0:=Nat.ne_of_gt (qAU b);have hover:=qBl (fun _=>True) (rnum b) b.den _ _ W4 (Up.any _) hbn4 hbd4 (by omega) (by omega) hd0;rw[hq0'.out,hm0'.out]at hover
 have hlq:(dg q0).length ≤2001:=by rw[←hq0'.out];exact Nat.le_trans (qAJ (Nat.div_le_self _ _)) ms1
 have⟨hle3',hr3',hbn',hbd',hle4',kb',hbn4',hbd4'⟩:=hyd8 hle3 hr3 hbn hbd hle4 kb hbn4 hbd4;have⟨hle04',ms1',ms2',hd0',hover',hlq'⟩:=hyd6 hle04 ms1 ms2 hd0 hover hlq;clear hlq hover hd0 ms2 ms1 hle04 hbd4 hbn4 kb hle4 hbd hbn hr3 hle3;go_wp2_with (fail);clear hW4;go_at_call 65;refine hover'.out.mono ?_;rintro e W5 ⟨vq,vm,rfl,hle5,hq5,hm5⟩;obtain⟨Aq,cq,rfl⟩:=hq5.slice;obtain⟨Am,cm,rfl⟩:=hm5.slice;have kb5:=(hle5.block _ (gsl kb'.out)).trans kb'.out;clear d0 d1 d2;obtain⟨d0,d1,d2,-⟩:=qAD kb5;have hle05:=hle04'.out.trans hle5;have hl1:0<((dg m0).length :Int):=by have:=dg_length_pos.2 hm0p;omega
 have hl2:0<(dg m0).length :=dg_length_pos.2 hm0p;have hone:=qDG (L:=fun _=>True) (k:= .u32) (V:=W5) (g:=1) (fun _ _=>trivial) (by omega) qDy 92;obtain⟨W6,hW6,hle6⟩:∃W6,W5.alloc (.cells #[.int .u32 1] 92)=W6∧Le W5 W6:=⟨_,rfl,qAB _ _⟩;rw[show((1:Nat):Int)=1 from rfl,hW6]at hone;have hpl:=qGI (fun _=>True) q0 1 _ _ W6 (Up.any _) (hq5.le hle6) hone (by have:=hlq'.out;omega) (by rw[qCV];simp);rw[hNE'.out]at hpl;have⟨hle5',hq5',hm5',kb5',hle05',hone',hle6',hpl'⟩:=hyd8 hle5 hq5 hm5 kb5 hle05 hone hle6 hpl;clear hpl hle6 hone hle05 kb5 hm5 hq5 hle5;go_wp2_with (fail);clear hW6;go_at_call 66;refine hpl'.out.mono ?_;rintro e W8 ⟨v8,rfl,hle7,hq8⟩;obtain⟨A8,c8,rfl⟩:=hq8.slice;have kb8:=((hle6'.out.trans hle7).block _ (gsl kb5'.out)).trans kb5'.out;have hle08:=hle05'.out.trans (hle6'.out.trans hle7)
 have hl8:(dg N).length ≤100000000:=by
  have h1:=qCW q0 1;rw[hNE'.out]at h1;have h2:=hlq'.out;have h3:(dg 1).length =1:=by rw[qCV];rfl
  omega
 clear d0 d1 d2 hl1 hl2;have⟨hle7',hq8',kb8',hle08'⟩:=hyd4 hle7 hq8 kb8 hle08;clear hle08 kb8 hq8 hle7
 -- the number is there: q8, in W8
 obtain⟨F,hF⟩:∃F:Nat,F=4611686018427387904:=⟨_,rfl⟩;have hFi:(F:Int)=4611686018427387904:=by rw[hF];rfl
 have hsm:=qBw F W8 (by omega);rw[hFi]at hsm;have⟨hsm',hF',hFi'⟩:=hyd3 hsm hF hFi;clear hFi hF hsm;go_wp2_with (fail);go_at_call 68;refine hsm'.out.mono ?_;rintro e W9 ⟨v9,rfl,hle9,hown9⟩;have hn9:NumL (fun _=>True) .u32 W9 v9 F:=ArrL.of_own hown9 (fun _ _=>trivial);obtain⟨A9,c9,rfl⟩:=hn9.slice;have hq9:=hq8'.out.le hle9;have hcmp:=qBL (fun _=>True) N F _ _ W9 hq9 hn9 (by omega) (Nat.le_trans (qCu (by have:=hF'.out;omega)) (by decide));have kb9:=(Below.block hle9 _ (gsl kb8'.out)).trans kb8'.out;have hle09:=hle08'.out.trans hle9;have⟨hle9',hown9',hn9',hq9',hcmp',kb9',hle09'⟩:=hyd7 hle9 hown9 hn9 hq9 hcmp kb9 hle09;clear hle09 kb9 hcmp hq9 hn9 hown9 hle9;go_wp2_with (fail);go_at_call 67;refine hcmp'.out.mono ?_;rintro e W10 ⟨cc,rfl,hle10,hc1,hc2⟩;have kb10:=(Below.block hle10 _ (gsl kb9'.out)).trans kb9'.out;have hle010:=hle09'.out.trans hle10;have hq10:=hq9'.out.le hle10;obtain⟨e0,e1,e2,-⟩:=qAD kb10
 have hcd:cc≤0↔N≤4611686018427387904:=by
  have hF:=hF'.out;constructor
  ·intro h
   rcases Int.lt_or_eq_of_le h with h|h
   ·have:=hc1.1 h;omega
   ·have:=hc2.1 h;omega
  ·intro h
   rcases Nat.lt_or_eq_of_le h with h|h
   ·have:=hc1.2 (by omega);omega
   ·have:=hc2.2 (by omega);omega
 have hcn:decide (cc≤0)=false:=decide_eq_false (fun h=>absurd (hcd.1 h) (by omega));have⟨hle10',hc1',hc2',kb10',hle010',hq10',hcd'⟩:=hyd7 hle10 hc1 hc2 kb10 hle010 hq10 hcd;clear hcd hq10 hle010 kb10 hc2 hc1 hle10;go_wp2_with (fail);go_at_call 48;refine(qAY _ _).mono ?_;rintro e W11 ⟨rfl,rfl⟩;go_wp2_with (fail);exact⟨rfl,hle010'.out,.inr ⟨by rw[hE'.out];decide,by rw[hE'.out]⟩⟩
theorem qGl (x:FracA) (r:Rat) (Bx:Nat) (va:Value) (w:World) (hx:FBox w Bx va x) (hr:x.rat?=some r) (N q0 m0:Nat) (hN:qBj r=N) (hq0:rnum (r+halfR) / (r+halfR).den =q0) (hm0:rnum (r+halfR)%(r+halfR).den =m0) (hfit:4611686018427387904<N) (hsb:rneg (r+halfR)=false):
  Calls Tryz.prog 64 #[.pointer (some ⟨Bx,0,none⟩)] w (qCd x w):=by
 obtain⟨A,c,A',c',rfl,kx,hxa⟩:=hx;obtain⟨a0,a1,a2,a3⟩:=qAA kx;have hsz0:=FracA.sz hr;obtain⟨b,hb⟩:∃b,r+halfR=b:=⟨_,rfl⟩;rw[hb]at hq0 hm0 hsb;have hbs:Rsz b 2001:=by rw[←hb];exact qBW (n:=1000) (hsz0.up (by decide)) (halfR_sz.up (by decide))
 have hE:qAe x=(0,12):=by
  unfold qAe qCQ;rw[hr];simp only[hN];rw[decide_eq_false (show¬N≤4611686018427387904 by omega)]
  rfl
 have hNE:q0=N:=by
  rw[←hN,←hq0];unfold qBj;rw[hb,hsb];rw[if_neg (by simp)];rfl
 obtain rfl:N=q0:=hNE.symm;have⟨kx',hxa',hr',hN',hsz0',hb',hbs',hE'⟩:=hyd8 kx hxa hr hN hsz0 hb hbs hE;have⟨hNE',hsb',hq0',hm0'⟩:=hyd4 hNE hsb hq0 hm0;clear hm0 hq0 hsb hNE hE hbs hb hsz0 hN hr hxa kx;go_enter Tryz.func64,Tryz.ntmps64;go_wp2_with (fail);go_at_call 41;refine(qAh (fun _=>True) x r _ _ (Up.any _) hxa'.out hr'.out).mono ?_;rintro e W1 ⟨v1,rfl,hle1,hr1⟩;have hr10:=hr1;obtain⟨A1,c1,A2,c2,rfl,-,-⟩:=hr1.form;obtain⟨W2,hW2,hsz2,hle2,-,-⟩:=qAy W1 (.cells #[.int .u32 1] 92) (.cells #[.int .u32 2] 92);have hhalf:=qDf W1 92;rw[hW2]at hhalf;have hr2:=hr10.le hle2;have⟨hle1',hr1',hr10',hle2',hhalf',hr2'⟩:=hyd6 hle1 hr1 hr10 hle2 hhalf hr2;clear hr2 hhalf hle2 hr10 hr1 hle1;go_wp2_with (fail);clear hW2;go_at_call 55;refine(qBy (fun _=>True) r halfR _ _ W2 (Up.any _) hr2'.out hhalf'.out (hsz0'.out.up (by decide)) (halfR_sz.up (by decide))).mono ?_;rintro e W3 ⟨v3,rfl,hle3,hr3⟩;rw[hb'.out]at hr3;obtain⟨Bn,dn,Bd,dd,rfl,hbn,hbd⟩:=hr3.form;rw[hsb'.out];obtain⟨W4,hW4,hle4,kb⟩:=al1 W3 (.cells #[.bool false,.slice Bn (dg (rnum b)).length dn,.slice Bd (dg b.den).length dd] 70);obtain⟨d0,d1,d2,-⟩:=qAD kb;have hbn4:=hbn.le hle4;have hbd4:=hbd.le hle4;have hle04:=((hle1'.out.trans hle2'.out).trans hle3).trans hle4;have ms1:=hbs'.out.1;have ms2:=hbs'.out.2;have hd0:=Nat.ne_of_gt (qAU b);have hover:=qBl (fun _=>True) (rnum b) b.den _ _ W4 (Up.any _) hbn4 hbd4 (by omega) (by omega) hd0
 rw[hq0'.out,hm0'.out]at hover;have hlq:(dg N).length ≤2001:=by rw[←hq0'.out];exact Nat.le_trans (qAJ (Nat.div_le_self _ _)) ms1
 have⟨hle3',hr3',hbn',hbd',hle4',kb',hbn4',hbd4'⟩:=hyd8 hle3 hr3 hbn hbd hle4 kb hbn4 hbd4;have⟨hle04',ms1',ms2',hd0',hover',hlq'⟩:=hyd6 hle04 ms1 ms2 hd0 hover hlq;clear hlq hover hd0 ms2 ms1 hle04 hbd4 hbn4 kb hle4 hbd hbn hr3 hle3;go_wp2_with (fail);clear hW4;go_at_call 65;refine hover'.out.mono ?_;rintro e W5 ⟨vq,vm,rfl,hle5,hq5,hm5⟩;obtain⟨Aq,cq,rfl⟩:=hq5.slice;obtain⟨Am,cm,rfl⟩:=hm5.slice;have kb5:=(hle5.block _ (gsl kb'.out)).trans kb'.out;clear d0 d1 d2;obtain⟨d0,d1,d2,-⟩:=qAD kb5;have hle05:=hle04'.out.trans hle5;have hl8:(dg N).length ≤100000000:=by have:=hlq'.out;omega
 have hq8:=hq5;have kb8:=kb5;have hle08:=hle05;have⟨hle5',hq5',hm5',kb5',hle05',hq8',kb8',hle08'⟩:=hyd8 hle5 hq5 hm5 kb5 hle05 hq8 kb8 hle08;clear hle08 kb8 hq8 hle05 kb5 hm5 hq5 hle5
 -- the number is there: q8, in W5
 obtain⟨F,hF⟩:∃F:Nat,F=4611686018427387904:=⟨_,rfl⟩;have hFi:(F:Int)=4611686018427387904:=by rw[hF];rfl
 have hsm:=qBw F W5 (by omega);rw[hFi]at hsm;have⟨hsm',hF',hFi'⟩:=hyd3 hsm hF hFi;clear hFi hF hsm;go_wp2_with (fail);go_at_call 68;refine hsm'.out.mono ?_;rintro e W9 ⟨v9,rfl,hle9,hown9⟩;have hn9:NumL (fun _=>True) .u32 W9 v9 F:=ArrL.of_own hown9 (fun _ _=>trivial);obtain⟨A9,c9,rfl⟩:=hn9.slice;have hq9:=hq8'.out.le hle9;have hcmp:=qBL (fun _=>True) N F _ _ W9 hq9 hn9 (by omega) (Nat.le_trans (qCu (by have:=hF'.out;omega)) (by decide));have kb9:=(Below.block hle9 _ (gsl kb8'.out)).trans kb8'.out;have hle09:=hle08'.out.trans hle9;have⟨hle9',hown9',hn9',hq9',hcmp',kb9',hle09'⟩:=hyd7 hle9 hown9 hn9 hq9 hcmp kb9 hle09;clear hle09 kb9 hcmp hq9 hn9 hown9 hle9;go_wp2_with (fail);go_at_call 67;refine hcmp'.out.mono ?_;rintro e W10 ⟨cc,rfl,hle10,hc1,hc2⟩;have kb10:=(Below.block hle10 _ (gsl kb9'.out)).trans kb9'.out;have hle010:=hle09'.out.trans hle10;have hq10:=hq9'.out.le hle10;obtain⟨e0,e1,e2,-⟩:=qAD kb10
 have hcd:cc≤0↔N≤4611686018427387904:=by
  have hF:=hF'.out;constructor
  ·intro h
   rcases Int.lt_or_eq_of_le h with h|h
   ·have:=hc1.1 h;omega
   ·have:=hc2.1 h;omega
  ·intro h
   rcases Nat.lt_or_eq_of_le h with h|h
   ·have:=hc1.2 (by omega);omega
   ·have:=hc2.2 (by omega);omega
 have hcn:decide (cc≤0)=false:=decide_eq_false (fun h=>absurd (hcd.1 h) (by omega));have⟨hle10',hc1',hc2',kb10',hle010',hq10',hcd'⟩:=hyd7 hle10 hc1 hc2 kb10 hle010 hq10 hcd;clear hcd hq10 hle010 kb10 hc2 hc1 hle10;go_wp2_with (fail);go_at_call 48;refine(qAY _ _).mono ?_;rintro e W11 ⟨rfl,rfl⟩;go_wp2_with (fail);exact⟨rfl,hle010'.out,.inr ⟨by rw[hE'.out];decide,by rw[hE'.out]⟩⟩
theorem qGm (x:FracA) (r:Rat) (Bx:Nat) (va:Value) (w:World) (hx:FBox w Bx va x) (hr:x.rat?=some r) (N q0 m0:Nat) (hN:qBj r=N) (hq0:rnum (r+halfR) / (r+halfR).den =q0) (hm0:rnum (r+halfR)%(r+halfR).den =m0) (hfit:4611686018427387904<N) (hsb:rneg (r+halfR)=true) (hm0p:m0=0):
  Calls Tryz.prog 64 #[.pointer (some ⟨Bx,0,none⟩)] w (qCd x w):=by
 obtain⟨A,c,A',c',rfl,kx,hxa⟩:=hx;obtain⟨a0,a1,a2,a3⟩:=qAA kx;have hsz0:=FracA.sz hr;obtain⟨b,hb⟩:∃b,r+halfR=b:=⟨_,rfl⟩;rw[hb]at hq0 hm0 hsb;have hbs:Rsz b 2001:=by rw[←hb];exact qBW (n:=1000) (hsz0.up (by decide)) (halfR_sz.up (by decide))
 have hE:qAe x=(0,12):=by
  unfold qAe qCQ;rw[hr];simp only[hN];rw[decide_eq_false (show¬N≤4611686018427387904 by omega)]
  rfl
 have hNE:q0=N:=by
  rw[←hN,←hq0];unfold qBj;rw[hb,hsb];rw[hm0,if_neg (by rw[hm0p];simp)];rfl
 obtain rfl:N=q0:=hNE.symm;have⟨kx',hxa',hr',hN',hsz0',hb',hbs',hE'⟩:=hyd8 kx hxa hr hN hsz0 hb hbs hE;have⟨hNE',hsb',hq0',hm0'⟩:=hyd4 hNE hsb hq0 hm0;clear hm0 hq0 hsb hNE hE hbs hb hsz0 hN hr hxa kx;go_enter Tryz.func64,Tryz.ntmps64;go_wp2_with (fail);go_at_call 41;refine(qAh (fun _=>True) x r _ _ (Up.any _) hxa'.out hr'.out).mono ?_;rintro e W1 ⟨v1,rfl,hle1,hr1⟩;have hr10:=hr1;obtain⟨A1,c1,A2,c2,rfl,-,-⟩:=hr1.form;obtain⟨W2,hW2,hsz2,hle2,-,-⟩:=qAy W1 (.cells #[.int .u32 1] 92) (.cells #[.int .u32 2] 92);have hhalf:=qDf W1 92;rw[hW2]at hhalf;have hr2:=hr10.le hle2;have⟨hle1',hr1',hr10',hle2',hhalf',hr2'⟩:=hyd6 hle1 hr1 hr10 hle2 hhalf hr2;clear hr2 hhalf hle2 hr10 hr1 hle1;go_wp2_with (fail);clear hW2;go_at_call 55;refine(qBy (fun _=>True) r halfR _ _ W2 (Up.any _) hr2'.out hhalf'.out (hsz0'.out.up (by decide)) (halfR_sz.up (by decide))).mono ?_;rintro e W3 ⟨v3,rfl,hle3,hr3⟩;rw[hb'.out]at hr3;obtain⟨Bn,dn,Bd,dd,rfl,hbn,hbd⟩:=hr3.form;rw[hsb'.out];obtain⟨W4,hW4,hle4,kb⟩:=al1 W3 (.cells #[.bool true,.slice Bn (dg (rnum b)).length dn,.slice Bd (dg b.den).length dd] 70);obtain⟨d0,d1,d2,-⟩:=qAD kb;have hbn4:=hbn.le hle4;have hbd4:=hbd.le hle4;have hle04:=((hle1'.out.trans hle2'.out).trans hle3).trans hle4;have ms1:=hbs'.out.1;have ms2:=hbs'.out.2;have hd0:=Nat.ne_of_gt (qAU b);have hover:=qBl (fun _=>True) (rnum b) b.den _ _ W4 (Up.any _) hbn4 hbd4 (by omega) (by omega) hd0
 rw[hq0'.out,hm0'.out]at hover;have hlq:(dg N).length ≤2001:=by rw[←hq0'.out];exact Nat.le_trans (qAJ (Nat.div_le_self _ _)) ms1
 have⟨hle3',hr3',hbn',hbd',hle4',kb',hbn4',hbd4'⟩:=hyd8 hle3 hr3 hbn hbd hle4 kb hbn4 hbd4;have⟨hle04',ms1',ms2',hd0',hover',hlq'⟩:=hyd6 hle04 ms1 ms2 hd0 hover hlq;clear hlq hover hd0 ms2 ms1 hle04 hbd4 hbn4 kb hle4 hbd hbn hr3 hle3;go_wp2_with (fail);clear hW4;go_at_call 65;refine hover'.out.mono ?_;rintro e W5 ⟨vq,vm,rfl,hle5,hq5,hm5⟩;obtain⟨Aq,cq,rfl⟩:=hq5.slice;obtain⟨Am,cm,rfl⟩:=hm5.slice;have kb5:=(hle5.block _ (gsl kb'.out)).trans kb'.out;clear d0 d1 d2;obtain⟨d0,d1,d2,-⟩:=qAD kb5;have hle05:=hle04'.out.trans hle5;have hl8:(dg N).length ≤100000000:=by have:=hlq'.out;omega
 have hq8:=hq5;have kb8:=kb5;have hle08:=hle05;have hl1:(dg m0).length =0:=by rw[hm0p,qA4];rfl
 rw[hl1];clear hl1;have⟨hle5',hq5',hm5',kb5',hle05',hq8',kb8',hle08'⟩:=hyd8 hle5 hq5 hm5 kb5 hle05 hq8 kb8 hle08;clear hle08 kb8 hq8 hle05 kb5 hm5 hq5 hle5
 -- the number is there: q8, in W5
 obtain⟨F,hF⟩:∃F:Nat,F=4611686018427387904:=⟨_,rfl⟩;have hFi:(F:Int)=4611686018427387904:=by rw[hF];rfl
 have hsm:=qBw F W5 (by omega);rw[hFi]at hsm;have⟨hsm',hF',hFi'⟩:=hyd3 hsm hF hFi;clear hFi hF hsm;go_wp2_with (fail);go_at_call 68;refine hsm'.out.mono ?_;rintro e W9 ⟨v9,rfl,hle9,hown9⟩;have hn9:NumL (fun _=>True) .u32 W9 v9 F:=ArrL.of_own hown9 (fun _ _=>trivial);obtain⟨A9,c9,rfl⟩:=hn9.slice;have hq9:=hq8'.out.le hle9;have hcmp:=qBL (fun _=>True) N F _ _ W9 hq9 hn9 (by omega) (Nat.le_trans (qCu (by have:=hF'.out;omega)) (by decide));have kb9:=(Below.block hle9 _ (gsl kb8'.out)).trans kb8'.out;have hle09:=hle08'.out.trans hle9;have⟨hle9',hown9',hn9',hq9',hcmp',kb9',hle09'⟩:=hyd7 hle9 hown9 hn9 hq9 hcmp kb9 hle09;clear hle09 kb9 hcmp hq9 hn9 hown9 hle9;go_wp2_with (fail);go_at_call 67;refine hcmp'.out.mono ?_;rintro e W10 ⟨cc,rfl,hle10,hc1,hc2⟩;have kb10:=(Below.block hle10 _ (gsl kb9'.out)).trans kb9'.out;have hle010:=hle09'.out.trans hle10;have hq10:=hq9'.out.le hle10;obtain⟨e0,e1,e2,-⟩:=qAD kb10
 have hcd:cc≤0↔N≤4611686018427387904:=by
  have hF:=hF'.out;constructor
  ·intro h
   rcases Int.lt_or_eq_of_le h with h|h
   ·have:=hc1.1 h;omega
   ·have:=hc2.1 h;omega
  ·intro h
   rcases Nat.lt_or_eq_of_le h with h|h
   ·have:=hc1.2 (by omega);omega
   ·have:=hc2.2 (by omega);omega
 have hcn:decide (cc≤0)=false:=decide_eq_false (fun h=>absurd (hcd.1 h) (by omega));have⟨hle10',hc1',hc2',kb10',hle010',hq10',hcd'⟩:=hyd7 hle10 hc1 hc2 kb10 hle010 hq10 hcd;clear hcd hq10 hle010 kb10 hc2 hc1 hle10;go_wp2_with (fail);go_at_call 48;refine(qAY _ _).mono ?_;rintro e W11 ⟨rfl,rfl⟩;go_wp2_with (fail);exact⟨rfl,hle010'.out,.inr ⟨by rw[hE'.out];decide,by rw[hE'.out]⟩⟩
theorem qGn (x:FracA) (r:Rat) (Bx:Nat) (va:Value) (w:World) (hx:FBox w Bx va x) (hr:x.rat?=some r) (N q0 m0:Nat) (hN:qBj r=N) (hq0:rnum (r+halfR) / (r+halfR).den =q0) (hm0:rnum (r+halfR)%(r+halfR).den =m0) (hfit:N≤4611686018427387904) (hsb:rneg (r+halfR)=true) (hm0p:m0≠0):
  Calls Tryz.prog 64 #[.pointer (some ⟨Bx,0,none⟩)] w (qCd x w):=by
 obtain⟨A,c,A',c',rfl,kx,hxa⟩:=hx;obtain⟨a0,a1,a2,a3⟩:=qAA kx;have hsz0:=FracA.sz hr;obtain⟨b,hb⟩:∃b,r+halfR=b:=⟨_,rfl⟩;rw[hb]at hq0 hm0 hsb;have hbs:Rsz b 2001:=by rw[←hb];exact qBW (n:=1000) (hsz0.up (by decide)) (halfR_sz.up (by decide))
 have hE:qAe x=(sg true N,0):=by
  unfold qAe qCQ;rw[hr];simp only[hN];rw[decide_eq_true hfit];simp only[if_true];unfold qGK;rw[hN,if_pos hfit,hb,hsb]
 have hNE:q0+1=N:=by
  rw[←hN,←hq0];unfold qBj;rw[hb,hsb];rw[hm0];rw[if_pos ⟨rfl,hm0p⟩]
 have⟨kx',hxa',hr',hN',hsz0',hb',hbs',hE'⟩:=hyd8 kx hxa hr hN hsz0 hb hbs hE;have⟨hNE',hsb',hq0',hm0'⟩:=hyd4 hNE hsb hq0 hm0;clear hm0 hq0 hsb hNE hE hbs hb hsz0 hN hr hxa kx;refine(callsIn_wide (n:=5)).1 ?_;refine callsIn_of_wp_marks Tryz.func64 rfl trivial ?_ rfl;simp only[Tryz.ntmps64,List.size_toArray,List.length_cons,List.length_nil,Nat.reduceAdd,Nat.reduceSub,Array.replicate_succ,Array.replicate_zero,List.push_toArray,List.append_toArray,List.nil_append,List.cons_append];refine wpIn_wide.2 ?_;go_wp2_with (fail);go_at_call 41;refine(qAh (fun _=>True) x r _ _ (Up.any _) hxa'.out hr'.out).mono ?_;rintro e W1 ⟨v1,rfl,hle1,hr1⟩;have hr10:=hr1;obtain⟨A1,c1,A2,c2,rfl,-,-⟩:=hr1.form;obtain⟨W2,hW2,hsz2,hle2,-,-⟩:=qAy W1 (.cells #[.int .u32 1] 92) (.cells #[.int .u32 2] 92);have hhalf:=qDf W1 92;rw[hW2]at hhalf;have hr2:=hr10.le hle2;have⟨hle1',hr1',hr10',hle2',hhalf',hr2'⟩:=hyd6 hle1 hr1 hr10 hle2 hhalf hr2;clear hr2 hhalf hle2 hr10 hr1 hle1;go_wp2_with (fail);clear hW2;go_at_call 55;refine(qBy (fun _=>True) r halfR _ _ W2 (Up.any _) hr2'.out hhalf'.out (hsz0'.out.up (by decide)) (halfR_sz.up (by decide))).mono ?_;rintro e W3 ⟨v3,rfl,hle3,hr3⟩;rw[hb'.out]at hr3;obtain⟨Bn,dn,Bd,dd,rfl,hbn,hbd⟩:=hr3.form;rw[hsb'.out];obtain⟨W4,hW4,hle4,kb⟩:=al1 W3 (.cells #[.bool true,.slice Bn (dg (rnum b)).length dn,.slice Bd (dg b.den).length dd] 70);obtain⟨d0,d1,d2,-⟩:=qAD kb;have hbn4:=hbn.le hle4
 have hbd4:=hbd.le hle4;have hle04:=((hle1'.out.trans hle2'.out).trans hle3).trans hle4;have ms1:=hbs'.out.1;have ms2:=hbs'.out.2;have hd0:=Nat.ne_of_gt (qAU b);have hover:=qBl (fun _=>True) (rnum b) b.den _ _ W4 (Up.any _) hbn4 hbd4 (by omega) (by omega) hd0;rw[hq0'.out,hm0'.out]at hover;have hlq:(dg q0).length ≤2001:=by rw[←hq0'.out];exact Nat.le_trans (qAJ (Nat.div_le_self _ _)) ms1
 have⟨hle3',hr3',hbn',hbd',hle4',kb',hbn4',hbd4'⟩:=hyd8 hle3 hr3 hbn hbd hle4 kb hbn4 hbd4;have⟨hle04',ms1',ms2',hd0',hover',hlq'⟩:=hyd6 hle04 ms1 ms2 hd0 hover hlq;clear hlq hover hd0 ms2 ms1 hle04 hbd4 hbn4 kb hle4 hbd hbn hr3 hle3;go_wp2_with (fail);clear hW4;go_at_call 65;refine hover'.out.mono ?_;rintro e W5 ⟨vq,vm,rfl,hle5,hq5,hm5⟩;obtain⟨Aq,cq,rfl⟩:=hq5.slice;obtain⟨Am,cm,rfl⟩:=hm5.slice;have kb5:=(hle5.block _ (gsl kb'.out)).trans kb'.out;clear d0 d1 d2;obtain⟨d0,d1,d2,-⟩:=qAD kb5;have hle05:=hle04'.out.trans hle5;have hl1:0<((dg m0).length :Int):=by have:=dg_length_pos.2 hm0p;omega
 have hl2:0<(dg m0).length :=dg_length_pos.2 hm0p;have hone:=qDG (L:=fun _=>True) (k:= .u32) (V:=W5) (g:=1) (fun _ _=>trivial) (by omega) qDy 92;obtain⟨W6,hW6,hle6⟩:∃W6,W5.alloc (.cells #[.int .u32 1] 92)=W6∧Le W5 W6:=⟨_,rfl,qAB _ _⟩;rw[show((1:Nat):Int)=1 from rfl,hW6]at hone;have hpl:=qGI (fun _=>True) q0 1 _ _ W6 (Up.any _) (hq5.le hle6) hone (by have:=hlq'.out;omega) (by rw[qCV];simp);rw[hNE'.out]at hpl;have⟨hle5',hq5',hm5',kb5',hle05',hone',hle6',hpl'⟩:=hyd8 hle5 hq5 hm5 kb5 hle05 hone hle6 hpl;clear hpl hle6 hone hle05 kb5 hm5 hq5 hle5;go_wp2_with (fail);clear hW6;go_at_call 66;refine hpl'.out.mono ?_;rintro e W8 ⟨v8,rfl,hle7,hq8⟩;obtain⟨A8,c8,rfl⟩:=hq8.slice;have kb8:=((hle6'.out.trans hle7).block _ (gsl kb5'.out)).trans kb5'.out;have hle08:=hle05'.out.trans (hle6'.out.trans hle7)
 have hl8:(dg N).length ≤100000000:=by
  have h1:=qCW q0 1;rw[hNE'.out]at h1;have h2:=hlq'.out;have h3:(dg 1).length =1:=by rw[qCV];rfl
  omega
 clear d0 d1 d2 hl1 hl2;have⟨hle7',hq8',kb8',hle08'⟩:=hyd4 hle7 hq8 kb8 hle08;clear hle08 kb8 hq8 hle7
 -- the number is there: q8, in W8
 obtain⟨F,hF⟩:∃F:Nat,F=4611686018427387904:=⟨_,rfl⟩;have hFi:(F:Int)=4611686018427387904:=by rw[hF];rfl
 have hsm:=qBw F W8 (by omega);rw[hFi]at hsm;have⟨hsm',hF',hFi'⟩:=hyd3 hsm hF hFi;clear hFi hF hsm;go_wp2_with (fail);go_at_call 68;refine hsm'.out.mono ?_;rintro e W9 ⟨v9,rfl,hle9,hown9⟩;have hn9:NumL (fun _=>True) .u32 W9 v9 F:=ArrL.of_own hown9 (fun _ _=>trivial);obtain⟨A9,c9,rfl⟩:=hn9.slice;have hq9:=hq8'.out.le hle9;have hcmp:=qBL (fun _=>True) N F _ _ W9 hq9 hn9 (by omega) (Nat.le_trans (qCu (by have:=hF'.out;omega)) (by decide));have kb9:=(Below.block hle9 _ (gsl kb8'.out)).trans kb8'.out;have hle09:=hle08'.out.trans hle9;have⟨hle9',hown9',hn9',hq9',hcmp',kb9',hle09'⟩:=hyd7 hle9 hown9 hn9 hq9 hcmp kb9 hle09;clear hle09 kb9 hcmp hq9 hn9 hown9 hle9;go_wp2_with (fail);go_at_call 67;refine hcmp'.out.mono ?_;rintro e W10 ⟨cc,rfl,hle10,hc1,hc2⟩;have kb10:=(Below.block hle10 _ (gsl kb9'.out)).trans kb9'.out;have hle010:=hle09'.out.trans hle10;have hq10:=hq9'.out.le hle10;obtain⟨e0,e1,e2,-⟩:=qAD kb10
 have hcd:cc≤0↔N≤4611686018427387904:=by
  have hF:=hF'.out;constructor
  ·intro h
   rcases Int.lt_or_eq_of_le h with h|h
   ·have:=hc1.1 h;omega
   ·have:=hc2.1 h;omega
  ·intro h
   rcases Nat.lt_or_eq_of_le h with h|h
   ·have:=hc1.2 (by omega);omega
   ·have:=hc2.2 (by omega);omega
 have hcn:cc≤0:=hcd.2 hfit;have⟨hle10',hc1',hc2',kb10',hle010',hq10',hcd'⟩:=hyd7 hle10 hc1 hc2 kb10 hle010 hq10 hcd;clear hcd hq10 hle010 kb10 hc2 hc1 hle10;go_wp2_with (fail);go_at_call 48;refine(qAX _ _).mono ?_;rintro e W11 ⟨rfl,rfl⟩;go_wp2_with (first | (go_at_call 69;((with_reducible refine(qBx _ _ _ _).mono ?_);rintro e w' ⟨rfl,rfl⟩)));obtain⟨W0,hW0,hsz,hBW,h0,h1⟩:=qAy W10 (.cells #[.int .i64 0] 3) (.cells #[.slice A8 (dg N).length c8] 68);rw[hW0];clear hW0;have hyield:=qBV (dg N) _ W10 W0 (W10.heap.size+1) W10.heap.size hq10'.out.arr (by omega) (by omega) (Nat.le_refl _) hBW (qAC h1);have hkbl:=(gsl kb10'.out);have hleW0:=hle010'.out.trans hBW;have hwz:=hle010'.out.size;refine(wpIn_wide (n:=5)).1 ?_;refine wpIn_rangeFunc_ownG rfl (by omega) (gf:=122) (lb:=#[.pointer (some ⟨W10.heap.size+1,0,none⟩)]) rfl trivial (enters_of Tryz.func122 (by kernel_rfl) rfl)
  hyield Kept.trans (Kept.put (by omega) (by simp;omega)) (Below.refl _ _) (fun _=>rfl)
  (NearI W0 W10.heap.size W10.heap.size 3 [W10.heap.size+1] N) (fun _ _ _=>False) (NearI.from _ _ _ _ _ _ _ (Nat.le_refl _) (by omega) (by omega) (by simp;omega)) (fun _ _ _ _ _ hs _ _=>hs)
  ⟨Kept.refl _ _ _,Nat.le_refl _,0,h0,fun _=>by simp[nv]⟩ ?_ ?_ ?_ ?_ ?_
 rotate_left
 ·intro l x9 W K hK;dsimp only[qDu];gi_wp2;exact hK
 ·rintro l pre x9 W ⟨k1,k2,z,g5,g6⟩ hlen2;have hx9:=x9.2;obtain⟨m,hm⟩:∃m,(dg N).length - 1 - x9.1=m:=⟨_,rfl⟩;obtain⟨g,hg⟩:∃g,(dg N)[m]?.getD 0=g:=⟨_,rfl⟩
  have hgB:g<1000000000:=by
   rw[←hg,←qAO,←List.getD_eq_getElem?_getD];exact qCZ (qAq N) m
  have cR:=qAC g5;have fR:=fz0 g5 0;have hfin:=fun aa=>NearI.step (N0:=W0.heap.size) (x:=x9) hfit k1 k2 g5 g6 m g hm hg (Nat.le_refl _) (by simp) aa;rw[hm,hg];clear hyield k1 k2 g6 h0 h1;have⟨hg',hm',hfin',g5'⟩:=hyd4 hg hm hfin g5;clear g5 hfin hm hg;gi_wp2;exact hfin'.out _
 ·rintro D ys W hD rfl ⟨k1,k2,z,g5,g6⟩ hDK;have hz:=g6 (qBg _);rw[List.length_finRange,Nat.sub_self,List.drop_zero,qAl]at hz;subst hz;have cR:=qAC g5;have kbW:=((Below.trans hBW k1.1).block _ hkbl).trans kb10'.out;have hLe:Le w W:=Below.trans hleW0 (k1.1.mono (by omega));clear e0 e1 e2;obtain⟨e0,e1,e2,-⟩:=qAD kbW;have hbN:(N:Int)≤4611686018427387904:=by omega
  clear hyield k1 h0 h1 g6 g5 hBW hleW0;have⟨hDK',hLe',kbW'⟩:=hyd3 hDK hLe kbW;clear kbW hLe hDK;go_wp2;refine qBJ w.heap.size [{target:= .collected D,args:=#[]}] _ ⟨⟨D,rfl,by omega,hDK'.out,by simp⟩,trivial⟩ fun w9 hb hkeep=>?_;refine⟨_,results_tmp rfl _ _ _,Below.trans hLe'.out hb,.inl ⟨by rw[hE'.out],?_⟩⟩;rw[hE'.out]
  rfl
 ·rintro D cc9 pre W _ _ h _;exact h.elim
theorem qGo (x:FracA) (r:Rat) (Bx:Nat) (va:Value) (w:World) (hx:FBox w Bx va x) (hr:x.rat?=some r) (N q0 m0:Nat) (hN:qBj r=N) (hq0:rnum (r+halfR) / (r+halfR).den =q0) (hm0:rnum (r+halfR)%(r+halfR).den =m0) (hfit:N≤4611686018427387904) (hsb:rneg (r+halfR)=false):
  Calls Tryz.prog 64 #[.pointer (some ⟨Bx,0,none⟩)] w (qCd x w):=by
 obtain⟨A,c,A',c',rfl,kx,hxa⟩:=hx;obtain⟨a0,a1,a2,a3⟩:=qAA kx;have hsz0:=FracA.sz hr;obtain⟨b,hb⟩:∃b,r+halfR=b:=⟨_,rfl⟩;rw[hb]at hq0 hm0 hsb;have hbs:Rsz b 2001:=by rw[←hb];exact qBW (n:=1000) (hsz0.up (by decide)) (halfR_sz.up (by decide))
 have hE:qAe x=(sg false N,0):=by
  unfold qAe qCQ;rw[hr];simp only[hN];rw[decide_eq_true hfit];simp only[if_true];unfold qGK;rw[hN,if_pos hfit,hb,hsb]
 have hNE:q0=N:=by
  rw[←hN,←hq0];unfold qBj;rw[hb,hsb];rw[if_neg (by simp)];rfl
 obtain rfl:N=q0:=hNE.symm;have⟨kx',hxa',hr',hN',hsz0',hb',hbs',hE'⟩:=hyd8 kx hxa hr hN hsz0 hb hbs hE;have⟨hNE',hsb',hq0',hm0'⟩:=hyd4 hNE hsb hq0 hm0;clear hm0 hq0 hsb hNE hE hbs hb hsz0 hN hr hxa kx;refine(callsIn_wide (n:=5)).1 ?_;refine callsIn_of_wp_marks Tryz.func64 rfl trivial ?_ rfl;simp only[Tryz.ntmps64,List.size_toArray,List.length_cons,List.length_nil,Nat.reduceAdd,Nat.reduceSub,Array.replicate_succ,Array.replicate_zero,List.push_toArray,List.append_toArray,List.nil_append,List.cons_append];refine wpIn_wide.2 ?_;go_wp2_with (fail);go_at_call 41;refine(qAh (fun _=>True) x r _ _ (Up.any _) hxa'.out hr'.out).mono ?_;rintro e W1 ⟨v1,rfl,hle1,hr1⟩;have hr10:=hr1;obtain⟨A1,c1,A2,c2,rfl,-,-⟩:=hr1.form;obtain⟨W2,hW2,hsz2,hle2,-,-⟩:=qAy W1 (.cells #[.int .u32 1] 92) (.cells #[.int .u32 2] 92);have hhalf:=qDf W1 92;rw[hW2]at hhalf;have hr2:=hr10.le hle2;have⟨hle1',hr1',hr10',hle2',hhalf',hr2'⟩:=hyd6 hle1 hr1 hr10 hle2 hhalf hr2;clear hr2 hhalf hle2 hr10 hr1 hle1;go_wp2_with (fail);clear hW2;go_at_call 55;refine(qBy (fun _=>True) r halfR _ _ W2 (Up.any _) hr2'.out hhalf'.out (hsz0'.out.up (by decide)) (halfR_sz.up (by decide))).mono ?_;rintro e W3 ⟨v3,rfl,hle3,hr3⟩;rw[hb'.out]at hr3;obtain⟨Bn,dn,Bd,dd,rfl,hbn,hbd⟩:=hr3.form;rw[hsb'.out];obtain⟨W4,hW4,hle4,kb⟩:=al1 W3 (.cells #[.bool false,.slice Bn (dg (rnum b)).length dn,.slice Bd (dg b.den).length dd] 70);obtain⟨d0,d1,d2,-⟩:=qAD kb
 have hbn4:=hbn.le hle4;have hbd4:=hbd.le hle4;have hle04:=((hle1'.out.trans hle2'.out).trans hle3).trans hle4;have ms1:=hbs'.out.1;have ms2:=hbs'.out.2;have hd0:=Nat.ne_of_gt (qAU b);have hover:=qBl (fun _=>True) (rnum b) b.den _ _ W4 (Up.any _) hbn4 hbd4 (by omega) (by omega) hd0;rw[hq0'.out,hm0'.out]at hover;have hlq:(dg N).length ≤2001:=by rw[←hq0'.out];exact Nat.le_trans (qAJ (Nat.div_le_self _ _)) ms1
 have⟨hle3',hr3',hbn',hbd',hle4',kb',hbn4',hbd4'⟩:=hyd8 hle3 hr3 hbn hbd hle4 kb hbn4 hbd4;have⟨hle04',ms1',ms2',hd0',hover',hlq'⟩:=hyd6 hle04 ms1 ms2 hd0 hover hlq;clear hlq hover hd0 ms2 ms1 hle04 hbd4 hbn4 kb hle4 hbd hbn hr3 hle3;go_wp2_with (fail);clear hW4;go_at_call 65;refine hover'.out.mono ?_;rintro e W5 ⟨vq,vm,rfl,hle5,hq5,hm5⟩;obtain⟨Aq,cq,rfl⟩:=hq5.slice;obtain⟨Am,cm,rfl⟩:=hm5.slice;have kb5:=(hle5.block _ (gsl kb'.out)).trans kb'.out;clear d0 d1 d2;obtain⟨d0,d1,d2,-⟩:=qAD kb5;have hle05:=hle04'.out.trans hle5;have hl8:(dg N).length ≤100000000:=by have:=hlq'.out;omega
 have hq8:=hq5;have kb8:=kb5;have hle08:=hle05;have⟨hle5',hq5',hm5',kb5',hle05',hq8',kb8',hle08'⟩:=hyd8 hle5 hq5 hm5 kb5 hle05 hq8 kb8 hle08;clear hle08 kb8 hq8 hle05 kb5 hm5 hq5 hle5
 -- the number is there: q8, in W5
 obtain⟨F,hF⟩:∃F:Nat,F=4611686018427387904:=⟨_,rfl⟩;have hFi:(F:Int)=4611686018427387904:=by rw[hF];rfl
 have hsm:=qBw F W5 (by omega);rw[hFi]at hsm;have⟨hsm',hF',hFi'⟩:=hyd3 hsm hF hFi;clear hFi hF hsm;go_wp2_with (fail);go_at_call 68;refine hsm'.out.mono ?_;rintro e W9 ⟨v9,rfl,hle9,hown9⟩;have hn9:NumL (fun _=>True) .u32 W9 v9 F:=ArrL.of_own hown9 (fun _ _=>trivial);obtain⟨A9,c9,rfl⟩:=hn9.slice;have hq9:=hq8'.out.le hle9;have hcmp:=qBL (fun _=>True) N F _ _ W9 hq9 hn9 (by omega) (Nat.le_trans (qCu (by have:=hF'.out;omega)) (by decide));have kb9:=(Below.block hle9 _ (gsl kb8'.out)).trans kb8'.out;have hle09:=hle08'.out.trans hle9;have⟨hle9',hown9',hn9',hq9',hcmp',kb9',hle09'⟩:=hyd7 hle9 hown9 hn9 hq9 hcmp kb9 hle09;clear hle09 kb9 hcmp hq9 hn9 hown9 hle9;go_wp2_with (fail);go_at_call 67;refine hcmp'.out.mono ?_;rintro e W10 ⟨cc,rfl,hle10,hc1,hc2⟩;have kb10:=(Below.block hle10 _ (gsl kb9'.out)).trans kb9'.out;have hle010:=hle09'.out.trans hle10;have hq10:=hq9'.out.le hle10;obtain⟨e0,e1,e2,-⟩:=qAD kb10
 have hcd:cc≤0↔N≤4611686018427387904:=by
  have hF:=hF'.out;constructor
  ·intro h
   rcases Int.lt_or_eq_of_le h with h|h
   ·have:=hc1.1 h;omega
   ·have:=hc2.1 h;omega
  ·intro h
   rcases Nat.lt_or_eq_of_le h with h|h
   ·have:=hc1.2 (by omega);omega
   ·have:=hc2.2 (by omega);omega
 have hcn:cc≤0:=hcd.2 hfit;have⟨hle10',hc1',hc2',kb10',hle010',hq10',hcd'⟩:=hyd7 hle10 hc1 hc2 kb10 hle010 hq10 hcd;clear hcd hq10 hle010 kb10 hc2 hc1 hle10;go_wp2_with (fail);go_at_call 48;refine(qAX _ _).mono ?_;rintro e W11 ⟨rfl,rfl⟩;go_wp2_with (first | (go_at_call 69;((with_reducible refine(qBx _ _ _ _).mono ?_);rintro e w' ⟨rfl,rfl⟩)));obtain⟨W0,hW0,hsz,hBW,h0,h1⟩:=qAy W10 (.cells #[.int .i64 0] 3) (.cells #[.slice Aq (dg N).length cq] 68);rw[hW0];clear hW0;have hyield:=qBV (dg N) _ W10 W0 (W10.heap.size+1) W10.heap.size hq10'.out.arr (by omega) (by omega) (Nat.le_refl _) hBW (qAC h1);have hkbl:=(gsl kb10'.out);have hleW0:=hle010'.out.trans hBW;have hwz:=hle010'.out.size;refine(wpIn_wide (n:=5)).1 ?_;refine wpIn_rangeFunc_ownG rfl (by omega) (gf:=122) (lb:=#[.pointer (some ⟨W10.heap.size+1,0,none⟩)]) rfl trivial (enters_of Tryz.func122 (by kernel_rfl) rfl)
  hyield Kept.trans (Kept.put (by omega) (by simp;omega)) (Below.refl _ _) (fun _=>rfl)
  (NearI W0 W10.heap.size W10.heap.size 3 [W10.heap.size+1] N) (fun _ _ _=>False) (NearI.from _ _ _ _ _ _ _ (Nat.le_refl _) (by omega) (by omega) (by simp;omega)) (fun _ _ _ _ _ hs _ _=>hs)
  ⟨Kept.refl _ _ _,Nat.le_refl _,0,h0,fun _=>by simp[nv]⟩ ?_ ?_ ?_ ?_ ?_
 rotate_left
 ·intro l x9 W K hK;dsimp only[qDu];gi_wp2;exact hK
 ·rintro l pre x9 W ⟨k1,k2,z,g5,g6⟩ hlen2;have hx9:=x9.2;obtain⟨m,hm⟩:∃m,(dg N).length - 1 - x9.1=m:=⟨_,rfl⟩;obtain⟨g,hg⟩:∃g,(dg N)[m]?.getD 0=g:=⟨_,rfl⟩
  have hgB:g<1000000000:=by
   rw[←hg,←qAO,←List.getD_eq_getElem?_getD];exact qCZ (qAq N) m
  have cR:=qAC g5;have fR:=fz0 g5 0;have hfin:=fun aa=>NearI.step (N0:=W0.heap.size) (x:=x9) hfit k1 k2 g5 g6 m g hm hg (Nat.le_refl _) (by simp) aa;rw[hm,hg];clear hyield k1 k2 g6 h0 h1;have⟨hg',hm',hfin',g5'⟩:=hyd4 hg hm hfin g5;clear g5 hfin hm hg;gi_wp2;exact hfin'.out _
 ·rintro D ys W hD rfl ⟨k1,k2,z,g5,g6⟩ hDK;have hz:=g6 (qBg _);rw[List.length_finRange,Nat.sub_self,List.drop_zero,qAl]at hz;subst hz;have cR:=qAC g5;have kbW:=((Below.trans hBW k1.1).block _ hkbl).trans kb10'.out;have hLe:Le w W:=Below.trans hleW0 (k1.1.mono (by omega));clear e0 e1 e2;obtain⟨e0,e1,e2,-⟩:=qAD kbW;have hbN:(N:Int)≤4611686018427387904:=by omega
  clear hyield k1 h0 h1 g6 g5 hBW hleW0;have⟨hDK',hLe',kbW'⟩:=hyd3 hDK hLe kbW;clear kbW hLe hDK;go_wp2;refine qBJ w.heap.size [{target:= .collected D,args:=#[]}] _ ⟨⟨D,rfl,by omega,hDK'.out,by simp⟩,trivial⟩ fun w9 hb hkeep=>?_;refine⟨_,results_tmp rfl _ _ _,Below.trans hLe'.out hb,.inl ⟨by rw[hE'.out],?_⟩⟩;rw[hE'.out]
  rfl
 ·rintro D cc9 pre W _ _ h _;exact h.elim
theorem qGp (x:FracA) (r:Rat) (Bx:Nat) (va:Value) (w:World) (hx:FBox w Bx va x) (hr:x.rat?=some r) (N q0 m0:Nat) (hN:qBj r=N) (hq0:rnum (r+halfR) / (r+halfR).den =q0) (hm0:rnum (r+halfR)%(r+halfR).den =m0) (hfit:N≤4611686018427387904) (hsb:rneg (r+halfR)=true) (hm0p:m0=0):
  Calls Tryz.prog 64 #[.pointer (some ⟨Bx,0,none⟩)] w (qCd x w):=by
 obtain⟨A,c,A',c',rfl,kx,hxa⟩:=hx;obtain⟨a0,a1,a2,a3⟩:=qAA kx;have hsz0:=FracA.sz hr;obtain⟨b,hb⟩:∃b,r+halfR=b:=⟨_,rfl⟩;rw[hb]at hq0 hm0 hsb;have hbs:Rsz b 2001:=by rw[←hb];exact qBW (n:=1000) (hsz0.up (by decide)) (halfR_sz.up (by decide))
 have hE:qAe x=(sg true N,0):=by
  unfold qAe qCQ;rw[hr];simp only[hN];rw[decide_eq_true hfit];simp only[if_true];unfold qGK;rw[hN,if_pos hfit,hb,hsb]
 have hNE:q0=N:=by
  rw[←hN,←hq0];unfold qBj;rw[hb,hsb];rw[hm0,if_neg (by rw[hm0p];simp)];rfl
 obtain rfl:N=q0:=hNE.symm;have⟨kx',hxa',hr',hN',hsz0',hb',hbs',hE'⟩:=hyd8 kx hxa hr hN hsz0 hb hbs hE;have⟨hNE',hsb',hq0',hm0'⟩:=hyd4 hNE hsb hq0 hm0;clear hm0 hq0 hsb hNE hE hbs hb hsz0 hN hr hxa kx;refine(callsIn_wide (n:=5)).1 ?_;refine callsIn_of_wp_marks Tryz.func64 rfl trivial ?_ rfl;simp only[Tryz.ntmps64,List.size_toArray,List.length_cons,List.length_nil,Nat.reduceAdd,Nat.reduceSub,Array.replicate_succ,Array.replicate_zero,List.push_toArray,List.append_toArray,List.nil_append,List.cons_append];refine wpIn_wide.2 ?_;go_wp2_with (fail);go_at_call 41;refine(qAh (fun _=>True) x r _ _ (Up.any _) hxa'.out hr'.out).mono ?_;rintro e W1 ⟨v1,rfl,hle1,hr1⟩;have hr10:=hr1;obtain⟨A1,c1,A2,c2,rfl,-,-⟩:=hr1.form;obtain⟨W2,hW2,hsz2,hle2,-,-⟩:=qAy W1 (.cells #[.int .u32 1] 92) (.cells #[.int .u32 2] 92);have hhalf:=qDf W1 92;rw[hW2]at hhalf;have hr2:=hr10.le hle2;have⟨hle1',hr1',hr10',hle2',hhalf',hr2'⟩:=hyd6 hle1 hr1 hr10 hle2 hhalf hr2;clear hr2 hhalf hle2 hr10 hr1 hle1;go_wp2_with (fail);clear hW2;go_at_call 55;refine(qBy (fun _=>True) r halfR _ _ W2 (Up.any _) hr2'.out hhalf'.out (hsz0'.out.up (by decide)) (halfR_sz.up (by decide))).mono ?_;rintro e W3 ⟨v3,rfl,hle3,hr3⟩;rw[hb'.out]at hr3;obtain⟨Bn,dn,Bd,dd,rfl,hbn,hbd⟩:=hr3.form;rw[hsb'.out];obtain⟨W4,hW4,hle4,kb⟩:=al1 W3 (.cells #[.bool true,.slice Bn (dg (rnum b)).length dn,.slice Bd (dg b.den).length dd] 70);obtain⟨d0,d1,d2,-⟩:=qAD kb
 have hbn4:=hbn.le hle4;have hbd4:=hbd.le hle4;have hle04:=((hle1'.out.trans hle2'.out).trans hle3).trans hle4;have ms1:=hbs'.out.1;have ms2:=hbs'.out.2;have hd0:=Nat.ne_of_gt (qAU b);have hover:=qBl (fun _=>True) (rnum b) b.den _ _ W4 (Up.any _) hbn4 hbd4 (by omega) (by omega) hd0;rw[hq0'.out,hm0'.out]at hover;have hlq:(dg N).length ≤2001:=by rw[←hq0'.out];exact Nat.le_trans (qAJ (Nat.div_le_self _ _)) ms1
 have⟨hle3',hr3',hbn',hbd',hle4',kb',hbn4',hbd4'⟩:=hyd8 hle3 hr3 hbn hbd hle4 kb hbn4 hbd4;have⟨hle04',ms1',ms2',hd0',hover',hlq'⟩:=hyd6 hle04 ms1 ms2 hd0 hover hlq;clear hlq hover hd0 ms2 ms1 hle04 hbd4 hbn4 kb hle4 hbd hbn hr3 hle3;go_wp2_with (fail);clear hW4;go_at_call 65;refine hover'.out.mono ?_;rintro e W5 ⟨vq,vm,rfl,hle5,hq5,hm5⟩;obtain⟨Aq,cq,rfl⟩:=hq5.slice;obtain⟨Am,cm,rfl⟩:=hm5.slice;have kb5:=(hle5.block _ (gsl kb'.out)).trans kb'.out;clear d0 d1 d2;obtain⟨d0,d1,d2,-⟩:=qAD kb5;have hle05:=hle04'.out.trans hle5;have hl8:(dg N).length ≤100000000:=by have:=hlq'.out;omega
 have hq8:=hq5;have kb8:=kb5;have hle08:=hle05;have hl1:(dg m0).length =0:=by rw[hm0p,qA4];rfl
 rw[hl1];clear hl1;have⟨hle5',hq5',hm5',kb5',hle05',hq8',kb8',hle08'⟩:=hyd8 hle5 hq5 hm5 kb5 hle05 hq8 kb8 hle08;clear hle08 kb8 hq8 hle05 kb5 hm5 hq5 hle5
 -- the number is there: q8, in W5
 obtain⟨F,hF⟩:∃F:Nat,F=4611686018427387904:=⟨_,rfl⟩;have hFi:(F:Int)=4611686018427387904:=by rw[hF];rfl
 have hsm:=qBw F W5 (by omega);rw[hFi]at hsm;have⟨hsm',hF',hFi'⟩:=hyd3 hsm hF hFi;clear hFi hF hsm;go_wp2_with (fail);go_at_call 68;refine hsm'.out.mono ?_;rintro e W9 ⟨v9,rfl,hle9,hown9⟩;have hn9:NumL (fun _=>True) .u32 W9 v9 F:=ArrL.of_own hown9 (fun _ _=>trivial);obtain⟨A9,c9,rfl⟩:=hn9.slice;have hq9:=hq8'.out.le hle9;have hcmp:=qBL (fun _=>True) N F _ _ W9 hq9 hn9 (by omega) (Nat.le_trans (qCu (by have:=hF'.out;omega)) (by decide));have kb9:=(Below.block hle9 _ (gsl kb8'.out)).trans kb8'.out;have hle09:=hle08'.out.trans hle9;have⟨hle9',hown9',hn9',hq9',hcmp',kb9',hle09'⟩:=hyd7 hle9 hown9 hn9 hq9 hcmp kb9 hle09;clear hle09 kb9 hcmp hq9 hn9 hown9 hle9;go_wp2_with (fail);go_at_call 67;refine hcmp'.out.mono ?_;rintro e W10 ⟨cc,rfl,hle10,hc1,hc2⟩;have kb10:=(Below.block hle10 _ (gsl kb9'.out)).trans kb9'.out;have hle010:=hle09'.out.trans hle10;have hq10:=hq9'.out.le hle10;obtain⟨e0,e1,e2,-⟩:=qAD kb10
 have hcd:cc≤0↔N≤4611686018427387904:=by
  have hF:=hF'.out;constructor
  ·intro h
   rcases Int.lt_or_eq_of_le h with h|h
   ·have:=hc1.1 h;omega
   ·have:=hc2.1 h;omega
  ·intro h
   rcases Nat.lt_or_eq_of_le h with h|h
   ·have:=hc1.2 (by omega);omega
   ·have:=hc2.2 (by omega);omega
 have hcn:cc≤0:=hcd.2 hfit;have⟨hle10',hc1',hc2',kb10',hle010',hq10',hcd'⟩:=hyd7 hle10 hc1 hc2 kb10 hle010 hq10 hcd;clear hcd hq10 hle010 kb10 hc2 hc1 hle10;go_wp2_with (fail);go_at_call 48;refine(qAX _ _).mono ?_;rintro e W11 ⟨rfl,rfl⟩;go_wp2_with (first | (go_at_call 69;((with_reducible refine(qBx _ _ _ _).mono ?_);rintro e w' ⟨rfl,rfl⟩)));obtain⟨W0,hW0,hsz,hBW,h0,h1⟩:=qAy W10 (.cells #[.int .i64 0] 3) (.cells #[.slice Aq (dg N).length cq] 68);rw[hW0];clear hW0;have hyield:=qBV (dg N) _ W10 W0 (W10.heap.size+1) W10.heap.size hq10'.out.arr (by omega) (by omega) (Nat.le_refl _) hBW (qAC h1);have hkbl:=(gsl kb10'.out);have hleW0:=hle010'.out.trans hBW;have hwz:=hle010'.out.size;refine(wpIn_wide (n:=5)).1 ?_;refine wpIn_rangeFunc_ownG rfl (by omega) (gf:=122) (lb:=#[.pointer (some ⟨W10.heap.size+1,0,none⟩)]) rfl trivial (enters_of Tryz.func122 (by kernel_rfl) rfl)
  hyield Kept.trans (Kept.put (by omega) (by simp;omega)) (Below.refl _ _) (fun _=>rfl)
  (NearI W0 W10.heap.size W10.heap.size 3 [W10.heap.size+1] N) (fun _ _ _=>False) (NearI.from _ _ _ _ _ _ _ (Nat.le_refl _) (by omega) (by omega) (by simp;omega)) (fun _ _ _ _ _ hs _ _=>hs)
  ⟨Kept.refl _ _ _,Nat.le_refl _,0,h0,fun _=>by simp[nv]⟩ ?_ ?_ ?_ ?_ ?_
 rotate_left
 ·intro l x9 W K hK;dsimp only[qDu];gi_wp2;exact hK
 ·rintro l pre x9 W ⟨k1,k2,z,g5,g6⟩ hlen2;have hx9:=x9.2;obtain⟨m,hm⟩:∃m,(dg N).length - 1 - x9.1=m:=⟨_,rfl⟩;obtain⟨g,hg⟩:∃g,(dg N)[m]?.getD 0=g:=⟨_,rfl⟩
  have hgB:g<1000000000:=by
   rw[←hg,←qAO,←List.getD_eq_getElem?_getD];exact qCZ (qAq N) m
  have cR:=qAC g5;have fR:=fz0 g5 0;have hfin:=fun aa=>NearI.step (N0:=W0.heap.size) (x:=x9) hfit k1 k2 g5 g6 m g hm hg (Nat.le_refl _) (by simp) aa;rw[hm,hg];clear hyield k1 k2 g6 h0 h1;have⟨hg',hm',hfin',g5'⟩:=hyd4 hg hm hfin g5;clear g5 hfin hm hg;gi_wp2;exact hfin'.out _
 ·rintro D ys W hD rfl ⟨k1,k2,z,g5,g6⟩ hDK;have hz:=g6 (qBg _);rw[List.length_finRange,Nat.sub_self,List.drop_zero,qAl]at hz;subst hz;have cR:=qAC g5;have kbW:=((Below.trans hBW k1.1).block _ hkbl).trans kb10'.out;have hLe:Le w W:=Below.trans hleW0 (k1.1.mono (by omega));clear e0 e1 e2;obtain⟨e0,e1,e2,-⟩:=qAD kbW;have hbN:(N:Int)≤4611686018427387904:=by omega
  clear hyield k1 h0 h1 g6 g5 hBW hleW0;have⟨hDK',hLe',kbW'⟩:=hyd3 hDK hLe kbW;clear kbW hLe hDK;go_wp2;refine qBJ w.heap.size [{target:= .collected D,args:=#[]}] _ ⟨⟨D,rfl,by omega,hDK'.out,by simp⟩,trivial⟩ fun w9 hb hkeep=>?_;refine⟨_,results_tmp rfl _ _ _,Below.trans hLe'.out hb,.inl ⟨by rw[hE'.out],?_⟩⟩;rw[hE'.out]
  rfl
 ·rintro D cc9 pre W _ _ h _;exact h.elim
end Go.Proofs.YtenjpccpldajoaaGreatDoor
namespace Go.Proofs.YtenjpccpldajoaaGreatDoor
set_option maxRecDepth 100000
set_option maxHeartbeats 2000000
open Go.RowKit Go.Shelf
set_option linter.unusedVariables false
set_option linter.unusedSimpArgs false
theorem qDZ (z:Int) (hz0: -9223372036854775808≤z) (hz1:z≤9223372036854775807):Rsz (z:Rat) 3:=
 ⟨qCu (N:=z.natAbs) (by omega),by rw[show(z:Rat).den =1 from rfl,qCV];simp⟩
theorem qKk {n d:Int} (hd:d≠0) (hn0: -9223372036854775808≤n) (hn1:n≤9223372036854775807) (hd0: -9223372036854775808≤d) (hd1:d≤9223372036854775807):Rsz ((n:Rat) / (d:Rat)) 40:=
 (qOf (fun h=>hd (by exact_mod_cast h)) (qDZ n hn0 hn1) (qDZ d hd0 hd1)).up (by decide)
theorem qFL (L:Nat→Prop) (z:Int) (w:World) (hL:Up w L) (hz0: -9223372036854775808≤z) (hz1:z≤9223372036854775807):
  Calls Tryz.prog 19 #[.int .i64 z] w fun e w'=>∃v,e= .returned v∧Le w w'∧FracL L w' v (z:Rat):=by
 have hsz:=(qDZ z hz0 hz1).up (show 3≤40 by decide);have⟨hL',hsz'⟩:=hyd2 hL hsz;clear hsz hL;go_enter Tryz.func19,Tryz.ntmps19;go_wp2_with (fail);go_at_call 63;refine(qDx (fun _=>True) z _ (Up.any _) hz0 hz1).mono ?_;rintro e W1 ⟨v1,rfl,hle1,hr⟩;obtain⟨hle2,hbx⟩:=qBh hle1;have hr0:=hr;obtain⟨A1,c1,A2,c2,rfl,-,-⟩:=hr.form;have hU1:=hL'.out.le hle2;have hout:=qCK L (fun _=>True) (z:Rat) _ W1 hU1 hr0 hsz'.out;have⟨hle1',hr',hr0',hbx',hU1',hle2',hout'⟩:=hyd7 hle1 hr hr0 hbx hU1 hle2 hout;clear hout hle2 hU1 hbx hr0 hr hle1;go_wp2_with (fail);go_at_call 50;refine hout'.out.mono ?_;rintro e W2 ⟨v2,rfl,hle3,hv⟩;have hv0:=hv;obtain⟨A3,c3,A4,c4,rfl,-,-⟩:=hv;have hbx3:=(hle3.block _ (gsl hbx'.out)).trans hbx'.out;have hle9:=fun u0 u1 u2 u3=>qAu (u0:=u0) (u1:=u1) (u2:=u2) (u3:=u3) (hle2'.out.trans hle3) (Nat.le_refl _);have hb9:=fun u0 u1 u2 u3=>qAA (qAd (u0:=u0) (u1:=u1) (u2:=u2) (u3:=u3) hbx3);have hfin:=fun u0 u1 u2 u3=>FracL.box4 (u0:=u0) (u1:=u1) (u2:=u2) (u3:=u3) hv0 hbx3;obtain⟨z0,z1,z2,z3⟩:=qAA hbx3;have⟨g0,g1,g2,g3⟩:=frz4 hbx3;obtain⟨sr,hsr⟩:∃sr,rneg (z:Rat)=sr:=⟨_,rfl⟩;obtain⟨l1,hl1⟩:∃l1,(dg (rnum (z:Rat))).length =l1:=⟨_,rfl⟩;obtain⟨l2,hl2⟩:∃l2,(dg (z:Rat).den).length =l2:=⟨_,rfl⟩;rw[hsr,hl1,hl2]at hfin ⊢;have⟨hle3',hv0',hbx3',hle9',hb9',hfin',hsr',hl1'⟩:=hyd8 hle3 hv0 hbx3 hle9 hb9 hfin hsr hl1;have hl2':=hyd1 hl2
 clear hl2 hl1 hsr hfin hb9 hle9 hbx3 hv0 hle3;go_wp2;obtain⟨d0,d1,d2,d3⟩:=hb9'.out (.bool sr) (.slice A3 l1 c3) (.bool false) (.slice A4 l2 c4);exact bodyPost_ret (v:= .agg #[.bool sr,.slice A3 l1 c3,.bool false,.slice A4 l2 c4]) (by simp[results,Tryz.results19,go_sem,d0,d1,d2,d3]) rfl ⟨_,rfl,hle9'.out _ _ _ _,hfin'.out _ _ _ _⟩
theorem qJa:qAF Tryz.prog 81:=fun _ _=>by kernel_rfl
theorem qMk (L:Nat→Prop) (n d:Int) (Bn Bd:Nat) (t:TypeId) (w:World) (hL:Up w L) (hn0: -9223372036854775808≤n) (hn1:n≤9223372036854775807) (hd0: -9223372036854775808≤d) (hd1:d≤9223372036854775807) (hd:d≠0)
  (kn:w.heap[Bn]? =some (.cells #[.int .i64 n] t)) (kd:w.heap[Bd]? =some (.cells #[.int .i64 d] t)):
  Calls Tryz.prog 81 #[.pointer (some ⟨Bn,0,none⟩),.pointer (some ⟨Bd,0,none⟩)] w fun e w'=>∃v,e= .returned v∧Le w w'∧FracL L w' v ((n:Rat) / (d:Rat)):=by
 have hsz:=qKk hd hn0 hn1 hd0 hd1;obtain⟨R,hR⟩:∃R,(n:Rat) / (d:Rat)=R:=⟨_,rfl⟩;rw[hR]at hsz ⊢;obtain⟨W0,hW0,hle,k0⟩:=al1 w (.cells #[.bool false,.slice none 0 0,.bool false,.slice none 0 0] 26);have hnl:=(gsl kn);have hdl:=(gsl kd);have hkl:=(gsl k0);have cn:=qAC ((hle.block _ hnl).trans kn);have cd:=qAC ((hle.block _ hdl).trans kd);have hU0:=hL.le hle;have hs0:=hle.size;have hdr:(d:Rat)≠0:=fun h=>hd (by exact_mod_cast h);have hnsz:=qDZ n hn0 hn1;have hdsz:=qDZ d hd0 hd1;have⟨hL',hsz',hR',hle',k0',kn',kd',hU0'⟩:=hyd8 hL hsz hR hle k0 kn kd hU0;have⟨hdr',hnsz',hdsz',hd'⟩:=hyd4 hdr hnsz hdsz hd;clear hd hdsz hnsz hdr hU0 kd kn k0 hle hR hsz hL;go_enter Tryz.func81,Tryz.ntmps81;go_wp2_with (fail);clear hW0;refine qAM (R:=leRel) 6 [some 3,some 4,some 5,some 6,some 7,some 8,none] [[],[0],[],[2],[1,3],[4],[5]]
  [.eq (.int .i64 n),MPred.rat (fun _=>True) .u32 (n:Rat),.eq (.int .i64 d),MPred.rat (fun _=>True) .u32 (d:Rat),MPred.rat (fun _=>True) .u32 R,MPred.frac L R] (fun _ _=>False) (by kernel_rfl) (by kernel_rfl) (by kernel_rfl) (by kernel_rfl) (by kernel_rfl) ?_ (fun _ _ _ _ h=>h.elim) ?_
 ·simp only[List.take_succ_cons,List.take_zero];refine sMc rfl ?_ (sMc rfl ?_ (sMc rfl ?_ (sMc rfl ?_ (sMc rfl ?_ (sMc rfl ?_ (qAR))))))
  ·intro x W hR hf Q hK _;have cc:=bcl hR (by omega) cn;simp only[fA]at hK ⊢;go_wp2;exact hK _ _ lrR rfl
  ·intro x W hR hf Q hK _;obtain⟨e0,-⟩:=hf;change _=_ at e0;simp only[fA,e0]at hK ⊢;go_wp2_with (fail);go_at_call 63;refine(qDx (fun _=>True) n W (Up.any _) hn0 hn1).mono ?_;rintro e w' ⟨v',rfl,y1,y2⟩;obtain⟨A1,c1,A2,c2,e9,-,-⟩:=y2.form;subst e9;have y2':=hyd1 y2;clear y2;go_wp2;exact hK _ _ y1 y2'.out
  ·intro x W hR hf Q hK _;have cc:=bcl hR (by omega) cd;simp only[fA]at hK ⊢;go_wp2;exact hK _ _ lrR rfl
  ·intro x W hR hf Q hK _;obtain⟨e0,-⟩:=hf;change _=_ at e0;simp only[fA,e0]at hK ⊢;go_wp2_with (fail);go_at_call 63;refine(qDx (fun _=>True) d W (Up.any _) hd0 hd1).mono ?_;rintro e w' ⟨v',rfl,y1,y2⟩;obtain⟨A1,c1,A2,c2,e9,-,-⟩:=y2.form;subst e9;have y2':=hyd1 y2;clear y2;go_wp2;exact hK _ _ y1 y2'.out
  ·intro x W hR hf Q hK _;obtain⟨e0,e1,-⟩:=hf;replace e0:RatL (fun _=>True) .u32 W (x 1) (n:Rat):=e0;replace e1:RatL (fun _=>True) .u32 W (x 3) (d:Rat):=e1;simp only[fA]at hK ⊢;go_wp2_with (fail);go_at_call 62;refine(qEW (fun _=>True) (n:Rat) (d:Rat) _ _ W (Up.any _) e0 e1 (hnsz'.out.up (by decide)) (hdsz'.out.up (by decide)) hdr'.out).mono ?_;rintro e w' ⟨v',rfl,y1,y2⟩;rw[hR'.out]at y2;obtain⟨A1,c1,A2,c2,rfl,-,-⟩:=y2.form;go_wp2;exact hK _ _ y1 y2
  ·intro x W hR hf Q hK _;obtain⟨e0,-⟩:=hf;replace e0:RatL (fun _=>True) .u32 W (x 4) R:=e0;simp only[fA]at hK ⊢;go_wp2_with (fail);go_at_call 50;refine(qCK L (fun _=>True) R _ W (hU0'.out.le hR) e0 hsz'.out).mono ?_;rintro e w' ⟨v',rfl,y1,y2⟩;have y3:=y2;obtain⟨A1,c1,A2,c2,rfl,-,-⟩:=y2;go_wp2;exact hK _ _ y1 y3
 ·intro x W hR hf Q' hQ1 _;have e0:=hf 0 (by decide);have e2:=hf 2 (by decide);change _=_ at e0 e2;have e5:FracL L W (x 5) R:=hf 5 (by decide);obtain⟨A3,c3,A4,c4,e6,y3,y4⟩:=e5;simp only[List.drop_succ_cons,List.drop_zero];rw[show List.range 6=[0,1,2,3,4,5]from rfl];simp only[fA,e0,e2,e6];generalize x 1=x1;generalize x 3=x3;generalize x 4=x4;clear e0 e2 hf;have hv0:FracL L W (.agg #[.bool (rneg R),.slice A3 (dg (rnum R)).length c3,.bool false,.slice A4 (dg R.den).length c4]) R:=⟨A3,c3,A4,c4,rfl,y3,y4⟩;have hbx3:=(Below.block hR _ hkl).trans k0'.out;have hle9:=fun u0 u1 u2 u3=>qAu (u0:=u0) (u1:=u1) (u2:=u2) (u3:=u3) (hle'.out.trans hR) (Nat.le_refl _);have hb9:=fun u0 u1 u2 u3=>qAA (qAd (u0:=u0) (u1:=u1) (u2:=u2) (u3:=u3) hbx3);have hfin:=fun u0 u1 u2 u3=>FracL.box4 (u0:=u0) (u1:=u1) (u2:=u2) (u3:=u3) hv0 hbx3;obtain⟨z0,z1,z2,z3⟩:=qAA hbx3;have⟨g0,g1,g2,g3⟩:=frz4 hbx3;obtain⟨sr,hsr⟩:∃sr,rneg R=sr:=⟨_,rfl⟩;rw[hsr]at hfin ⊢;have⟨hv0',hbx3',hle9',hb9',hfin',hsr',y3',y4'⟩:=hyd8 hv0 hbx3 hle9 hb9 hfin hsr y3 y4;have⟨e6',hR'⟩:=hyd2 e6 hR;clear hR e6 y4 y3 hsr hfin hb9 hle9 hbx3 hv0;go_wp2;refine hQ1 _ _ ?_;go_wp2;obtain⟨d0,d1,d2,d3⟩:=hb9'.out (.bool sr) (.slice A3 (dg (rnum R)).length c3) (.bool false) (.slice A4 (dg R.den).length c4);exact bodyPost_ret (v:= .agg #[.bool sr,.slice A3 (dg (rnum R)).length c3,.bool false,.slice A4 (dg R.den).length c4]) (by simp[results,Tryz.results81,go_sem,d0,d1,d2,d3]) rfl ⟨_,rfl,hle9'.out _ _ _ _,hfin'.out _ _ _ _⟩
theorem qNo (L:Nat→Prop) (n d:Int) (w:World) (hL:Up w L) (hn0: -9223372036854775808≤n) (hn1:n≤9223372036854775807) (hd0: -9223372036854775808≤d) (hd1:d≤9223372036854775807):
  Calls Tryz.prog 28 #[.int .i64 n,.int .i64 d] w (qC1 L (qEY n d) w):=by
 have hmf:∀(fn:Fn) (first cap:Array Value) (w:World),(Instr.makeFunc fn first cap).run Tryz.prog w= .ok (.func fn first cap) w:=fun _ _ _ _=>rfl;obtain⟨W0,hW0,hsz,hle,k0,k1,k2⟩:=qBF w (.cells #[.int .i64 n] 3) (.cells #[.int .i64 d] 3) (.cells #[.bool false,.slice none 0 0,.bool false,.slice none 0 0] 26);have c1:=qAC k1
 by_cases hz:d=0
 ·have hr:qEY n d= .error 11:=by unfold qEY;rw[if_pos hz]
  subst hz;obtain⟨f0,f1,f2,f3⟩:=qAA k2;have⟨g0,g1,g2,g3⟩:=frz4 k2;have hle9:=fun u0 u1 u2 u3=>qAu (u0:=u0) (u1:=u1) (u2:=u2) (u3:=u3) hle (show w.heap.size≤w.heap.size+1+1 by omega);have hb9:=fun u0 u1 u2 u3=>qAA (qAd (u0:=u0) (u1:=u1) (u2:=u2) (u3:=u3) k2);have⟨hr',hL',hle',k0',k1',k2',hle9',hb9'⟩:=hyd8 hr hL hle k0 k1 k2 hle9 hb9;clear hb9 hle9 k2 k1 k0 hle hL hr;go_enter Tryz.func28,Tryz.ntmps28;go_wp2;obtain⟨d0,d1,d2,d3⟩:=hb9'.out (.bool false) (.slice none 0 0) (.bool false) (.slice none 0 0);exact bodyPost_ret (v:= .tuple #[qCz,.int .i64 11]) (by simp[results,Tryz.results28,go_sem,qCz,d0,d1,d2,d3]) rfl ⟨hle9'.out _ _ _ _,_,_,rfl,by rw[hr'.out];exact⟨rfl,rfl⟩⟩
 ·have hr:qEY n d= .ok ((n:Rat) / (d:Rat)):=by unfold qEY;rw[if_neg hz,qAj (qKk hz hn0 hn1 hd0 hd1)]
  have hz1:(d==0)=false:=beq_eq_false_iff_ne.2 hz;obtain⟨R,hR⟩:∃R,(n:Rat) / (d:Rat)=R:=⟨_,rfl⟩
  have hrun:=qDb L R _ #[.pointer (some ⟨w.heap.size,0,none⟩),.pointer (some ⟨w.heap.size+1,0,none⟩)] W0 qJa fun W hW=>by
   have h:=qMk L n d w.heap.size (w.heap.size+1) 3 W (hL.le (hle.trans hW)) hn0 hn1 hd0 hd1 hz ((hW.block _ (by omega)).trans k0) ((hW.block _ (by omega)).trans k1);rw[hR]at h;exact h
  rw[hR]at hr;have⟨hr',hL',hle',k0',k1',k2',hrun',hR'⟩:=hyd8 hr hL hle k0 k1 k2 hrun hR;clear hR hrun k2 k1 k0 hle hL hr;go_enter Tryz.func28,Tryz.ntmps28;go_wp2_with (fail);clear hW0;go_at_call 42;refine hrun'.out.mono ?_;rintro e W1 ⟨v1,rfl,hle1,hres0⟩;have hres:IsRes L W1 v1 0 (.ok R):=⟨hres0,rfl⟩;have hresF:=hres.form;obtain⟨s5,A5,n5,c5,s6,A6,n6,c6,rfl⟩:=hresF;have k9:=(hle1.block _ (gsl k2'.out)).trans k2'.out;have hle9:=fun u0 u1 u2 u3=>qAu (u0:=u0) (u1:=u1) (u2:=u2) (u3:=u3) (hle'.out.trans hle1) (show w.heap.size≤w.heap.size+1+1 by omega);have hb9:=fun u0 u1 u2 u3=>qAA (qAd (u0:=u0) (u1:=u1) (u2:=u2) (u3:=u3) k9);have hfin:=fun u0 u1 u2 u3=>IsRes.box4 (u0:=u0) (u1:=u1) (u2:=u2) (u3:=u3) hres k9;obtain⟨f0,f1,f2,f3⟩:=qAA k9;have⟨g0,g1,g2,g3⟩:=frz4 k9;have⟨hle1',hres0',hres',k9',hle9',hb9',hfin'⟩:=hyd7 hle1 hres0 hres k9 hle9 hb9 hfin;clear hfin hb9 hle9 k9 hres hres0 hle1;go_wp2;obtain⟨d0,d1,d2,d3⟩:=hb9'.out (.bool s5) (.slice A5 n5 c5) (.bool s6) (.slice A6 n6 c6);exact bodyPost_ret (v:= .tuple #[.agg #[.bool s5,.slice A5 n5 c5,.bool s6,.slice A6 n6 c6],.int .i64 0]) (by simp[results,Tryz.results28,go_sem,d0,d1,d2,d3]) rfl ⟨hle9'.out _ _ _ _,_,_,rfl,by rw[hr'.out];exact hfin'.out _ _ _ _⟩
theorem qKV (x:FracA) (Bx:Nat) (va:Value) (w:World) (hx:FBox w Bx va x):Calls Tryz.prog 64 #[.pointer (some ⟨Bx,0,none⟩)] w (qCd x w):=by
 cases hr:x.rat? with
 | none=>exact qGj x Bx va w hx hr
 | some r=>
  by_cases hf:qBj r≤4611686018427387904
  ·by_cases hs:rneg (r+halfR)=true
   ·by_cases hm:rnum (r+halfR)%(r+halfR).den =0
    ·exact qGp x r Bx va w hx hr _ _ _ rfl rfl rfl hf hs hm
    ·exact qGn x r Bx va w hx hr _ _ _ rfl rfl rfl hf hs hm
   ·exact qGo x r Bx va w hx hr _ _ _ rfl rfl rfl hf (by simpa using hs)
  ·have hf:=Nat.lt_of_not_le hf
   by_cases hs:rneg (r+halfR)=true
   ·by_cases hm:rnum (r+halfR)%(r+halfR).den =0
    ·exact qGm x r Bx va w hx hr _ _ _ rfl rfl rfl hf hs hm
    ·exact qGk x r Bx va w hx hr _ _ _ rfl rfl rfl hf hs hm
   ·exact qGl x r Bx va w hx hr _ _ _ rfl rfl rfl hf (by simpa using hs)
theorem qMl {x:FracA} (h:(qAe x).2≠0):(qAe x).1=0:=by
 unfold qAe at*
 split at h
 ·split at h
  ·exact absurd rfl h
  ·rename_i h2;rw[if_neg h2]
 ·rfl
theorem qL6 (x:FracA) (v:Value) (w:World) (h:IsFracA (fun _=>True) w v x):
  Calls Tryz.prog 20 #[v] w fun e w'=>e= .returned (.tuple #[.int .i64 (qAe x).1,.int .i64 (qAe x).2])∧Le w w':=by
 have hmf:∀(fn:Fn) (first cap:Array Value) (w:World),(Instr.makeFunc fn first cap).run Tryz.prog w= .ok (.func fn first cap) w:=fun _ _ _ _=>rfl;have hx0:=h;obtain⟨A,c,A',c',rfl,p1,p2⟩:=h;obtain⟨W0,hW0,hle,k0⟩:=al1 w (.cells #[.bool x.sn,.slice A x.gn.length c,.bool x.sd,.slice A' x.gd.length c'] 26);have hlt:=(gsl k0);have hf:=fun W (hW:Le W0 W)=>qKV x w.heap.size _ W (FBox.mk hx0 (hle.trans hW) ((hW.block _ hlt).trans k0))
 have hrun:Calls Tryz.prog 58 #[.func (.func 64) #[] #[.pointer (some ⟨w.heap.size,0,none⟩)]] W0 fun e w'=>e= .returned (.tuple #[.int .i64 (qAe x).1,.int .i64 (qAe x).2])∧Le W0 w':=by
  by_cases h0:(qAe x).2=0
  ·rw[h0];refine(qED _ _ (qAe x).1 W0 qEy fun W hW=>(hf W hW).mono fun e W' h=>?_).mono fun e w' h=>h;obtain⟨hle2,⟨-,rfl⟩| ⟨hb2,-⟩⟩:=h
   ·exact⟨rfl,hle2⟩
   ·exact absurd h0 hb2
  ·rw[qMl h0];refine(qD7 _ _ (qAe x).2 W0 qEy fun W hW=>(hf W hW).mono fun e W' h=>?_).mono fun e w' h=>h;obtain⟨hle2,⟨hb2,-⟩| ⟨-,rfl⟩⟩:=h
   ·exact absurd hb2 h0
   ·exact⟨rfl,hle2⟩
 obtain⟨n1,hn1⟩:∃n1,(qAe x).1=n1:=⟨_,rfl⟩;obtain⟨n2,hn2⟩:∃n2,(qAe x).2=n2:=⟨_,rfl⟩;rw[hn1,hn2]at hrun ⊢;have⟨hx0',p1',p2',hle',k0',hrun',hn1',hn2'⟩:=hyd8 hx0 p1 p2 hle k0 hrun hn1 hn2;have hf':=hyd1 hf;clear hf hn2 hn1 hrun k0 hle p2 p1 hx0;go_enter Tryz.func20,Tryz.ntmps20;go_wp2_with (fail);clear hW0;go_at_call 58;refine hrun'.out.mono ?_;rintro e W1 ⟨rfl,hle1⟩;have hle2:=hle'.out.trans hle1;have⟨hle1',hle2'⟩:=hyd2 hle1 hle2;clear hle2 hle1;go_wp2;go_ret2;exact⟨rfl,hle2'.out⟩
end Go.Proofs.YtenjpccpldajoaaGreatDoor

/- exact: operated, Add, Sub, Mul, Div, Compare. exact: Nearest's closure. exact: FromInt, Ratio, Nearest. -/
import Derived.Test.YtbcbcdgbliheoaaGreatPk38
namespace Go.Proofs.YtbcbcdgbliheoaaGreat
set_option maxRecDepth 100000
set_option maxHeartbeats 2000000
open Go.RowKit Go.Shelf
set_option linter.unusedVariables false
set_option linter.unusedSimpArgs false
theorem FBox.mk {w W:World} {B:Nat} {x:FracA} {A A':Option Addr} {c c':Nat} {L:Nat->Prop} (hv:IsFracA L w (.agg #[.bool x.sn,.slice A x.gn.length c,.bool x.sd,.slice A' x.gd.length c']) x) (hle:Le w W) (hk:W.heap[B]? =some (.cells #[.bool x.sn,.slice A x.gn.length c,.bool x.sd,.slice A' x.gd.length c'] 47)):FBox W B (.agg #[.bool x.sn,.slice A x.gn.length c,.bool x.sd,.slice A' x.gd.length c']) x:=
 ⟨A,c,A',c',rfl,hk,(hv.le hle).mono λ_ _=>trivial⟩
theorem qH9 (x y:FracA) (g:FuncId) (cap:Array Value) (w:World) (hg:qAZ Tryz.prog g) (hf:∀W,Le w W->Calls Tryz.prog g cap W (qKI x y W)):
  Calls Tryz.prog 59 #[.func (.func g) #[] cap] w λe w'=>e= .returned (.tuple #[.int .i64 (cmpV x y),.int .i64 (okE (okAF x&&okAF y))])/\Le w w':=by
 cases hb:(okAF x&&okAF y)with
 | true=>
  refine(qIT g cap (cmpV x y) w hg λW d=>(hf W d).mono λe f h=>?_).mono λe w' h=>h;obtain⟨c,⟨-,rfl⟩| ⟨b,-⟩⟩:=h
  ·exact⟨rfl,c⟩
  ·rw[hb]at b;cases b
 | false=>
  rw[qIA hb];refine(qH5 g cap 10 w hg λW d=>(hf W d).mono λe f h=>?_).mono λe w' h=>h;obtain⟨c,⟨b,-⟩| ⟨-,rfl⟩⟩:=h
  ·rw[hb]at b;cases b
  ·exact⟨rfl,c⟩
theorem qLD (x y:FracA) (va vb:Value) (w:World) (h1:IsFracA (λ_=>True) w va x) (h2:IsFracA (λ_=>True) w vb y):
  Calls Tryz.prog 37 #[va,vb] w λe w'=>e= .returned (.tuple #[.int .i64 (cmpV x y),.int .i64 (okE (okAF x&&okAF y))])/\Le w w':=by
 have m:=h1;have n:=h2;obtain⟨A,c,J,N,rfl,G,H⟩:=h1;obtain⟨B,d,L,O,rfl,I,q2⟩:=h2;obtain⟨M,q,Q,g,s,t⟩:=qGC w (.cells #[.bool x.sn,.slice A x.gn.length c,.bool x.sd,.slice J x.gd.length N] 47) (.cells #[.bool y.sn,.slice B y.gn.length d,.bool y.sd,.slice L y.gd.length O] 47);have P:∀(fn:Fn) (first cap:Array Value) (w:World),(Instr.makeFunc fn first cap).run Tryz.prog w= .ok (.func fn first cap) w:=λ_ _ _ _=>rfl
 have f:=qH9 x y _ #[.pointer (some ⟨w.heap.size,0,none⟩),.pointer (some ⟨w.heap.size+1,0,none⟩)] M qH8 λW p=>
  qJt x y _ _ _ _ W (FBox.mk m (g.trans p) ((p.block _ (by omega)).trans s)) (FBox.mk n (g.trans p) ((p.block _ (by omega)).trans t))
 obtain⟨v,i⟩:∃v,cmpV x y=v:=⟨_,rfl⟩;obtain⟨z,j⟩:∃z,okE (okAF x&&okAF y)=z:=⟨_,rfl⟩;rw[i,j]at f ⊢;have⟨E,F,T,U,V,X,o,R⟩:=hyd8 m n G H I q2 g s;have⟨S,l,C,D⟩:=hyd4 t f i j;clear j i f t s g q2 I H G n m;go_enter Tryz.func37,Tryz.ntmps37;go_wp2_with (fail);clear q;go_at_call 59;refine l.out.mono ?_;rintro e Y ⟨rfl,b⟩;have h:=o.out.trans b;have⟨r,k⟩:=hyd2 b h;clear h b;go_wp2;go_ret2;exact⟨rfl,k.out⟩
attribute [local go_sem] Oper.semAt_some
end Go.Proofs.YtbcbcdgbliheoaaGreat
namespace Go.Proofs.YtbcbcdgbliheoaaGreat
set_option maxRecDepth 100000
set_option maxHeartbeats 2000000
open Go.RowKit Go.Shelf
set_option linter.unusedVariables false
set_option linter.unusedSimpArgs false
theorem qFm (z:Int) (hz0: -9223372036854775808<=z) (hz1:z<=9223372036854775807):Rsz (z:Rat) 3:=
 ⟨qMN (N:=z.natAbs) (by omega),by rw[show(z:Rat).den =1 from rfl,qGu];simp⟩
theorem qHa {n d:Int} (hd:d≠0) (hn0: -9223372036854775808<=n) (hn1:n<=9223372036854775807) (hd0: -9223372036854775808<=d) (hd1:d<=9223372036854775807):Rsz ((n:Rat) / (d:Rat)) 40:=
 (qOB (λh=>hd (by exact_mod_cast h)) (qFm n hn0 hn1) (qFm d hd0 hd1)).up (by decide)
theorem qDO (L:Nat->Prop) (z:Int) (w:World) (hL:Up w L) (hz0: -9223372036854775808<=z) (hz1:z<=9223372036854775807):
  Calls Tryz.prog 17 #[.int .i64 z] w λe w'=>∃v,e= .returned v/\Le w w'/\FracL L w' v (z:Rat):=by
 have B:=(qFm z hz0 hz1).up (show 3<=40 by decide);have⟨H,C⟩:=hyd2 hL B;clear B hL;go_enter Tryz.func17,Tryz.ntmps17;go_wp2_with (fail);go_at_call 41;refine(qFl (λ_=>True) z _ (Up.any _) hz0 hz1).mono ?_;rintro e Z ⟨v1,rfl,f,D⟩;obtain⟨g,A⟩:=qCG f;have r:=D;obtain⟨A1,c1,A2,c2,rfl,-,-⟩:=D.form;have k:=H.out.le g;have j:=qHy L (λ_=>True) (z:Rat) _ Z k r C.out;have⟨J,ae,U,h,R,o,q⟩:=hyd7 f D r A k g j;clear j g k A r D f;go_wp2_with (fail);go_at_call 40;refine q.out.mono ?_;rintro e W2 ⟨v2,rfl,c,X⟩;have t:=X;obtain⟨N,P,O,Q,rfl,-,-⟩:=X;have b:=(c.block _ (gsl h.out)).trans h.out;have i:=λu0 u1 u2 u3=>qBs (u0:=u0) (u1:=u1) (u2:=u2) (u3:=u3) (o.out.trans c) (Nat.le_refl _);have x:=λu0 u1 u2 u3=>qAO (qBP (u0:=u0) (u1:=u1) (u2:=u2) (u3:=u3) b);have d:=λu0 u1 u2 u3=>FracL.box4 (u0:=u0) (u1:=u1) (u2:=u2) (u3:=u3) t b;obtain⟨z0,z1,z2,z3⟩:=qAO b;have⟨g0,g1,g2,g3⟩:=frz4 b;obtain⟨G,s⟩:∃G,rneg (z:Rat)=G:=⟨_,rfl⟩;obtain⟨E,m⟩:∃E,(dg (rnum (z:Rat))).length =E:=⟨_,rfl⟩;obtain⟨F,n⟩:∃F,(dg (z:Rat).den).length =F:=⟨_,rfl⟩;rw[s,m,n]at d ⊢;have⟨M,Y,I,p,y,l,V,S⟩:=hyd8 c t b i x d s m;have T:=hyd1 n
 clear n m s d x i b t c;go_wp2;obtain⟨d0,d1,d2,d3⟩:=y.out (.bool G) (.slice N E P) (.bool false) (.slice O F Q);exact bodyPost_ret (v:= .agg #[.bool G,.slice N E P,.bool false,.slice O F Q]) (by simp[results,Tryz.results17,go_sem,d0,d1,d2,d3]) rfl ⟨_,rfl,p.out _ _ _ _,l.out _ _ _ _⟩
theorem qJL:qAZ Tryz.prog 39:=λ_ _=>by kernel_rfl
theorem qMS (L:Nat->Prop) (n d:Int) (Bn Bd:Nat) (t:TypeId) (w:World) (hL:Up w L) (hn0: -9223372036854775808<=n) (hn1:n<=9223372036854775807) (hd0: -9223372036854775808<=d) (hd1:d<=9223372036854775807) (hd:d≠0)
  (kn:w.heap[Bn]? =some (.cells #[.int .i64 n] t)) (kd:w.heap[Bd]? =some (.cells #[.int .i64 d] t)):
  Calls Tryz.prog 39 #[.pointer (some ⟨Bn,0,none⟩),.pointer (some ⟨Bd,0,none⟩)] w λe w'=>∃v,e= .returned v/\Le w w'/\FracL L w' v ((n:Rat) / (d:Rat)):=by
 have z:=qHa hd hn0 hn1 hd0 hd1;obtain⟨R,f⟩:∃R,(n:Rat) / (d:Rat)=R:=⟨_,rfl⟩;rw[f]at z ⊢;obtain⟨W0,ag,j,k0⟩:=al1 w (.cells #[.bool false,.slice none 0 0,.bool false,.slice none 0 0] 47);have ak:=(gsl kn);have ai:=(gsl kd);have aj:=(gsl k0);have cn:=qAC ((j.block _ ak).trans kn);have cd:=qAC ((j.block _ ai).trans kd);have E:=hL.le j;have a4:=j.size;have I:(d:Rat)≠0:=λh=>hd (by exact_mod_cast h);have o:=qFm n hn0 hn1;have l:=qFm d hd0 hd1;have⟨a2,N,D,M,am,a6,a5,F⟩:=hyd8 hL z f j k0 kn kd E;have⟨J,s,p,a3⟩:=hyd4 I o l hd;clear hd l o I E kd kn k0 j f z hL;go_enter Tryz.func39,Tryz.ntmps39;go_wp2_with (fail);clear ag;refine qCM (R:=leRel) 6 [some 3,some 4,some 5,some 6,some 7,some 8,none] [[],[0],[],[2],[1,3],[4],[5]]
  [.eq (.int .i64 n),MPred.rat (λ_=>True) .u32 (n:Rat),.eq (.int .i64 d),MPred.rat (λ_=>True) .u32 (d:Rat),MPred.rat (λ_=>True) .u32 R,MPred.frac L R] (λ_ _=>False) (by kernel_rfl) (by kernel_rfl) (by kernel_rfl) (by kernel_rfl) (by kernel_rfl) ?_ (λ_ _ _ _ h=>h.elim) ?_
 ·simp only[List.take_succ_cons,List.take_zero];refine sMc rfl ?_ (sMc rfl ?_ (sMc rfl ?_ (sMc rfl ?_ (sMc rfl ?_ (sMc rfl ?_ (qC9))))))
  ·intro x W f g Q hK _;have cc:=bcl f (by omega) cn;simp only[fA]at hK ⊢;go_wp2;exact hK _ _ lrR rfl
  ·intro x W f g Q hK _;obtain⟨c,-⟩:=g;change _=_ at c;simp only[fA,c]at hK ⊢;go_wp2_with (fail);go_at_call 41;refine(qFl (λ_=>True) n W (Up.any _) hn0 hn1).mono ?_;rintro e w' ⟨v',rfl,B,i⟩;obtain⟨X,Z,Y,c2,e9,-,-⟩:=i.form;subst e9;have C:=hyd1 i;clear i;go_wp2;exact hK _ _ B C.out
  ·intro x W f g Q hK _;have cc:=bcl f (by omega) cd;simp only[fA]at hK ⊢;go_wp2;exact hK _ _ lrR rfl
  ·intro x W f g Q hK _;obtain⟨c,-⟩:=g;change _=_ at c;simp only[fA,c]at hK ⊢;go_wp2_with (fail);go_at_call 41;refine(qFl (λ_=>True) d W (Up.any _) hd0 hd1).mono ?_;rintro e w' ⟨v',rfl,B,i⟩;obtain⟨X,Z,Y,c2,e9,-,-⟩:=i.form;subst e9;have C:=hyd1 i;clear i;go_wp2;exact hK _ _ B C.out
  ·intro x W f g Q hK _;obtain⟨c,e1,-⟩:=g;replace c:RatL (λ_=>True) .u32 W (x 1) (n:Rat):=c;replace e1:RatL (λ_=>True) .u32 W (x 3) (d:Rat):=e1;simp only[fA]at hK ⊢;go_wp2_with (fail);go_at_call 42;refine(qNL (λ_=>True) (n:Rat) (d:Rat) _ _ W (Up.any _) c e1 (s.out.up (by decide)) (p.out.up (by decide)) J.out).mono ?_;rintro e w' ⟨v',rfl,B,i⟩;rw[D.out]at i;obtain⟨X,Z,Y,c2,rfl,-,-⟩:=i.form;go_wp2;exact hK _ _ B i
  ·intro x W f g Q hK _;obtain⟨c,-⟩:=g;replace c:RatL (λ_=>True) .u32 W (x 4) R:=c;simp only[fA]at hK ⊢;go_wp2_with (fail);go_at_call 40;refine(qHy L (λ_=>True) R _ W (F.out.le f) c N.out).mono ?_;rintro e w' ⟨v',rfl,B,i⟩;have O:=i;obtain⟨X,Z,Y,c2,rfl,-,-⟩:=i;go_wp2;exact hK _ _ B O
 ·intro x W f g Q' af _;have c:=g 0 (by decide);have e2:=g 2 (by decide);change _=_ at c e2;have e5:FracL L W (x 5) R:=g 5 (by decide);obtain⟨P,T,S,U,e6,O,y4⟩:=e5;simp only[List.drop_succ_cons,List.drop_zero];rw[show List.range 6=[0,1,2,3,4,5]from rfl];simp only[fA,c,e2,e6];generalize x 1=x1;generalize x 3=x3;generalize x 4=x4;clear c e2 g;have A:FracL L W (.agg #[.bool (rneg R),.slice P (dg (rnum R)).length T,.bool false,.slice S (dg R.den).length U]) R:=⟨P,T,S,U,rfl,O,y4⟩;have b:=(Below.block f _ aj).trans am.out;have m:=λu0 u1 u2 u3=>qBs (u0:=u0) (u1:=u1) (u2:=u2) (u3:=u3) (M.out.trans f) (Nat.le_refl _);have G:=λu0 u1 u2 u3=>qAO (qBP (u0:=u0) (u1:=u1) (u2:=u2) (u3:=u3) b);have k:=λu0 u1 u2 u3=>FracL.box4 (u0:=u0) (u1:=u1) (u2:=u2) (u3:=u3) A b;obtain⟨z0,z1,z2,z3⟩:=qAO b;have⟨g0,g1,g2,g3⟩:=frz4 b;obtain⟨V,y⟩:∃V,rneg R=V:=⟨_,rfl⟩;rw[y]at k ⊢;have⟨aq,ah,r,H,q,ap,a7,a8⟩:=hyd8 A b m G k y O y4;have⟨a1,D⟩:=hyd2 e6 f;clear f e6 y4 O y k G m b A;go_wp2;refine af _ _ ?_;go_wp2;obtain⟨d0,d1,d2,d3⟩:=H.out (.bool V) (.slice P (dg (rnum R)).length T) (.bool false) (.slice S (dg R.den).length U);exact bodyPost_ret (v:= .agg #[.bool V,.slice P (dg (rnum R)).length T,.bool false,.slice S (dg R.den).length U]) (by simp[results,Tryz.results39,go_sem,d0,d1,d2,d3]) rfl ⟨_,rfl,r.out _ _ _ _,q.out _ _ _ _⟩
theorem qJM (L:Nat->Prop) (n d:Int) (w:World) (hL:Up w L) (hn0: -9223372036854775808<=n) (hn1:n<=9223372036854775807) (hd0: -9223372036854775808<=d) (hd1:d<=9223372036854775807):
  Calls Tryz.prog 15 #[.int .i64 n,.int .i64 d] w (qKH L (qCi n d) w):=by
 have ao:∀(fn:Fn) (first cap:Array Value) (w:World),(Instr.makeFunc fn first cap).run Tryz.prog w= .ok (.func fn first cap) w:=λ_ _ _ _=>rfl;obtain⟨W0,O,ap,j,D,B,x⟩:=qGB w (.cells #[.int .i64 n] 3) (.cells #[.int .i64 d] 3) (.cells #[.bool false,.slice none 0 0,.bool false,.slice none 0 0] 47);have c1:=qAC B
 by_cases A:d=0
 ·have z:qCi n d= .error 11:=by unfold qCi;rw[if_pos A]
  subst A;obtain⟨f0,f1,f2,f3⟩:=qAO x;have⟨g0,g1,g2,g3⟩:=frz4 x;have b:=λu0 u1 u2 u3=>qBs (u0:=u0) (u1:=u1) (u2:=u2) (u3:=u3) j (show w.heap.size<=w.heap.size+1+1 by omega);have k:=λu0 u1 u2 u3=>qAO (qBP (u0:=u0) (u1:=u1) (u2:=u2) (u3:=u3) x);have⟨r,M,o,S,T,y,c,l⟩:=hyd8 z hL j D B x b k;clear k b x B D j hL z;go_enter Tryz.func15,Tryz.ntmps15;go_wp2;obtain⟨G,H,I,J⟩:=l.out (.bool false) (.slice none 0 0) (.bool false) (.slice none 0 0);exact bodyPost_ret (v:= .tuple #[qIY,.int .i64 11]) (by simp[results,Tryz.results15,go_sem,qIY,G,H,I,J]) rfl ⟨c.out _ _ _ _,_,_,rfl,by rw[r.out];exact⟨rfl,rfl⟩⟩
 ·have z:qCi n d= .ok ((n:Rat) / (d:Rat)):=by unfold qCi;rw[if_neg A,qH6 (qHa A hn0 hn1 hd0 hd1)]
  have aq:(d==0)=false:=beq_eq_false_iff_ne.2 A;obtain⟨R,E⟩:∃R,(n:Rat) / (d:Rat)=R:=⟨_,rfl⟩
  have p:=qH7 L R _ #[.pointer (some ⟨w.heap.size,0,none⟩),.pointer (some ⟨w.heap.size+1,0,none⟩)] W0 qJL λW N=>by
   have h:=qMS L n d w.heap.size (w.heap.size+1) 3 W (hL.le (j.trans N)) hn0 hn1 hd0 hd1 A ((N.block _ (by omega)).trans D) ((N.block _ (by omega)).trans B);rw[E]at h;exact h
  rw[E]at z;have⟨r,M,o,S,T,y,t,an⟩:=hyd8 z hL j D B x p E;clear E p x B D j hL z;go_enter Tryz.func15,Tryz.ntmps15;go_wp2_with (fail);clear O;go_at_call 38;refine t.out.mono ?_;rintro e W1 ⟨v1,rfl,g,f⟩;have i:IsRes L W1 v1 0 (.ok R):=⟨f,rfl⟩;have s:=i.form;obtain⟨s5,U,Z,X,s6,V,n6,Y,rfl⟩:=s;have C:=(g.block _ (gsl y.out)).trans y.out;have b:=λu0 u1 u2 u3=>qBs (u0:=u0) (u1:=u1) (u2:=u2) (u3:=u3) (o.out.trans g) (show w.heap.size<=w.heap.size+1+1 by omega);have k:=λu0 u1 u2 u3=>qAO (qBP (u0:=u0) (u1:=u1) (u2:=u2) (u3:=u3) C);have m:=λu0 u1 u2 u3=>IsRes.box4 (u0:=u0) (u1:=u1) (u2:=u2) (u3:=u3) i C;obtain⟨f0,f1,f2,f3⟩:=qAO C;have⟨g0,g1,g2,g3⟩:=frz4 C;have⟨P,F,Q,ar,c,l,q⟩:=hyd7 g f i C b k m;clear m k b C i f g;go_wp2;obtain⟨G,H,I,J⟩:=l.out (.bool s5) (.slice U Z X) (.bool s6) (.slice V n6 Y);exact bodyPost_ret (v:= .tuple #[.agg #[.bool s5,.slice U Z X,.bool s6,.slice V n6 Y],.int .i64 0]) (by simp[results,Tryz.results15,go_sem,G,H,I,J]) rfl ⟨c.out _ _ _ _,_,_,rfl,by rw[r.out];exact q.out _ _ _ _⟩
end Go.Proofs.YtbcbcdgbliheoaaGreat

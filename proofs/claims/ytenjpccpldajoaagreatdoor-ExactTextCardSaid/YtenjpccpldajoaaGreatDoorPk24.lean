/- Polynomials: how large what the division makes is (all coefficients over one denominator). Polynomials, program side: DivPoly's, CheckPoly's and Value's .. -/
import Derived.Test.YtenjpccpldajoaaGreatDoorPk23
namespace Go.Proofs.YtenjpccpldajoaaGreatDoor
set_option maxRecDepth 100000
open Go.RowKit
set_option linter.unusedVariables false
set_option linter.unusedSimpArgs false
theorem qGO (N:Int) (D:Nat):(N:Rat) / (D:Rat)=mkR (decide (N<0)) N.natAbs D:=by
 unfold mkR;rw[qHN,Rat.mkRat_eq_div]
theorem qNh {N:Int} {D n:Nat} (hD:0<D) (h1:N.natAbs<B9^n) (h2:D<B9^n):Rsz ((N:Rat) / (D:Rat)) n:=by
 rw[qGO];obtain⟨q1,q2⟩:=qC8 (decide (N<0)) N.natAbs D (by omega);exact⟨Nat.le_trans q1 (qA7 h1),Nat.le_trans q2 (qA7 h2)⟩
def GL (n:Nat) (l:List Rat):Prop:=∃D:Nat,0<D∧D<B9^n∧∀r∈l,∃N:Int,r=(N:Rat) / (D:Rat)∧N.natAbs<B9^n
theorem GL.sz {n:Nat} {l:List Rat} (h:GL n l):∀r∈l,Rsz r n:=fun r hr=>by
 obtain⟨D,h1,h2,h3⟩:=h;obtain⟨N,rfl,h4⟩:=h3 r hr;exact qNh h1 h4 h2
theorem B9p (n:Nat):0<B9^n:=Nat.pow_pos (by rw[qAN];decide)
theorem qDI {m n:Nat} (h:m≤n):B9^m≤B9^n:=Nat.pow_le_pow_right (by rw[qAN];decide) h
theorem GL.up {m n:Nat} {l:List Rat} (h:GL m l) (hmn:m≤n):GL n l:=by
 obtain⟨D,h1,h2,h3⟩:=h;refine⟨D,h1,Nat.lt_of_lt_of_le h2 (qDI hmn),fun r hr=>?_⟩;obtain⟨N,e,h4⟩:=h3 r hr;exact⟨N,e,Nat.lt_of_lt_of_le h4 (qDI hmn)⟩
theorem qDR (r:Rat):r=(r.num:Rat) / (r.den:Rat):=by
 rw[←Rat.mkRat_eq_div,Rat.mkRat_self]
theorem qCc (x:Rat):(0:Rat) / x=0:=by rw[Rat.div_def,Rat.zero_mul]
theorem fe1 (D s N Q Nt Qk E:Rat) (hD:D≠0) (hQ:Q≠0) (hE:E≠0) (hs0:s≠0):N / D - (Nt / D) / (Q / E)*(Qk / E)=(s*(N*Q - Nt*Qk)) / (D*(s*Q)):=by grind
theorem fe2 (D s N Q:Rat) (hD:D≠0) (hQ:Q≠0) (hs0:s≠0):N / D=(s*(N*Q)) / (D*(s*Q)):=by grind
theorem fe3 (a b D:Rat) (hD:D≠0) (hb:b≠0):a / b=(a*D) / (b*D):=by grind
theorem fe4 (a b D:Rat) (hD:D≠0) (hb:b≠0):a / D=(a*b) / (b*D):=by grind
theorem qBY {a b:Int} {m n:Nat} (ha:a.natAbs<B9^m) (hb:b.natAbs<B9^n):(a*b).natAbs <B9^(m+n):=by
 rw[Int.natAbs_mul,Nat.pow_add];exact Nat.mul_lt_mul'' ha hb
theorem GL.of {m:Nat}:∀(l:List Rat),(∀r∈l,Rsz r m)→GL (1+l.length*m) l
 | [],_=>⟨1,by decide,by rw[List.length_nil,Nat.zero_mul,qAN];decide,fun r hr=>by cases hr⟩
 | x::xs,h=>by
  obtain⟨D,h1,h2,h3⟩:=GL.of xs (fun r hr=>h r (by simp[hr]));have hx:=h x (by simp);have hd:0<x.den:=Rat.den_pos x
  have hn9:x.num.natAbs<B9^m:=by
   have q:=qA6 (rnum x);exact Nat.lt_of_lt_of_le q (qDI hx.1)
  have hd9:x.den<B9^m:=Nat.lt_of_lt_of_le (qA6 x.den) (qDI hx.2);have e9:1+(x::xs).length *m=m+(1+xs.length*m):=by rw[List.length_cons,Nat.add_mul];omega
  have hdr:(x.den:Rat)≠0:=by have:=hd;exact_mod_cast Nat.ne_of_gt hd
  have hDr:(D:Rat)≠0:=by exact_mod_cast Nat.ne_of_gt h1
  refine⟨x.den*D,Nat.mul_pos hd h1,?_,fun r hr=>?_⟩
  ·rw[e9,Nat.pow_add];exact Nat.mul_lt_mul'' hd9 h2
  ·simp only[List.mem_cons]at hr
   rcases hr with rfl|hr
   ·refine⟨r.num*(D:Int),?_,?_⟩
    ·have e:=qDR r;have e2:((r.num*(D:Int):Int):Rat)=(r.num:Rat)*(D:Rat):=by rw[Rat.intCast_mul];rfl
     have e3:((r.den*D:Nat):Rat)=(r.den:Rat)*(D:Rat):=by rw[Rat.natCast_mul]
     rw[e2,e3,←fe3 _ _ _ hDr hdr];exact e
    ·rw[e9];exact qBY hn9 (by simpa using h2)
   ·obtain⟨N,e,h4⟩:=h3 r hr;refine⟨N*(x.den:Int),?_,?_⟩
    ·have e2:((N*(x.den:Int):Int):Rat)=(N:Rat)*(x.den:Rat):=by rw[Rat.intCast_mul];rfl
     have e3:((x.den*D:Nat):Rat)=(x.den:Rat)*(D:Rat):=by rw[Rat.natCast_mul]
     rw[e2,e3,e];exact fe4 _ _ _ hDr hdr
    ·rw[e9,Nat.add_comm];exact qBY h4 (by simpa using hd9)
theorem GL.getD {n:Nat} {l:List Rat} {D:Nat} (h:∀r∈l,∃N:Int,r=(N:Rat) / (D:Rat)∧N.natAbs<B9^n) (j:Nat):∃N:Int,l.getD j 0=(N:Rat) / (D:Rat)∧N.natAbs<B9^n:=by
 rw[List.getD_eq_getElem?_getD]
 cases e:l[j]? with
 | none=>exact⟨0,by show(0:Rat)=(((0:Int):Rat)) / _;rw[Rat.intCast_zero,qCc],B9p n⟩
 | some r=>exact h r (List.mem_of_getElem? e)
theorem GL.sub {n k:Nat} {P q:List Rat} (hP:GL n P) (hq:GL k q) {t1 t2:Nat} (h0:q.getD t2 0≠0) (i k':Nat):GL (n+k+1) (subK P q i (P.getD t1 0 / q.getD t2 0) k'):=by
 obtain⟨D,d1,d2,d3⟩:=hP;obtain⟨E,e1,e2,e3⟩:=hq;obtain⟨Nt,nt1,nt2⟩:=GL.getD d3 t1;obtain⟨Qt,qt1,qt2⟩:=GL.getD e3 t2;have hE:(E:Rat)≠0:=by exact_mod_cast Nat.ne_of_gt e1
 have hD:(D:Rat)≠0:=by exact_mod_cast Nat.ne_of_gt d1
 have hQ0:Qt≠0:=fun h=>h0 (by rw[qt1,h,Rat.intCast_zero,qCc]);have hQr:(Qt:Rat)≠0:=by exact_mod_cast hQ0
 have hp:0<Qt.natAbs:=Int.natAbs_pos.2 hQ0
 obtain⟨sg9,hs1,hs2⟩:∃s:Int,(s=1∨s= -1)∧(Qt.natAbs:Int)=s*Qt:=by
  rcases Int.natAbs_eq Qt with h|h
  ·exact⟨1,.inl rfl,by omega⟩
  ·exact⟨-1,.inr rfl,by omega⟩
 have hsr:((Qt.natAbs:Nat):Rat)=(sg9:Rat)*(Qt:Rat):=by
  rw[←Rat.intCast_mul,←hs2];rfl
 have hsq:(sg9:Rat)*(sg9:Rat)=1:=by rcases hs1 with rfl|rfl<;>decide+kernel
 have hb:∀N:Int,(sg9*N).natAbs =N.natAbs:=fun N=>by rcases hs1 with rfl|rfl<;>simp
 have hlt2:B9^(n+k)*2≤B9^(n+k+1):=by rw[Nat.pow_succ];exact Nat.mul_le_mul_left _ (by rw[qAN];decide)
 refine⟨D*Qt.natAbs,Nat.mul_pos d1 hp,?_,fun r hr=>?_⟩
 ·have:D*Qt.natAbs<B9^(n+k):=by rw[Nat.pow_add];exact Nat.mul_lt_mul'' d2 qt2
  omega
 ·simp only[subK,List.mem_map,List.mem_range]at hr;obtain⟨j,hj,rfl⟩:=hr;obtain⟨Nj,nj1,nj2⟩:=GL.getD d3 j;obtain⟨Qk,qk1,qk2⟩:=GL.getD e3 (j - i);have eD:((D*Qt.natAbs:Nat):Rat)=(D:Rat)*((sg9:Rat)*(Qt:Rat)):=by rw[Rat.natCast_mul,hsr]
  have hs0:(sg9:Rat)≠0:=by rcases hs1 with rfl|rfl<;>decide+kernel
  have b1:=qBY nj2 qt2;have b2:=qBY nt2 qk2
  split
  ·refine⟨sg9*(Nj*Qt - Nt*Qk),?_,?_⟩
   ·rw[nj1,nt1,qt1,qk1,eD]
    have e5:((sg9*(Nj*Qt - Nt*Qk):Int):Rat)=(sg9:Rat)*((Nj:Rat)*(Qt:Rat) - (Nt:Rat)*(Qk:Rat)):=by
     rw[Rat.intCast_mul,Rat.intCast_sub,Rat.intCast_mul,Rat.intCast_mul]
    rw[e5];exact fe1 _ _ _ _ _ _ _ hD hQr hE hs0
   ·rw[hb];omega
  ·refine⟨sg9*(Nj*Qt),?_,?_⟩
   ·rw[nj1,eD]
    have e5:((sg9*(Nj*Qt):Int):Rat)=(sg9:Rat)*((Nj:Rat)*(Qt:Rat)):=by
     rw[Rat.intCast_mul,Rat.intCast_mul]
    rw[e5];exact fe2 _ _ _ _ hD hQr hs0
   ·rw[hb];omega
theorem qH8 {n k:Nat} {P q:List Rat} (hP:GL n P) (hq:GL k q) (h0:q.getD (q.length - 1) 0≠0) (m:Nat):∀s,GL (n+s*(k+1)) (divS P q m s)
 | 0=>by simpa[divS]using hP
 | s+1=>by
  have ih:=qH8 hP hq h0 m s;have:=GL.sub ih hq (t1:=m - s+q.length - 1) h0 (m - s) q.length;unfold divS divC;exact this.up (by rw[Nat.add_mul];omega)
set_option maxHeartbeats 500000
open Go.RowKit Go.Shelf
theorem qDt {rs:List Rat} (h:qAT rs=true) (h0:¬rs.length=0):rs.getD (rs.length - 1) 0≠0:=by
 unfold qAT at h;rw[decide_eq_false h0,Bool.false_or]at h;simpa using h
set_option maxHeartbeats 2000000
theorem FBox.mk {w W:World} {B:Nat} {x:FracA} {A A':Option Addr} {c c':Nat} {L:Nat→Prop} (hv:IsFracA L w (.agg #[.bool x.sn,.slice A x.gn.length c,.bool x.sd,.slice A' x.gd.length c']) x) (hle:Le w W) (hk:W.heap[B]? =some (.cells #[.bool x.sn,.slice A x.gn.length c,.bool x.sd,.slice A' x.gd.length c'] 26)):FBox W B (.agg #[.bool x.sn,.slice A x.gn.length c,.bool x.sd,.slice A' x.gd.length c']) x:=
 ⟨A,c,A',c',rfl,hk,(hv.le hle).mono fun _ _=>trivial⟩
attribute [local go_sem] Oper.semAt_some
end Go.Proofs.YtenjpccpldajoaaGreatDoor
namespace Go.Proofs.YtenjpccpldajoaaGreatDoor
set_option maxRecDepth 100000
set_option maxHeartbeats 2000000
open Go.RowKit Go.Shelf
set_option linter.unusedVariables false
set_option linter.unusedSimpArgs false
theorem qGs (z:Int) (hz0: -9223372036854775808≤z) (hz1:z≤9223372036854775807):Rsz (z:Rat) 3:=
 ⟨qL5 (N:=z.natAbs) (by omega),by rw[show(z:Rat).den =1 from rfl,qDU];simp⟩
theorem qKE {n d:Int} (hd:d≠0) (hn0: -9223372036854775808≤n) (hn1:n≤9223372036854775807) (hd0: -9223372036854775808≤d) (hd1:d≤9223372036854775807):Rsz ((n:Rat) / (d:Rat)) 40:=
 (qNe (fun h=>hd (by exact_mod_cast h)) (qGs n hn0 hn1) (qGs d hd0 hd1)).up (by decide)
theorem qJC:qAF Tryz.prog 81:=fun _ _=>by kernel_rfl
theorem qLq (L:Nat→Prop) (n d:Int) (Bn Bd:Nat) (t:TypeId) (w:World) (hL:Up w L) (hn0: -9223372036854775808≤n) (hn1:n≤9223372036854775807) (hd0: -9223372036854775808≤d) (hd1:d≤9223372036854775807) (hd:d≠0)
  (kn:w.heap[Bn]? =some (.cells #[.int .i64 n] t)) (kd:w.heap[Bd]? =some (.cells #[.int .i64 d] t)):
  Calls Tryz.prog 81 #[.pointer (some ⟨Bn,0,none⟩),.pointer (some ⟨Bd,0,none⟩)] w fun e w'=>∃v,e= .returned v∧Le w w'∧FracL L w' v ((n:Rat) / (d:Rat)):=by
 have hsz:=qKE hd hn0 hn1 hd0 hd1;obtain⟨R,hR⟩:∃R,(n:Rat) / (d:Rat)=R:=⟨_,rfl⟩;rw[hR]at hsz ⊢;obtain⟨W0,hW0,hle,k0⟩:=al1 w (.cells #[.bool false,.slice none 0 0,.bool false,.slice none 0 0] 26);have hnl:=(gsl kn);have hdl:=(gsl kd);have hkl:=(gsl k0);have cn:=qAB ((hle.block _ hnl).trans kn);have cd:=qAB ((hle.block _ hdl).trans kd);have hU0:=hL.le hle;have hs0:=hle.size;have hdr:(d:Rat)≠0:=fun h=>hd (by exact_mod_cast h);have hnsz:=qGs n hn0 hn1;have hdsz:=qGs d hd0 hd1;have⟨hL',hsz',hR',hle',k0',kn',kd',hU0'⟩:=hyd8 hL hsz hR hle k0 kn kd hU0;have⟨hdr',hnsz',hdsz',hd'⟩:=hyd4 hdr hnsz hdsz hd;clear hd hdsz hnsz hdr hU0 kd kn k0 hle hR hsz hL;go_enter Tryz.func81,Tryz.ntmps81;go_wp2_with (fail);clear hW0;refine qAQ (R:=leRel) 6 [some 3,some 4,some 5,some 6,some 7,some 8,none] [[],[0],[],[2],[1,3],[4],[5]]
  [.eq (.int .i64 n),MPred.rat (fun _=>True) .u32 (n:Rat),.eq (.int .i64 d),MPred.rat (fun _=>True) .u32 (d:Rat),MPred.rat (fun _=>True) .u32 R,MPred.frac L R] (fun _ _=>False) (by kernel_rfl) (by kernel_rfl) (by kernel_rfl) (by kernel_rfl) (by kernel_rfl) ?_ (fun _ _ _ _ h=>h.elim) ?_
 ·simp only[List.take_succ_cons,List.take_zero];refine sMc rfl ?_ (sMc rfl ?_ (sMc rfl ?_ (sMc rfl ?_ (sMc rfl ?_ (sMc rfl ?_ (qAV))))))
  ·intro x W hR hf Q hK _;have cc:=bcl hR (by omega) cn;simp only[fA]at hK ⊢;go_wp2;exact hK _ _ lrR rfl
  ·intro x W hR hf Q hK _;obtain⟨e0,-⟩:=hf;change _=_ at e0;simp only[fA,e0]at hK ⊢;go_wp2_with (fail);go_at_call 63;refine(qEB (fun _=>True) n W (Up.any _) hn0 hn1).mono ?_;rintro e w' ⟨v',rfl,y1,y2⟩;obtain⟨A1,c1,A2,c2,e9,-,-⟩:=y2.form;subst e9;have y2':=hyd1 y2;clear y2;go_wp2;exact hK _ _ y1 y2'.out
  ·intro x W hR hf Q hK _;have cc:=bcl hR (by omega) cd;simp only[fA]at hK ⊢;go_wp2;exact hK _ _ lrR rfl
  ·intro x W hR hf Q hK _;obtain⟨e0,-⟩:=hf;change _=_ at e0;simp only[fA,e0]at hK ⊢;go_wp2_with (fail);go_at_call 63;refine(qEB (fun _=>True) d W (Up.any _) hd0 hd1).mono ?_;rintro e w' ⟨v',rfl,y1,y2⟩;obtain⟨A1,c1,A2,c2,e9,-,-⟩:=y2.form;subst e9;have y2':=hyd1 y2;clear y2;go_wp2;exact hK _ _ y1 y2'.out
  ·intro x W hR hf Q hK _;obtain⟨e0,e1,-⟩:=hf;replace e0:RatL (fun _=>True) .u32 W (x 1) (n:Rat):=e0;replace e1:RatL (fun _=>True) .u32 W (x 3) (d:Rat):=e1;simp only[fA]at hK ⊢;go_wp2_with (fail);go_at_call 62;refine(qEd (fun _=>True) (n:Rat) (d:Rat) _ _ W (Up.any _) e0 e1 (hnsz'.out.up (by decide)) (hdsz'.out.up (by decide)) hdr'.out).mono ?_;rintro e w' ⟨v',rfl,y1,y2⟩;rw[hR'.out]at y2;obtain⟨A1,c1,A2,c2,rfl,-,-⟩:=y2.form;go_wp2;exact hK _ _ y1 y2
  ·intro x W hR hf Q hK _;obtain⟨e0,-⟩:=hf;replace e0:RatL (fun _=>True) .u32 W (x 4) R:=e0;simp only[fA]at hK ⊢;go_wp2_with (fail);go_at_call 50;refine(qC9 L (fun _=>True) R _ W (hU0'.out.le hR) e0 hsz'.out).mono ?_;rintro e w' ⟨v',rfl,y1,y2⟩;have y3:=y2;obtain⟨A1,c1,A2,c2,rfl,-,-⟩:=y2;go_wp2;exact hK _ _ y1 y3
 ·intro x W hR hf Q' hQ1 _;have e0:=hf 0 (by decide);have e2:=hf 2 (by decide);change _=_ at e0 e2;have e5:FracL L W (x 5) R:=hf 5 (by decide);obtain⟨A3,c3,A4,c4,e6,y3,y4⟩:=e5;simp only[List.drop_succ_cons,List.drop_zero];rw[show List.range 6=[0,1,2,3,4,5]from rfl];simp only[fA,e0,e2,e6];generalize x 1=x1;generalize x 3=x3;generalize x 4=x4;clear e0 e2 hf;have hv0:FracL L W (.agg #[.bool (rneg R),.slice A3 (dg (rnum R)).length c3,.bool false,.slice A4 (dg R.den).length c4]) R:=⟨A3,c3,A4,c4,rfl,y3,y4⟩;have hbx3:=(Below.block hR _ hkl).trans k0'.out;have hle9:=fun u0 u1 u2 u3=>qBX (u0:=u0) (u1:=u1) (u2:=u2) (u3:=u3) (hle'.out.trans hR) (Nat.le_refl _);have hb9:=fun u0 u1 u2 u3=>qAK (qBA (u0:=u0) (u1:=u1) (u2:=u2) (u3:=u3) hbx3);have hfin:=fun u0 u1 u2 u3=>FracL.box4 (u0:=u0) (u1:=u1) (u2:=u2) (u3:=u3) hv0 hbx3;obtain⟨z0,z1,z2,z3⟩:=qAK hbx3;have⟨g0,g1,g2,g3⟩:=frz4 hbx3;obtain⟨sr,hsr⟩:∃sr,rneg R=sr:=⟨_,rfl⟩;rw[hsr]at hfin ⊢;have⟨hv0',hbx3',hle9',hb9',hfin',hsr',y3',y4'⟩:=hyd8 hv0 hbx3 hle9 hb9 hfin hsr y3 y4;have⟨e6',hR'⟩:=hyd2 e6 hR;clear hR e6 y4 y3 hsr hfin hb9 hle9 hbx3 hv0;go_wp2;refine hQ1 _ _ ?_;go_wp2;obtain⟨d0,d1,d2,d3⟩:=hb9'.out (.bool sr) (.slice A3 (dg (rnum R)).length c3) (.bool false) (.slice A4 (dg R.den).length c4);exact bodyPost_ret (v:= .agg #[.bool sr,.slice A3 (dg (rnum R)).length c3,.bool false,.slice A4 (dg R.den).length c4]) (by simp[results,Tryz.results81,go_sem,d0,d1,d2,d3]) rfl ⟨_,rfl,hle9'.out _ _ _ _,hfin'.out _ _ _ _⟩
theorem qMl (L:Nat→Prop) (n d:Int) (w:World) (hL:Up w L) (hn0: -9223372036854775808≤n) (hn1:n≤9223372036854775807) (hd0: -9223372036854775808≤d) (hd1:d≤9223372036854775807):
  Calls Tryz.prog 28 #[.int .i64 n,.int .i64 d] w (qHY L (qDr n d) w):=by
 have hmf:∀(fn:Fn) (first cap:Array Value) (w:World),(Instr.makeFunc fn first cap).run Tryz.prog w= .ok (.func fn first cap) w:=fun _ _ _ _=>rfl;obtain⟨W0,hW0,hsz,hle,k0,k1,k2⟩:=qBx w (.cells #[.int .i64 n] 3) (.cells #[.int .i64 d] 3) (.cells #[.bool false,.slice none 0 0,.bool false,.slice none 0 0] 26);have c1:=qAB k1
 by_cases hz:d=0
 ·have hr:qDr n d= .error 11:=by unfold qDr;rw[if_pos hz]
  subst hz;obtain⟨f0,f1,f2,f3⟩:=qAK k2;have⟨g0,g1,g2,g3⟩:=frz4 k2;have hle9:=fun u0 u1 u2 u3=>qBX (u0:=u0) (u1:=u1) (u2:=u2) (u3:=u3) hle (show w.heap.size≤w.heap.size+1+1 by omega);have hb9:=fun u0 u1 u2 u3=>qAK (qBA (u0:=u0) (u1:=u1) (u2:=u2) (u3:=u3) k2);have⟨hr',hL',hle',k0',k1',k2',hle9',hb9'⟩:=hyd8 hr hL hle k0 k1 k2 hle9 hb9;clear hb9 hle9 k2 k1 k0 hle hL hr;go_enter Tryz.func28,Tryz.ntmps28;go_wp2;obtain⟨d0,d1,d2,d3⟩:=hb9'.out (.bool false) (.slice none 0 0) (.bool false) (.slice none 0 0);exact bodyPost_ret (v:= .tuple #[qEe,.int .i64 11]) (by simp[results,Tryz.results28,go_sem,qEe,d0,d1,d2,d3]) rfl ⟨hle9'.out _ _ _ _,_,_,rfl,by rw[hr'.out];exact⟨rfl,rfl⟩⟩
 ·have hr:qDr n d= .ok ((n:Rat) / (d:Rat)):=by unfold qDr;rw[if_neg hz,qDj (qKE hz hn0 hn1 hd0 hd1)]
  have hz1:(d==0)=false:=beq_eq_false_iff_ne.2 hz;obtain⟨R,hR⟩:∃R,(n:Rat) / (d:Rat)=R:=⟨_,rfl⟩
  have hrun:=qEX L R _ #[.pointer (some ⟨w.heap.size,0,none⟩),.pointer (some ⟨w.heap.size+1,0,none⟩)] W0 qJC fun W hW=>by
   have h:=qLq L n d w.heap.size (w.heap.size+1) 3 W (hL.le (hle.trans hW)) hn0 hn1 hd0 hd1 hz ((hW.block _ (by omega)).trans k0) ((hW.block _ (by omega)).trans k1);rw[hR]at h;exact h
  rw[hR]at hr;have⟨hr',hL',hle',k0',k1',k2',hrun',hR'⟩:=hyd8 hr hL hle k0 k1 k2 hrun hR;clear hR hrun k2 k1 k0 hle hL hr;go_enter Tryz.func28,Tryz.ntmps28;go_wp2_with (fail);clear hW0;go_at_call 42;refine hrun'.out.mono ?_;rintro e W1 ⟨v1,rfl,hle1,hres0⟩;have hres:IsRes L W1 v1 0 (.ok R):=⟨hres0,rfl⟩;have hresF:=hres.form;obtain⟨s5,A5,n5,c5,s6,A6,n6,c6,rfl⟩:=hresF;have k9:=(hle1.block _ (gsl k2'.out)).trans k2'.out;have hle9:=fun u0 u1 u2 u3=>qBX (u0:=u0) (u1:=u1) (u2:=u2) (u3:=u3) (hle'.out.trans hle1) (show w.heap.size≤w.heap.size+1+1 by omega);have hb9:=fun u0 u1 u2 u3=>qAK (qBA (u0:=u0) (u1:=u1) (u2:=u2) (u3:=u3) k9);have hfin:=fun u0 u1 u2 u3=>IsRes.box4 (u0:=u0) (u1:=u1) (u2:=u2) (u3:=u3) hres k9;obtain⟨f0,f1,f2,f3⟩:=qAK k9;have⟨g0,g1,g2,g3⟩:=frz4 k9;have⟨hle1',hres0',hres',k9',hle9',hb9',hfin'⟩:=hyd7 hle1 hres0 hres k9 hle9 hb9 hfin;clear hfin hb9 hle9 k9 hres hres0 hle1;go_wp2;obtain⟨d0,d1,d2,d3⟩:=hb9'.out (.bool s5) (.slice A5 n5 c5) (.bool s6) (.slice A6 n6 c6);exact bodyPost_ret (v:= .tuple #[.agg #[.bool s5,.slice A5 n5 c5,.bool s6,.slice A6 n6 c6],.int .i64 0]) (by simp[results,Tryz.results28,go_sem,d0,d1,d2,d3]) rfl ⟨hle9'.out _ _ _ _,_,_,rfl,by rw[hr'.out];exact hfin'.out _ _ _ _⟩
end Go.Proofs.YtenjpccpldajoaaGreatDoor

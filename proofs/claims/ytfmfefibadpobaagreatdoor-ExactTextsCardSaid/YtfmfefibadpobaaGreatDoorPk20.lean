/- reference 1: fractions: Order. reference 1: fractions: written. reference 1: fractions: Out. -/
import Derived.Test.YtfmfefibadpobaaGreatDoorPk19
namespace Go.Proofs.YtfmfefibadpobaaGreatDoor
set_option maxRecDepth 100000
set_option maxHeartbeats 4000000
open Go.RowKit Go.Shelf
set_option linter.unusedVariables false
set_option linter.unusedSimpArgs false
theorem qCE (w:World) (o0 o1:Obj):∃W0,(w.alloc o0).alloc o1=W0/\W0.heap.size=w.heap.size+2/\Le w W0/\W0.heap[w.heap.size]? =some o0/\W0.heap[w.heap.size+1]? =some o1:=by
 obtain⟨b,c,d⟩:=qA9 (Le.refl ((w.alloc o0).alloc o1));exact⟨_,rfl,by simp,b,c,d⟩
theorem qH6:qBV Tryz.prog 22 82 (.int .u32 0) 4:=⟨Tryz.underlying22,by kernel_rfl,rfl⟩
theorem qCP {W:World} {X:Nat} {v0 v1:Value} {t:TypeId} (h:W.heap[X]? =some (Obj.cells #[v0,v1] t)):W.cell? ⟨X,0,none⟩=some v0/\W.cell? ⟨X,1,none⟩=some v1:=
 ⟨cell_of_row W X 0 _ _ _ h,cell_of_row W X 1 _ _ _ h⟩
theorem qFQ {W:World} {X:Nat} {v0 v1 u:Value} {t:TypeId} (h:W.heap[X]? =some (Obj.cells #[v0,v1] t)):(W.setCell ⟨X,1,none⟩ u).heap[X]? =some (.cells #[v0,u] t):=by
 simp only[World.setCell,Array.getElem?_modify,h];simp
theorem qG8 {W:World} {X:Nat} {v0 v1 u0 u1:Value} {t:TypeId} (h:W.heap[X]? =some (Obj.cells #[v0,v1] t)):((W.setCell ⟨X,0,none⟩ u0).setCell ⟨X,1,none⟩ u1).heap[X]? =some (.cells #[u0,u1] t):=by
 simp only[World.setCell,Array.getElem?_modify,h];simp
theorem qBx {w:World} {base:Nat} {e:TypeId} {v:Value} {n:Nat} {xs:List Value} (h:w.ownsRow base e 1 v n xs) {b o:Nat} (hb:b<base) (u:Value):(w.setCell ⟨b,o,none⟩ u).ownsRow base e 1 v n xs:=by
 obtain⟨d,c⟩:=h;refine⟨d,?_⟩
 rcases c with c| ⟨g,cap,cur,hv,hg,hh,r⟩
 ·exact Or.inl c
 ·exact Or.inr ⟨g,cap,cur,hv,hg,(Below.heap_setCell _ _ _ _ (show g≠b by omega)).trans hh,r⟩
structure WrG (base:Nat) (e:TypeId) (s:Value) (pre:List Nat) (g:Nat) (D:Nat->Bool) (x:Nat->Value) (W:World):Prop where
 own:D 8=false->W.ownsRow base e 1 s pre.length (pre.map (gv .u32))
 one:D 7=true->Arr (gv .u32) W (x 7) [g]∨D 8=true
 done:D 8=true->W.ownsRow base e 1 (x 8) (pre++[g]).length ((pre++[g]).map (gv .u32))
theorem WrG.quiet {base:Nat} {e:TypeId} {s:Value} {pre:List Nat} {g:Nat} {D:Nat->Bool} {x:Nat->Value} {W W':World} {i:Nat} {v:Value} (h:WrG base e s pre g D x W) (hle:Le W W') (h7:i≠7) (h8:i≠8):WrG base e s pre g (updB D i) (updV x i v) W':=by
 have c:∀j,j≠i->updB D i j=D j:=λj d=>by simp[updB,d]
 have f:∀j,j≠i->updV x i v j=x j:=λj d=>by simp[updV,d]
 refine⟨?_,?_,?_⟩
 ·rw[c 8 (Ne.symm h8)];exact λb=>qA0 (h.own b) hle
 ·rw[c 7 (Ne.symm h7),f 7 (Ne.symm h7),c 8 (Ne.symm h8)];exact λb=>(h.one b).imp (λk=>k.below hle) id
 ·rw[c 8 (Ne.symm h8),f 8 (Ne.symm h8)];exact λb=>qA0 (h.done b) hle
theorem qDP (L L2:Nat->Prop) (s:Bool) (n:Nat) (vn:Value) (w:World) (hL:Up w L) (hn:NumL L2 .i64 w vn n) (hs:(dg n).length <=1000):
  Calls Tryz.prog 52 #[.bool s,vn] w λe w'=>∃A c,e= .returned (.agg #[.bool s,.slice A (dg n).length c])/\Le w w'/\NumU L w' (.slice A (dg n).length c) n:=by
 obtain⟨A,c,rfl,a1,a2,aN,a3⟩:=hn;unfold maxLen at a2;have hB:=qAD;have⟨a7,aq,bh,a6⟩:=hyd4 hL a3 aN hB;clear hB aN a3 hL;go_enter Tryz.func52,Tryz.ntmps52;go_wp2;obtain⟨W0,V,bq,al,h0,h1⟩:=qCE w (.cells #[.bool false,.slice none 0 0] 24) (.cells #[.bool s,.slice none 0 0] 24);rw[V];have⟨aU,am,a4,a5⟩:=hyd4 V al h0 h1;clear h1 h0 al V;go_loopw [6] (λi wr=>∃(k:Nat) (j:List Nat) (v:Value),k<=(dg n).length /\i= .int .i64 k/\j.length=k/\Hid (j=(dg n).take k)/\Hid (wr.heap[w.heap.size+1]? =some (.cells #[.bool s,v] 24))/\Hid (wr.heap[w.heap.size]? =some (.cells #[.bool false,.slice none 0 0] 24))/\Hid (Below w.heap.size w wr)/\Hid (wr.ownsRow (w.heap.size+2) 82 1 v j.length (j.map (gv .u32)))/\w.heap.size+2<=wr.heap.size) (λi _=>(dg n).length - (intOf i).toNat)
 case atStart=>exact⟨0,[],_,Nat.zero_le _,rfl,rfl,Lib.hid (by simp),a5,a4,am,Lib.hid (World.ownsRow_nil _ _ _ _),by omega⟩
 case round=>
  obtain⟨k,j,v,hk,rfl,ao,G,H,C,I,r,f⟩:=hrel
  by_cases an:k<(dg n).length
  ·obtain⟨bx,ox,rfl,-,aC,aj⟩:=aq.out (by omega);have F:=(I.out.cell (p:=⟨bx,ox+k,none⟩) aC).trans (aj k an);unfold gv at F;clear aj;obtain⟨g,hg⟩:∃g,(dg n)[k]=g:=⟨_,rfl⟩;have bp:g<1000000000:=by rw[<-hg,<-a6.out];exact qAS _ _ _
   rw[hg]at F;have aa:Hid (j++[g]=(dg n).take (k+1)):=Lib.hid (by rw[G.out,List.take_succ_eq_append_getElem an,hg]);obtain⟨Av,cv,ev,-⟩:=(ArrL.of_own r.out (L:=λ_=>True) λ_ _=>trivial:ArrL _ (gv .u32) _ _ _);subst ev;obtain⟨af,U⟩:=qCP H.out;have ag:=I.out;have⟨bo,T⟩:=hyd2 hg ao;clear ao hg;go_wp2_with (fail);refine qD1 (R:=qAW (w.heap.size+2)) 10 [some 15,some 16,some 17,some 18,some 19,some 20,some 21,some 22,some 23,some 24,none] [[],[0],[],[],[2,3],[4],[5],[6],[1,7],[],[8,9]]
    [.eq (.pointer (some ⟨w.heap.size+1,1,none⟩)),.eq (.slice Av j.length cv),.eq (.slice (some ⟨bx,ox,none⟩) (dg n).length c),.eq (.int .i64 k),.eq (.pointer (some ⟨bx,ox+k,none⟩)),.eq (.int .i64 g),.eq (.int .u32 g),.any,.any,.eq (.pointer (some ⟨w.heap.size+1,1,none⟩))]
    (WrG (w.heap.size+2) 82 (.slice Av j.length cv) j g) (λ_ _=>False) (by kernel_rfl) (by kernel_rfl) (by kernel_rfl) (by kernel_rfl) (by kernel_rfl) ?_ ?_ (λ_ _ _ _ h=>h.elim) ?_
   ·exact λD x z=>⟨λ_=>qA0 r.out Le.drew,λh=>absurd h (by rw[z 7 (by decide)];simp),λh=>absurd h (by rw[z 8 (by decide)];simp)⟩
   ·simp only[List.take_succ_cons,List.take_zero];refine sGc rfl ?_ (sGc rfl ?_ (sGc rfl ?_ (sGc rfl ?_ (sGc rfl ?_ (sGc rfl ?_ (sGc rfl ?_ (sGc rfl ?_ (sGc rfl ?_ (sGc rfl ?_ (qBG))))))))))
    ·intro D x W z y m q l Q hK _;have d:=m f;simp only[fA]at hK ⊢;go_wp2;exact hK _ _ ((qAW _).refl _) rfl (l.quiet (Le.refl _) (by decide) (by decide))
    ·intro D x W z y m q l Q hK _;have d:=m f;obtain⟨t,-⟩:=q;change _=_ at t;have cc:=(Below.cell d (p:=⟨w.heap.size+1,1,none⟩) (by show w.heap.size+1<w.heap.size+2;omega)).trans U;simp only[fA,t]at hK ⊢;go_wp2;exact hK _ _ ((qAW _).refl _) rfl (l.quiet (Le.refl _) (by decide) (by decide))
    ·intro D x W z y m q l Q hK _;have d:=m f;simp only[fA]at hK ⊢;go_wp2;exact hK _ _ ((qAW _).refl _) rfl (l.quiet (Le.refl _) (by decide) (by decide))
    ·intro D x W z y m q l Q hK _;have d:=m f;simp only[fA]at hK ⊢;go_wp2;exact hK _ _ ((qAW _).refl _) rfl (l.quiet (Le.refl _) (by decide) (by decide))
    ·intro D x W z y m q l Q hK _;have d:=m f;obtain⟨t,e1,-⟩:=q;change _=_ at t e1;simp only[fA,t,e1]at hK ⊢;go_wp2;exact hK _ _ ((qAW _).refl _) rfl (l.quiet (Le.refl _) (by decide) (by decide))
    ·intro D x W z y m q l Q hK _;have d:=m f;obtain⟨t,-⟩:=q;change _=_ at t;have cc:=(Below.cell d (p:=⟨bx,ox+k,none⟩) (by show bx<w.heap.size+2;omega)).trans F;simp only[fA,t]at hK ⊢;go_wp2;exact hK _ _ ((qAW _).refl _) rfl (l.quiet (Le.refl _) (by decide) (by decide))
    ·intro D x W z y m q l Q hK _;have d:=m f;obtain⟨t,-⟩:=q;change _=_ at t;simp only[fA,t]at hK ⊢;go_wp2;exact hK _ _ ((qAW _).refl _) rfl (l.quiet (Le.refl _) (by decide) (by decide))
    ·intro D x W z y m q l Q hK _;have d:=m f;obtain⟨t,-⟩:=q;change _=_ at t;simp only[fA,t]at hK ⊢;go_wp2;exact hK _ _ (λhz=>(alc1 _ _).mono hz) trivial ⟨λh=>qA0 (l.own (by simpa[updB]using h)) (qAA _ _),λ_=> .inl (by simpa[updV]using qBP .u32 _ _ g),λh=>qA0 (l.done (by simpa[updB]using h)) (qAA _ _) |> (by simpa[updV]using ·)⟩
    ·intro D x W z y m q l Q hK _;have d:=m f;obtain⟨t,-,-⟩:=q;change _=_ at t;have S:Arr (gv .u32) W (x 7) [g]:=(l.one (y 7 (by decide))).resolve_right (by rw[z];simp);have M:=l.own z;simp only[fA,t]at hK ⊢;have bs:=d.size;have⟨Z,N,bn,aT,a9⟩:=hyd5 S M l d m;clear m d l M S;go_wp2_with (at_builtin;go_must (refine qAV rfl (.tmp 16) (.tmp 22) 22 rfl (w.heap.size+2) 82 .u32 4 qH6 (by decide) _ j rfl N.out _ [g] rfl Z.out (by have:=T.out;simp;omega) (by omega) ?_);intro v' w' r1 r2 r3 r4);have⟨aL,aM⟩:=hyd2 r1 r2;clear r1 r2 r3 r4;go_wp2;exact hK _ _ (λ_=>aM.out) trivial ⟨λh=>by simp[updB]at h,λ_=> .inr (by simp[updB]),λ_=>by simpa[updV]using aL.out⟩
    ·intro D x W z y m q l Q hK _;have d:=m f;simp only[fA]at hK ⊢;go_wp2;exact hK _ _ ((qAW _).refl _) rfl (l.quiet (Le.refl _) (by decide) (by decide))
   ·intro D x W z m q l Q' a8 _;have d:=m f;have E:=l.done (z 8 (by decide));have t:=q 0 (by decide);have e1:=q 1 (by decide);have e2:=q 2 (by decide);have e3:=q 3 (by decide);have e4:=q 4 (by decide);have e5:=q 5 (by decide);have e6:=q 6 (by decide);have e9:=q 9 (by decide);change _=_ at t e1 e2 e3 e4 e5 e6 e9;simp only[List.drop_succ_cons,List.drop_zero];rw[show List.range 10=[0,1,2,3,4,5,6,7,8,9]from rfl];simp only[fA,t,e1,e2,e3,e4,e5,e6,e9];generalize x 7=x7;generalize x 8=x8 at*;have B:=(d.block (w.heap.size+1) (by omega)).trans H.out;have J:=(d.block w.heap.size (by omega)).trans C.out;have aG:w.heap.size+2<=W.heap.size:=Nat.le_trans f d.size;obtain⟨z0,z1⟩:=qCP B;have g1:=fz0 B 1;have k1:=qFQ (u:=x8) B;have k0:(W.setCell ⟨w.heap.size+1,1,none⟩ x8).heap[w.heap.size]? =_:=(Below.heap_setCell _ _ _ _ (show w.heap.size≠w.heap.size+1 by omega)).trans J;have k2:Below w.heap.size w (W.setCell ⟨w.heap.size+1,1,none⟩ x8):=(ag.trans (d.mono (by omega))).setCell (p:=⟨w.heap.size+1,1,none⟩) (by show w.heap.size<=w.heap.size+1;omega) _;have k3:=qBx E (o:=1) (show w.heap.size+1<w.heap.size+2 by omega) x8;have k4:w.heap.size+2<=(W.setCell ⟨w.heap.size+1,1,none⟩ x8).heap.size :=by simpa[World.setCell]using aG
    obtain⟨A8,c8,e8,-⟩:=(ArrL.of_own E (L:=λ_=>True) λ_ _=>trivial:ArrL _ (gv .u32) _ _ _);replace e8:x8= .slice A8 (j.length+1) c8:=by rw[e8];simp
    subst e8;clear t e1 e2 e3 e4 e5 e6 e9 q l z E d ag af U F C H r I;have⟨aH,aI,aJ,aK,aB,aA,a9⟩:=hyd7 k0 k1 k2 k3 B J m;clear m J B k3 k2 k1 k0;go_wp2;refine a8 _ _ ?_;go_wp2;go_roundw
    case rel=>exact⟨k+1,j++[g],_,by omega,by go_num,by have:=T.out;simp;omega,aa,aI,aH,aJ,aK,k4⟩
    case measure=>simp[intOf];omega
  ·obtain rfl:k=(dg n).length :=by omega
   have aE:j=dg n:=by rw[G.out,List.take_length]
   subst aE;obtain⟨Av,cv,ev,-⟩:=(ArrL.of_own r.out (L:=λ_=>True) λ_ _=>trivial:ArrL _ (gv .u32) _ _ _);subst ev;obtain⟨af,U⟩:=qCP H.out;obtain⟨bw,bz⟩:=qCP C.out;have⟨g0,g1⟩:=frz2 C.out;have ah:=λu0 u1=>qCP (qG8 (u0:=u0) (u1:=u1) C.out);have P:∀u0 u1,Le w ((wr.setCell ⟨w.heap.size,0,none⟩ u0).setCell ⟨w.heap.size,1,none⟩ u1):=λu0 u1=>(I.out.setCell (p:=⟨w.heap.size,0,none⟩) (Nat.le_refl _) _).setCell (p:=⟨w.heap.size,1,none⟩) (Nat.le_refl _) _
   have O:∀u0 u1,NumU L ((wr.setCell ⟨w.heap.size,0,none⟩ u0).setCell ⟨w.heap.size,1,none⟩ u1) (.slice Av (dg n).length cv) n:=λu0 u1=>by
    have ho:=qBx (qBx r.out (o:=0) (show w.heap.size<w.heap.size+2 by omega) u0) (o:=1) (show w.heap.size<w.heap.size+2 by omega) u1;exact⟨ArrL.of_own ho (λb hb=>a7.out b (by omega)),Unf.own ho⟩
   have⟨ai,Y,X,aW,aV,aD,aX,aF⟩:=hyd8 ah P O H C r I G;clear G I r C H O P ah;go_wp2;obtain⟨d0,d1⟩:=ai.out (.bool s) (.slice Av (dg n).length cv);exact bodyPost_ret (v:= .agg #[.bool s,.slice Av (dg n).length cv]) (by simp[results,Tryz.results52,go_sem,d0,d1]) rfl ⟨_,_,rfl,Y.out _ _,X.out _ _⟩
def qAN:Value:= .agg #[.bool false,.slice none 0 0,.bool false,.slice none 0 0]
def OutPost (L:Nat->Prop) (r:Rat) (w:World) (e:Ending) (w':World):Prop:=Le w w'/\((Rsz r 40/\∃v,e= .returned (.tuple #[v,.int .i64 0])/\FracL L w' v r)∨(¬Rsz r 40/\e= .returned (.tuple #[qAN,.int .i64 12])))
def qG9 (L:Nat->Prop) (w:World) (v:Value) (s:Bool) (n:Nat):Prop:=∃A c,v= .agg #[.bool s,.slice A (dg n).length c]/\NumU L w (.slice A (dg n).length c) n
theorem FracL.le {L:Nat->Prop} {w W:World} {v:Value} {r:Rat} (h:FracL L w v r) (hb:Le w W):FracL L W v r:=by
 obtain⟨A,c,B,d,e,b,f⟩:=h;exact⟨A,c,B,d,e,b.le hb,f.le hb⟩
structure OutG (L:Nat->Prop) (w0:World) (X:Nat) (t:TypeId) (r:Rat) (D:Nat->Bool) (x:Nat->Value) (W:World):Prop where
 w4:D 4=true->qG9 L W (x 4) (rneg r) (rnum r)
 w7:D 7=true->qG9 L W (x 7) false r.den
 w8:D 8=true->FracL L W (x 8) r
 box:D 9=false->W.heap[X]? =some (.cells #[.bool false,.slice none 0 0,.bool false,.slice none 0 0] t)
 fin:D 9=true->D 8=true/\∃A c B d,x 8= .agg #[.bool (rneg r),.slice A (dg (rnum r)).length c,.bool false,.slice B (dg r.den).length d]/\W.heap[X]? =some (.cells #[.bool (rneg r),.slice A (dg (rnum r)).length c,.bool false,.slice B (dg r.den).length d] t)
 le:Le w0 W
theorem OutG.quiet {L:Nat->Prop} {w0:World} {X:Nat} {t:TypeId} {r:Rat} {D:Nat->Bool} {x:Nat->Value} {W W':World} {i:Nat} {v:Value} (h:OutG L w0 X t r D x W) (hle:Le W W') (h4:i≠4) (h7:i≠7) (h8:i≠8) (h9:i≠9):OutG L w0 X t r (updB D i) (updV x i v) W':=by
 have f:∀j,j≠i->updB D i j=D j:=λj m=>by simp[updB,m]
 have l:∀j,j≠i->updV x i v j=x j:=λj m=>by simp[updV,m]
 refine⟨?_,?_,?_,?_,?_,h.le.trans hle⟩
 ·rw[f 4 (Ne.symm h4),l 4 (Ne.symm h4)];exact λb=>by obtain⟨A,c,k,g⟩:=h.w4 b;exact⟨A,c,k,g.le hle⟩
 ·rw[f 7 (Ne.symm h7),l 7 (Ne.symm h7)];exact λb=>by obtain⟨A,c,k,g⟩:=h.w7 b;exact⟨A,c,k,g.le hle⟩
 ·rw[f 8 (Ne.symm h8),l 8 (Ne.symm h8)];exact λb=>(h.w8 b).le hle
 ·rw[f 9 (Ne.symm h9)];exact λb=>(hle.block X (gsl (h.box b))).trans (h.box b)
 ·rw[f 9 (Ne.symm h9),f 8 (Ne.symm h8),l 8 (Ne.symm h8)]
  exact λb=>by
   obtain⟨n,A,c,B,d,k,g⟩:=h.fin b;exact⟨n,A,c,B,d,k,(hle.block X (gsl g)).trans g⟩
theorem qDg (L L2:Nat->Prop) (r:Rat) (v:Value) (w:World) (hL:Up w L) (h:RatL L2 .i64 w v r):
  Calls Tryz.prog 28 #[v] w (OutPost L r w):=by
 obtain⟨An,cn,Ad,cd,rfl,hn,l⟩:=h.form;obtain⟨sr,X⟩:∃sr,rneg r=sr:=⟨_,rfl⟩;rw[X];have bc:((dg (rnum r)).length :Int)<=9223372036854775807:=by obtain⟨A9,c9,e9,q1,q2,-⟩:=hn;unfold maxLen at q2;omega
 have bb:((dg r.den).length :Int)<=9223372036854775807:=by obtain⟨A9,c9,e9,q1,q2,-⟩:=l;unfold maxLen at q2;omega
 by_cases ah:40<(dg (rnum r)).length ∨40<(dg r.den).length
 ·have a0:¬Rsz r 40:=by unfold Rsz;omega
  obtain⟨W0,T,aM,N,h0,h1⟩:=qCE w (.cells #[.bool sr,.slice An (dg (rnum r)).length cn,.slice Ad (dg r.den).length cd] 49) (.cells #[.bool false,.slice none 0 0,.bool false,.slice none 0 0] 26);have⟨h',ad,az,ax,k,V,U,F⟩:=hyd8 h hL hn l X a0 T N;have⟨aH,aw⟩:=hyd2 h0 h1;clear h1 h0 N T a0 X l hn hL h
  rcases ah with hb|hb
  ·have am:40<((dg (rnum r)).length :Int):=by omega
   go_enter Tryz.func28,Tryz.ntmps28;go_wp2;refine bodyPost_ret (v:= .tuple #[qAN,.int .i64 12]) (by simp[results,Tryz.results28,go_sem,qAN]) rfl ⟨?_,.inr ⟨V.out,rfl⟩⟩;have:=F.out;rw[<-U.out]at this;exact this
  ·by_cases aK:40<(dg (rnum r)).length
   ·have am:40<((dg (rnum r)).length :Int):=by omega
    go_enter Tryz.func28,Tryz.ntmps28;go_wp2;refine bodyPost_ret (v:= .tuple #[qAN,.int .i64 12]) (by simp[results,Tryz.results28,go_sem,qAN]) rfl ⟨?_,.inr ⟨V.out,rfl⟩⟩;have:=F.out;rw[<-U.out]at this;exact this
   ·have am:40<((dg r.den).length :Int):=by omega
    have ba:¬40<((dg (rnum r)).length :Int):=by omega
    go_enter Tryz.func28,Tryz.ntmps28;go_wp2;refine bodyPost_ret (v:= .tuple #[qAN,.int .i64 12]) (by simp[results,Tryz.results28,go_sem,qAN]) rfl ⟨?_,.inr ⟨V.out,rfl⟩⟩;have:=F.out;rw[<-U.out]at this;exact this
 ·have aj:Rsz r 40:=by unfold Rsz;omega
  have am:¬40<((dg (rnum r)).length :Int):=by omega
  have aK:¬40<((dg r.den).length :Int):=by omega
  have q1:(dg (rnum r)).length <=40:=by omega
  have q2:(dg r.den).length <=40:=by omega
  clear ah;have⟨h',ad,az,ax,k,ao⟩:=hyd6 h hL hn l X aj;clear aj X l hn hL h;go_enter Tryz.func28,Tryz.ntmps28;go_wp2_with (fail);obtain⟨W0,T,aM,N,h0,h1⟩:=qCE w (.cells #[.bool sr,.slice An (dg (rnum r)).length cn,.slice Ad (dg r.den).length cd] 49) (.cells #[.bool false,.slice none 0 0,.bool false,.slice none 0 0] 26);rw[T];clear T;obtain⟨a8,a9,aA,-⟩:=qAF h0;have ag:=ad.out.le N;have⟨aH,aw,F,aJ⟩:=hyd4 h0 h1 N ag;clear ag N h1 h0;refine qD1 (R:=qAW (w.heap.size+1)) 10 [some 15,some 16,some 17,some 18,some 19,some 20,some 21,some 22,some 23,none,some 3] [[],[0],[],[2],[1,3],[],[5],[6],[4,7],[8],[]]
   [.eq (.pointer (some ⟨w.heap.size,0,none⟩)),.eq (.bool sr),.eq (.pointer (some ⟨w.heap.size,1,none⟩)),.eq (.slice An (dg (rnum r)).length cn),.any,.eq (.pointer (some ⟨w.heap.size,2,none⟩)),.eq (.slice Ad (dg r.den).length cd),.any,.any,.any]
   (OutG L w (w.heap.size+1) 26 r) (λ_ _=>False) (by kernel_rfl) (by kernel_rfl) (by kernel_rfl) (by kernel_rfl) (by kernel_rfl) ?_ ?_ (λ_ _ _ _ h=>h.elim) ?_
  ·exact λD x q=>⟨λh=>absurd h (by rw[q 4 (by decide)];simp),λh=>absurd h (by rw[q 7 (by decide)];simp),λh=>absurd h (by rw[q 8 (by decide)];simp),λ_=>aw.out,λh=>absurd h (by rw[q 9 (by decide)];simp),F.out.trans Le.drew⟩
  ·simp only[List.take_succ_cons,List.take_zero];refine sGc rfl ?_ (sGc rfl ?_ (sGc rfl ?_ (sGc rfl ?_ (sGc rfl ?_ (sGc rfl ?_ (sGc rfl ?_ (sGc rfl ?_ (sGc rfl ?_ (sGc rfl ?_ (qBG))))))))))
   ·intro D x W q f o s i Q hK _;have C:=o (by omega);simp only[fA]at hK ⊢;go_wp2;exact hK _ _ ((qAW _).refl _) rfl (i.quiet (Le.refl _) (by decide) (by decide) (by decide) (by decide))
   ·intro D x W q f o s i Q hK _;have C:=o (by omega);obtain⟨z,-⟩:=s;change _=_ at z;have cc:=(Below.cell C (p:=⟨w.heap.size,0,none⟩) (by show w.heap.size<w.heap.size+1;omega)).trans a8;simp only[fA,z]at hK ⊢;go_wp2;exact hK _ _ ((qAW _).refl _) rfl (i.quiet (Le.refl _) (by decide) (by decide) (by decide) (by decide))
   ·intro D x W q f o s i Q hK _;have C:=o (by omega);simp only[fA]at hK ⊢;go_wp2;exact hK _ _ ((qAW _).refl _) rfl (i.quiet (Le.refl _) (by decide) (by decide) (by decide) (by decide))
   ·intro D x W q f o s i Q hK _;have C:=o (by omega);obtain⟨z,-⟩:=s;change _=_ at z;have cc:=(Below.cell C (p:=⟨w.heap.size,1,none⟩) (by show w.heap.size<w.heap.size+1;omega)).trans a9;simp only[fA,z]at hK ⊢;go_wp2;exact hK _ _ ((qAW _).refl _) rfl (i.quiet (Le.refl _) (by decide) (by decide) (by decide) (by decide))
   ·intro D x W q f o s i Q hK _;obtain⟨z,e1,-⟩:=s;change _=_ at z e1;simp only[fA,z,e1]at hK ⊢;have n:=i.le;have⟨b,ae,g,M⟩:=hyd4 i o n f;clear f n o i;go_wp2_with (fail);go_at_call 52;refine(qDP L L2 sr (rnum r) _ W (ad.out.le g.out) (az.out.le g.out) (by omega)).mono ?_;rintro e w' ⟨P,S,rfl,y1,y2⟩;have⟨m,aq⟩:=hyd2 y1 y2;clear y2 y1;go_wp2;have t:∀j,j≠4->updB D 4 j=D j:=λj H=>by simp[updB,H]
    have G:∀v j,j≠4->updV x 4 v j=x j:=λv j H=>by simp[updV,H]
    refine hK _ _ (λhz=>m.out.mono hz) trivial ⟨?_,?_,?_,?_,?_,g.out.trans m.out⟩
    ·exact λ_=>⟨P,S,by simp[updV,k.out],aq.out⟩
    ·rw[t 7 (by decide),G _ 7 (by decide)];exact λl=>by obtain⟨A,c,Y,O⟩:=b.out.w7 l;exact⟨A,c,Y,O.le m.out⟩
    ·rw[t 8 (by decide),G _ 8 (by decide)];exact λl=>(b.out.w8 l).le m.out
    ·rw[t 9 (by decide)];exact λl=>(m.out.block _ (gsl (b.out.box l))).trans (b.out.box l)
    ·rw[t 9 (by decide),t 8 (by decide),G _ 8 (by decide)]
     exact λl=>by
      obtain⟨k0,A,c,B,d,Y,O⟩:=b.out.fin l;exact⟨k0,A,c,B,d,Y,(m.out.block _ (gsl O)).trans O⟩
   ·intro D x W q f o s i Q hK _;have C:=o (by omega);simp only[fA]at hK ⊢;go_wp2;exact hK _ _ ((qAW _).refl _) rfl (i.quiet (Le.refl _) (by decide) (by decide) (by decide) (by decide))
   ·intro D x W q f o s i Q hK _;have C:=o (by omega);obtain⟨z,-⟩:=s;change _=_ at z;have cc:=(Below.cell C (p:=⟨w.heap.size,2,none⟩) (by show w.heap.size<w.heap.size+1;omega)).trans aA;simp only[fA,z]at hK ⊢;go_wp2;exact hK _ _ ((qAW _).refl _) rfl (i.quiet (Le.refl _) (by decide) (by decide) (by decide) (by decide))
   ·intro D x W q f o s i Q hK _;obtain⟨z,-⟩:=s;change _=_ at z;simp only[fA,z]at hK ⊢;have n:=i.le;have⟨b,ae,g,M⟩:=hyd4 i o n f;clear f n o i;go_wp2_with (fail);go_at_call 52;refine(qDP L L2 false r.den _ W (ad.out.le g.out) (ax.out.le g.out) (by omega)).mono ?_;rintro e w' ⟨P,S,rfl,y1,y2⟩;have⟨m,aq⟩:=hyd2 y1 y2;clear y2 y1;go_wp2;have t:∀j,j≠7->updB D 7 j=D j:=λj H=>by simp[updB,H]
    have G:∀v j,j≠7->updV x 7 v j=x j:=λv j H=>by simp[updV,H]
    refine hK _ _ (λhz=>m.out.mono hz) trivial ⟨?_,?_,?_,?_,?_,g.out.trans m.out⟩
    ·rw[t 4 (by decide),G _ 4 (by decide)];exact λl=>by obtain⟨A,c,Y,O⟩:=b.out.w4 l;exact⟨A,c,Y,O.le m.out⟩
    ·exact λ_=>⟨P,S,by simp[updV],aq.out⟩
    ·rw[t 8 (by decide),G _ 8 (by decide)];exact λl=>(b.out.w8 l).le m.out
    ·rw[t 9 (by decide)];exact λl=>(m.out.block _ (gsl (b.out.box l))).trans (b.out.box l)
    ·rw[t 9 (by decide),t 8 (by decide),G _ 8 (by decide)]
     exact λl=>by
      obtain⟨k0,A,c,B,d,Y,O⟩:=b.out.fin l;exact⟨k0,A,c,B,d,Y,(m.out.block _ (gsl O)).trans O⟩
   ·intro D x W q f o s i Q hK _;obtain⟨P,S,I,n8⟩:=i.w4 (f 4 (by decide));obtain⟨A9,c9,k9,n9⟩:=i.w7 (f 7 (by decide));rw[k.out]at I;simp only[fA,I,k9]at hK ⊢;have⟨b,ae,M,Z,aa,af,bd⟩:=hyd7 i o f n8 n9 I k9;clear k9 I n9 n8 f o i;go_wp2;have t:∀j,j≠8->updB D 8 j=D j:=λj H=>by simp[updB,H]
    have G:∀v j,j≠8->updV x 8 v j=x j:=λv j H=>by simp[updV,H]
    refine hK _ _ ((qAW _).refl _) trivial ⟨?_,?_,?_,?_,?_,b.out.le⟩
    ·rw[t 4 (by decide),G _ 4 (by decide)];exact b.out.w4
    ·rw[t 7 (by decide),G _ 7 (by decide)];exact b.out.w7
    ·exact λ_=>⟨P,S,A9,c9,by simp[updV,k.out],Z.out,aa.out⟩
    ·rw[t 9 (by decide)];exact b.out.box
    ·rw[t 9 (by decide)];intro l;have aL:=(b.out.fin l).1;rw[aL]at q
     cases q
   ·intro D x W q f o s i Q hK _;obtain⟨P,S,A9,c9,I,n8,n9⟩:=i.w8 (f 8 (by decide));rw[k.out]at I;have y:=i.box q;obtain⟨z0,z1,z2,z3⟩:=qAC y;have⟨g0,g1,g2,g3⟩:=frz4 y;have ai:=λu0 u1 u2 u3=>qAQ (u0:=u0) (u1:=u1) (u2:=u2) (u3:=u3) i.le (show w.heap.size<=w.heap.size+1 by omega);have a1:=λu0 u1 u2 u3=>qAJ (u0:=u0) (u1:=u1) (u2:=u2) (u3:=u3) y;simp only[fA,I]at hK ⊢;have⟨b,ae,M,Z,aa,af,E,an⟩:=hyd8 i o f n8 n9 I y ai;have a2:=hyd1 a1;clear a1 ai y I n9 n8 f o i;go_wp2;have t:∀j,j≠9->updB D 9 j=D j:=λj H=>by simp[updB,H]
    have G:∀v j,j≠9->updV x 9 v j=x j:=λv j H=>by simp[updV,H]
    refine hK undef _ ?_ trivial ⟨?_,?_,?_,?_,?_,an.out _ _ _ _⟩
    ·exact λhz=>((((Below.refl _ _).setCell (p:=⟨w.heap.size+1,0,none⟩) (Nat.le_refl _) _).setCell (p:=⟨w.heap.size+1,1,none⟩) (Nat.le_refl _) _).setCell (p:=⟨w.heap.size+1,2,none⟩) (Nat.le_refl _) _).setCell (p:=⟨w.heap.size+1,3,none⟩) (Nat.le_refl _) _
    ·rw[t 4 (by decide),G _ 4 (by decide)];exact λl=>by obtain⟨A,c,Y,O⟩:=b.out.w4 l;exact⟨A,c,Y,O.box4 E.out⟩
    ·rw[t 7 (by decide),G _ 7 (by decide)];exact λl=>by obtain⟨A,c,Y,O⟩:=b.out.w7 l;exact⟨A,c,Y,O.box4 E.out⟩
    ·rw[t 8 (by decide),G _ 8 (by decide)];exact λ_=>⟨P,S,A9,c9,by rw[k.out];exact af.out,Z.out.box4 E.out,aa.out.box4 E.out⟩
    ·exact λh=>by simp[updB]at h
    ·rw[t 8 (by decide),G _ 8 (by decide)];exact λ_=>⟨M.out 8 (by decide),P,S,A9,c9,by rw[k.out];exact af.out,by rw[k.out];exact a2.out _ _ _ _⟩
  ·intro D x W q o s i Q' aI _;obtain⟨P,S,A9,c9,I,n8,n9⟩:=i.w8 (q 8 (by decide));obtain⟨-,B8,d8,aR,d9,J,y⟩:=i.fin (q 9 (by decide));rw[I]at J;injection J with J;injection J with J;simp only[List.cons.injEq,Value.slice.injEq,true_and,and_true]at J;obtain⟨⟨rfl,rfl⟩,rfl,rfl⟩:=J;have n:=i.le;have z:=s 0 (by decide);have e1:=s 1 (by decide);have e2:=s 2 (by decide);have e3:=s 3 (by decide);have e5:=s 5 (by decide);have e6:=s 6 (by decide);change _=_ at z e1 e2 e3 e5 e6;rw[k.out]at I y;simp only[List.drop_succ_cons,List.drop_zero];rw[show List.range 10=[0,1,2,3,4,5,6,7,8,9]from rfl];simp only[fA,z,e1,e2,e3,e5,e6,I];generalize x 4=x4 at*;generalize x 7=x7 at*;obtain⟨d0,d1,d2,d3⟩:=qAC y;clear z e1 e2 e3 e5 e6 s;have⟨b,E,g,Z,aa,af,ae,aZ⟩:=hyd8 i y n n8 n9 I o q;clear q o I n9 n8 n y i;go_wp2;refine aI _ _ ?_;go_wp2;exact bodyPost_ret (v:= .tuple #[.agg #[.bool sr,.slice P (dg (rnum r)).length S,.bool false,.slice A9 (dg r.den).length c9],.int .i64 0]) (by simp[results,Tryz.results28,go_sem,d0,d1,d2,d3]) rfl ⟨g.out,.inl ⟨ao.out,_,rfl,P,S,A9,c9,by rw[k.out],Z.out,aa.out⟩⟩
end Go.Proofs.YtfmfefibadpobaaGreatDoor

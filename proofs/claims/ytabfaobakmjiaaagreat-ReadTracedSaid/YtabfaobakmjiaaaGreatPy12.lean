/- read.mounted: a head at work. -/
import Derived.Test.YtabfaobakmjiaaaGreatPy11
import Derived.BigRegion
namespace Go.Proofs.YtabfaobakmjiaaaGreat
set_option maxRecDepth 100000
set_option maxHeartbeats 1000000
open Go.RowKit
set_option linter.unusedVariables false
set_option linter.unusedSimpArgs false
def MPred.oneS (N:Nat) (s:Spn):MPred:=⟨λv W=>∃X,v= .slice (some ⟨X,0,none⟩) 1 1/\N<=X/\X<W.heap.size/\W.heap[X]? =some (.cells #[.int .i64 s.1,.int .i64 s.2] 115),λv W W' h ⟨X,a,b,c,d⟩=>⟨X,a,b,Nat.lt_of_lt_of_le c h.size,blk h d⟩⟩
def MPred.rowS (N n:Nat) (s:Spn):MPred:=⟨λv W=>∃g,v= .slice (some ⟨g,0,none⟩) n n/\N<=g/\W.heap[g]? =some (.cells ((List.replicate n s).flatMap qAD).toArray 115),λv W W' h ⟨g,a,b,d⟩=>⟨g,a,b,blk h d⟩⟩
theorem qM5 {rds:List Rd} {n:Nat} (h:∀r∈rds,RdOk n r) {c:Int} (hc:hasC rds c=true):0<=c/\c<=11:=by
 unfold hasC at hc;rw[List.any_eq_true]at hc;obtain⟨r,b,e⟩:=hc;have:=h r b;unfold RdOk at this;simp at e;omega
theorem qRd {f:List Int} {i:Int} {q:Nat} (hq:i%(f.length:Int)=(q:Int)) (hl:q<f.length):atR f i=f[q]:=by
 unfold atR;rw[hq,Int.toNat_natCast,List.getD_eq_getElem?_getD,List.getElem?_eq_getElem hl];rfl
theorem qGH (v:Value) (p:Pic) (m:Nat) (throw:Int) (w:World) (hp:IsPic w v p) (hok:PicM p) (hm:m<p.hs.length) (ht:0<=throw/\throw<=16):
  Calls Tryz.prog 44 #[v,.int .i64 (m:Int),.int .i64 throw] w λe w'=>∃B n D bl Z,e= .returned (.agg #[.int .i64 (m:Int),.int .i64 throw,.map (some B)])/\Below w.heap.size w w'/\n<=60/\Bases w' B n D bl Z p.steps (hasC p.rds) (rowS p.rds (p.lift m) throw p.steps)/\w.heap.size<=B:=by
 have fz:=@run_makeMap Tryz.prog;have da:=hp;obtain⟨vh,vr,rfl,hh,hr⟩:=hp;obtain⟨HA,hc,rfl,dW⟩:=hh.slice;obtain⟨RA,rc,rfl,ec⟩:=hr.slice;unfold maxLen at dW ec;obtain⟨W0,dK,bJ,k0⟩:=newb w (.cells #[.slice HA p.hs.length hc,.int .i64 p.tl,.int .i64 p.th,.int .i64 p.al,.int .i64 p.ah,.slice RA p.rds.length rc] 51);obtain⟨W1,dL,aY,k1⟩:=newb W0 (.cells #[.int .i64 0,.int .i64 0,.map none] 108);have av:=qAA bJ aY;have an:=hh.le av;have dc:=hr.le av;have cd:=blk aY k0;obtain⟨c0,c1,c2,c3,c4,c5⟩:=pc6 cd;obtain⟨bh,oh,ch,ga,fZ,bO,dU,g0,g1,i0,i1⟩:=an.at hm;injection bO with e1 e2 e3;subst e1 e3;clear e2;obtain⟨Ar,cr,rfl,-⟩:=id i0;obtain⟨Ab,cb,rfl,-⟩:=id i1;have ae:=hok.head _ (List.getElem_mem hm);have f5:=hok.steps;rw[ae.1]at g0 i0;have ay:qAo p.hs[m].rub p.hs[m].ros.length =true:=by rw[ae.1];exact ae.2.2
 obtain⟨lift,E⟩:∃l,qCX p.hs[m].ros p.hs[m].rub =l:=⟨_,rfl⟩;have bT:p.lift m=lift:=by unfold Pic.lift;rw[List.getD_eq_getElem?_getD,List.getElem?_eq_getElem hm];exact E
 have bS:lift.length=p.steps:=by rw[<-E,qBD];exact ae.1
 have cU:qAY lift=true:=by rw[<-E];exact qIg ae.2.1 ay
 have df:∀r∈p.rds,RdOk p.steps r:=λr h=>hok.rd r h;obtain⟨W2,dM,aZ,k2⟩:=newb W1 (.cells #[.slice Ar p.steps cr,.slice Ab p.hs[m].rub.length cb] 113);obtain⟨x0,x1⟩:=pc2 k2;have hE:qBT p.hs[m].ros p.hs[m].rub =0:=by unfold qBT;rw[if_pos ae.2.1,if_pos ay]
 have ca:Ints W2 (.slice Ar p.steps cr) p.hs[m].ros :=by have h:=i0.below aZ;exact h
 have ap:=qLn _ _ p.hs[m].ros p.hs[m].rub W2 ca (i1.below aZ) 0 hE;rw[E,bS]at ap;have j1:(m:Int)<(p.hs.length:Int):=by omega
 have j2:(0:Int)<=(m:Int):=by omega
 generalize hBL:p.hs[m].rub.length =BL at*;rw[bT];have⟨eP,fx,eb,b5,cM,eF,cN,fD⟩:=hyd8 da hh hr hok bJ aY aZ k0;have⟨el,fE,bN,eK,eQ,dj,f7,f8⟩:=hyd8 k1 k2 av an dc cd i0 i1;have⟨eL,ee,d8,eN,bz,b3,b7,fr⟩:=hyd8 ae ay E bT bS cU df hE;have⟨eR,bf,e9⟩:=hyd3 ca ap hBL;clear hBL ap ca hE df cU bS bT E ay ae i1 i0 cd dc an av k2 k1 k0 aZ aY bJ hok hr hh da;go_enter Tryz.func44,Tryz.ntmps44;go_wp2_with (fail);go_at_call 92;refine bf.out.mono ?_;rintro e y ⟨vl,rfl,bK,b6,-⟩;have bd:=b6 trivial;clear b6;have bw:=qFf bd;obtain⟨LA,lc,rfl⟩:=qAH bd;obtain⟨W4,dN,bM,k4⟩:=newb y (.map #[] 0);obtain⟨W5,dO,ba,k5⟩:=newb W4 (.cells #[.int .i64 (m:Int),.int .i64 throw,.map (some y.heap.size)] 108);have aa:=qAA cN.out bK;have aL:=qAA bN.out aa;have au:=qAA bM ba;have cl:=blk aa dj.out;have cn:=blk aa el.out;have cm:=blk au cl;have bg:=blk ba k4;have dd:=eb.out.le aL;obtain⟨b0,b1,b2⟩:=pc3 k5;clear c0 c1 c2 c3 c4 c5 x0 x1 g0 g1;obtain⟨c0,c1,c2,c3,c4,c5⟩:=pc6 cm;have gg:y.heap.size<W5.heap.size:=gsl bg;have dx:W0.heap.size<W4.heap.size:=Nat.lt_trans (gsl cn) (gsl k4);have gh:W4.heap.size<W5.heap.size:=gsl k5;have cC:∃n D bl,Below y.heap.size y W5/\W5.heap[W4.heap.size]? =some (.cells #[.int .i64 (m:Int),.int .i64 throw,.map (some y.heap.size)] 108)/\W5.heap.size<=W5.heap.size/\n<=0/\Bases W5 y.heap.size n D bl W5.heap.size p.steps (hasC (p.rds.take 0)) (rowS (p.rds.take 0) lift throw p.steps):=⟨0,_,_,au,k5,Nat.le_refl _,Nat.le_refl _,(Bases.start (row:=λ_=>[]) bg).congr (λc=>rfl) (λc hc=>by cases hc)⟩
 have⟨eG,eO,bP,eH,eI,fF,fG,dR⟩:=hyd8 bK bd bw bM ba k4 k5 aa;have⟨aM,dS,dt,dv,eX,eV,de,cD⟩:=hyd8 aL au cl cn cm bg dd cC;have dy:=hyd1 dx;clear dx cC dd bg cm cn cl au aL aa k5 k4 ba bM bw bd bK;go_wp2_with (fail);clear dK dL dM dN dO;generalize hP1:W0.heap.size=P1 at*;generalize hP5:W4.heap.size=P5 at*;generalize hZ5:W5.heap.size=Z5 at*;have⟨cF,eC,cJ⟩:=hyd3 hP1 hP5 hZ5;clear hZ5 hP5 hP1;go_loopw [39] (λix wr=>∃j:Nat,j<=p.rds.length/\ix= .int .i64 (j:Int)/\Hid (∃n D bl,Below y.heap.size y wr/\wr.heap[P5]? =some (.cells #[.int .i64 (m:Int),.int .i64 throw,.map (some y.heap.size)] 108)/\Z5<=wr.heap.size/\n<=j/\Bases wr y.heap.size n D bl Z5 p.steps (hasC (p.rds.take j)) (rowS (p.rds.take j) lift throw p.steps))) (λix _=>p.rds.length - (intOf ix).toNat)
 case atStart=>
  obtain⟨n0,D0,dF,q1,q2,q3,q4,q5⟩:=cD.out;exact⟨0,Nat.zero_le _,rfl,Lib.hid ⟨n0,D0,dF,q1,q2,Nat.le_of_eq cJ.out.symm,q4,q5⟩⟩
 case round=>
  obtain⟨j,hj,rfl,hI⟩:=hrel;obtain⟨n,D,bl,F,km,fu,hn,hB⟩:=hI.out;have kp:=blk F dt.out;have kr:=blk F dv.out;clear b0 b1 b2 c0 c1 c2 c3 c4 c5;obtain⟨b0,b1,b2⟩:=pc3 km;obtain⟨c0,c1,c2,c3,c4,c5⟩:=pc6 kp
  by_cases bU:j<p.rds.length
  ·obtain⟨bq,off,fY,bO,dU,g0,g1,g2,g3⟩:=RdsL.cells (de.out.le F) bU;injection bO with e1 e2 e3;subst e1 e3;clear e2;have af:=List.getElem_mem bU;have ax:=b7.out _ af;have a0:p.rds.take (j+1)=p.rds.take j++[p.rds[j]]:=List.take_succ_eq_append_getElem bU;obtain⟨r,aQ⟩:∃r,p.rds[j]=r:=⟨_,rfl⟩;rw[aQ]at g0 g1 g2 g3 ax a0;obtain⟨z,I⟩:∃l,p.rds.take j=l:=⟨_,rfl⟩;rw[I]at hB a0;have aw:∀q∈z,RdOk p.steps q:=λq hq=>b7.out q (List.mem_of_mem_take (by rw[I];exact hq));obtain⟨f,o,t,s⟩:=r;unfold RdOk at ax;dsimp only at g0 g1 g2 g3 ax;obtain⟨⟨fQ,fR⟩,⟨fS,fT⟩,fU,fV,fW⟩:=ax;obtain⟨W6,cH,am,k6⟩:=newb wr (.cells #[.int .i64 f,.int .i64 o,.int .i64 t,.int .i64 s] 60);obtain⟨d0,d1,d2,d3⟩:=pc4 k6;have aj:=hB.le am;have ab:=qAA F am;have a5:=blk am km;clear b0 b1 b2;obtain⟨b0,b1,b2⟩:=pc3 a5;have j3:(j:Int)<(p.rds.length:Int):=by omega
   have j4:(0:Int)<=(j:Int):=by omega
   have a1:(Lit.int .i64 f).wf =true:=WalkArith.wf_i64 (by omega);have z6:wr.heap.size<W6.heap.size:=gsl k6;have H:=qOO z ⟨f,o,t,s⟩;have b4:n<=60:=by have:=b5.out.reads;omega
   obtain⟨B8,ak⟩:∃b,hasC z f=b:=⟨_,rfl⟩
   cases B8
   case' true=>
    have cK:=aj.get f ak;have cX:=λW=>Lib.run_eql_slice_nil (P:=Tryz.prog) W 110 115 (some ⟨bl f,0,none⟩) p.steps p.steps 0 0 Tryz.underlying110
    have aC:∃n D bl,Below y.heap.size y W6/\W6.heap[P5]? =some (.cells #[.int .i64 (m:Int),.int .i64 throw,.map (some y.heap.size)] 108)/\W6.heap[wr.heap.size]? =some (.cells #[.int .i64 f,.int .i64 o,.int .i64 t,.int .i64 s] 60)/\Z5<=W6.heap.size/\n<=j+1/\Bases W6 y.heap.size n D bl Z5 p.steps (hasC (z++[⟨f,o,t,s⟩])) (λd=>if d=f then rowK z lift throw p.steps f ⟨f,o,t,s⟩ 0 else rowS z lift throw p.steps d):=
     ⟨n,D,bl,ab,a5,k6,by omega,by omega,aj.congr (λc=>by
      rw[H c]
      by_cases e:f=c
      ·subst e;rw[ak];rfl
      ·simp[e]) (λc hc=>by
      by_cases e:c=f
      ·subst e;rw[if_pos rfl,qJY]
      ·rw[if_neg e])⟩
    have⟨cB,bv,cV,cz,dq,ds,du,bV⟩:=hyd8 hI F hn hB km kp kr af;have⟨b8,dh,bX,aP,cO,cf,Y,aH⟩:=hyd8 a0 aQ I aw am k6 aj ab;have⟨aS,cL,aB,S,aD⟩:=hyd5 a5 cK ak H aC;clear aC H ak cK a5 ab aj k6 am aw I aQ a0 af kr kp km hB hn F hI;go_wp2_with (first | (at_lookup;refine qIk rfl (.tmp 44) (.tmp 46) rfl rfl Y.out.own f rfl a1 _ _ _ cL.out ?_)|fail);clear cH b0 b1 b2 c0 c1 c2 c3 c4 c5 d0 d1 d2 d3;generalize hX6:wr.heap.size=X6 at*;have cI:=hyd1 hX6;clear hX6
   case' false=>
    have cX:=λW=>Lib.run_eql_slice_nil (P:=Tryz.prog) W 110 115 none 0 0 0 0 Tryz.underlying110;have bW:=aj.has f a1;rw[ak]at bW;have⟨cB,bv,cV,cz,dq,ds,du,bV⟩:=hyd8 hI F hn hB km kp kr af;have⟨b8,dh,bX,aP,cO,cf,Y,aH⟩:=hyd8 a0 aQ I aw am k6 aj ab;have⟨aS,cY,aB,S⟩:=hyd4 a5 bW ak H;clear H ak bW a5 ab aj k6 am aw I aQ a0 af kr kp km hB hn F hI;go_wp2_with (first | (at_lookup;refine qIl rfl (.tmp 44) (.tmp 46) rfl rfl Y.out.own f rfl a1 cY.out ?_)|fail);clear cH b0 b1 b2 c0 c1 c2 c3 c4 c5 d0 d1 d2 d3;generalize hX6:wr.heap.size=X6 at*;have cI:=hyd1 hX6;clear hX6;refine qDb (R:=leRel) 8 [some 49,some 50,some 51,some 52,some 53,some 54,some 55,some 56,none] [[],[0],[],[2],[],[4],[],[5,6],[1,3,7]]
     [.eq (.pointer (some ⟨P5,2,none⟩)),.eq (.map (some y.heap.size)),.eq (.pointer (some ⟨X6,0,none⟩)),.eq (.int .i64 f),.eq (.agg #[.int .i64 (-1099511627776),.int .i64 1099511627776]),MPred.oneS X6 (-1099511627776,1099511627776),.eq (.int .i64 (p.steps:Int)),MPred.rowS W6.heap.size p.steps (-1099511627776,1099511627776)] (λ_ _=>False) (by kernel_rfl) (by kernel_rfl) (by kernel_rfl) (by kernel_rfl) (by kernel_rfl) ?_ (λ_ _ _ _ h=>h.elim) ?_
    ·simp only[List.take_succ_cons,List.take_zero];refine sMc rfl ?_ (sMc rfl ?_ (sMc rfl ?_ (sMc rfl ?_ (sMc rfl ?_ (sMc rfl ?_ (sMc rfl ?_ (sMc rfl ?_ (qD9))))))))
     ·intro xv W M hf Q hK hP;simp only[fA]at hK ⊢;go_wp2;exact hK _ _ lrR rfl
     ·intro xv W M hf Q hK hP;obtain⟨e0,-⟩:=hf;change _=_ at e0;have cc:=(pc3 (blk M aS.out)).2.2;simp only[fA,e0]at hK ⊢;go_wp2;exact hK _ _ lrR rfl
     ·intro xv W M hf Q hK hP;simp only[fA]at hK ⊢;go_wp2;exact hK _ _ lrR rfl
     ·intro xv W M hf Q hK hP;obtain⟨e0,-⟩:=hf;change _=_ at e0;have cc:=(pc4 (blk M cf.out)).1;simp only[fA,e0]at hK ⊢;go_wp2;exact hK _ _ lrR rfl
     ·intro xv W M hf Q hK hP;simp only[fA]at hK ⊢;go_wp2;exact hK _ _ lrR rfl
     ·intro xv W M hf Q hK hP;obtain⟨e0,-⟩:=hf;change _=_ at e0;simp only[fA,e0]at hK ⊢;go_wp2;exact hK _ _ (alc1 _ _) ⟨_,rfl,by have h:=M.size;omega,by simp,qCN _ _⟩
     ·intro xv W M hf Q hK hP;simp only[fA]at hK ⊢;go_wp2;exact hK _ _ lrR rfl
     ·intro xv W M hf Q hK hP;obtain⟨e0,e1,-⟩:=hf;change _=_ at e1;replace e0:∃X,(xv 5)= .slice (some ⟨X,0,none⟩) 1 1/\X6<=X/\X<W.heap.size/\W.heap[X]? =some (.cells #[.int .i64 (-1099511627776),.int .i64 1099511627776] 115):=e0;obtain⟨X,qx,ge,es,kx⟩:=e0;simp only[fA,e1,qx]at hK ⊢;clear qx;go_wp2_with (fail);go_at_call 93;refine(qOP X p.steps (-1099511627776,1099511627776) W (by omega) (by omega) es kx).mono ?_;rintro e w' ⟨rfl,y1,y2⟩;have⟨eo,er⟩:=hyd2 y1 y2;clear y2 y1;go_wp2;exact hK _ _ eo.out ⟨_,rfl,by have h:=M.size;omega,er.out⟩
    intro xv W7 M hf Q' cG _;have e1:xv 1= .map (some y.heap.size):=hf 1 (by decide);have e3:xv 3= .int .i64 f:=hf 3 (by decide);obtain⟨g,e7,fw,dn⟩:∃g,xv 7= .slice (some ⟨g,0,none⟩) p.steps p.steps/\W6.heap.size<=g/\W7.heap[g]? =some (.cells ((List.replicate p.steps (-1099511627776,1099511627776)).flatMap qAD).toArray 115):=hf 7 (by decide);simp only[List.drop_succ_cons,List.drop_zero];rw[show List.range 8=[0,1,2,3,4,5,6,7]from rfl];simp only[fA,e1,e3,e7];clear e1 e3 e7 hf;have c6:=Y.out.le M;have dr:=blk M aS.out;have dl:=blk M cf.out;have bt:=qAA aH.out M;have dZ:n<maxLen:=by unfold maxLen;omega
    have ei:Z5<=g:=by omega
    have gj:=Below.size M;have⟨fs,aq,aT,aR,aI,dp⟩:=hyd6 M c6 dr dl bt dn;clear dn bt dl dr c6 M;go_wp2_with (first | (at_mapUpdate;refine wpList_mapUpdate_own _ rfl _ _ _ 106 rfl 3 110 qER Tryz.underlying106 hdR y.heap.size n D rfl aq.out.own dZ _ _ (.int .i64 f) rfl rfl (Maps.keyOf_int_mk Tryz.underlying3 a1) (hdD g p.steps p.steps) [] (qF9 (some (g,p.steps,p.steps))) ?_;intro wq ao A)|fail);have bF:=aq.out.put (c:=f) aB.out a1 (λd hd e=>by have h:=gsl (Y.out.blk d hd).2;omega) ei (by omega) dp.out (by simp) ao A;have ci:wq.heap[P5]? =some (.cells #[.int .i64 (m:Int),.int .i64 throw,.map (some y.heap.size)] 108):=(A.block P5 (gsl aT.out) (by simpa using qCp aq.out.own aT.out)).trans aT.out;have cg:wq.heap[X6]? =some (.cells #[.int .i64 f,.int .i64 o,.int .i64 t,.int .i64 s] 60):=(A.block X6 (gsl aR.out) (by simpa using qCp aq.out.own aR.out)).trans aR.out;have aJ:Below y.heap.size y wq:=Below.grown aI.out A aI.out.size (λk e=>by injection e with e;omega);have gk:=A.size
    have aC:∃n D bl,Below y.heap.size y wq/\wq.heap[P5]? =some (.cells #[.int .i64 (m:Int),.int .i64 throw,.map (some y.heap.size)] 108)/\wq.heap[X6]? =some (.cells #[.int .i64 f,.int .i64 o,.int .i64 t,.int .i64 s] 60)/\Z5<=wq.heap.size/\n<=j+1/\Bases wq y.heap.size n D bl Z5 p.steps (hasC (z++[⟨f,o,t,s⟩])) (λd=>if d=f then rowK z lift throw p.steps f ⟨f,o,t,s⟩ 0 else rowS z lift throw p.steps d):=
     ⟨n+1,_,_,aJ,ci,cg,by omega,by have:=cV.out;omega,bF.congr (λc=>by rw[S.out c,Bool.or_comm];congr 1;exact decide_eq_decide.2 eq_comm) (λc hc=>by
      by_cases e:c=f
      ·subst e;simp only[if_true];rw[qJY,qON aB.out]
      ·simp only[if_neg e])⟩
    have⟨dA,cS,eA,eW,eT,dT,aD⟩:=hyd7 ao A bF ci cg aJ aC;clear aC aJ cg ci bF A ao;refine cG _ _ ?_;clear cG;go_wp2_with (fail)
   all_goals
    go_loopw [58] (λkx T=>∃k:Nat,k<=p.steps/\kx= .int .i64 (k:Int)/\Hid (∃n D bl,Below y.heap.size y T/\T.heap[P5]? =some (.cells #[.int .i64 (m:Int),.int .i64 throw,.map (some y.heap.size)] 108)/\T.heap[X6]? =some (.cells #[.int .i64 f,.int .i64 o,.int .i64 t,.int .i64 s] 60)/\Z5<=T.heap.size/\n<=j+1/\Bases T y.heap.size n D bl Z5 p.steps (hasC (z++[⟨f,o,t,s⟩])) (λd=>if d=f then rowK z lift throw p.steps f ⟨f,o,t,s⟩ k else rowS z lift throw p.steps d))) (λkx _=>p.steps - (intOf kx).toNat)
    case atStart=>exact⟨0,Nat.zero_le _,rfl,aD⟩
    case round=>
     clear aD;rename World=>T
     obtain⟨k,hk,rfl,hJ⟩:=hrel;obtain⟨nv,Dv,U,az,a6,a2,dP,cZ,J⟩:=hJ.out
     by_cases bQ:k<p.steps
     ·obtain⟨b0,b1,b2⟩:=pc3 a6;obtain⟨d0,d1,d2,d3⟩:=pc4 a2;have ad:hasC (z++[⟨f,o,t,s⟩]) f=true:=by rw[S.out];simp
      have aG:=J.get f ad;have a4:=(J.blk f ad).2;have gd:=(J.blk f ad).1;simp only[if_true]at a4;obtain⟨y0,y1⟩:=qHY a4 (j:=k) (by rw[qCd];exact bQ);rw[qKc]at y0 y1;have dY:∀q,(Instr.lookup 106 (.map (some y.heap.size)) (.int .i64 f) false).run Tryz.prog (T.drewN q)= .ok (.slice (some ⟨U f,0,none⟩) p.steps p.steps) (T.drewN q):=λq=>qP9 (w:=T.drewN q) J.own a1 aG;have fg:∀i,T.frozen? ⟨U f,i,none⟩=false:=λi=>pfrz a4 i;have f0:=fg (k*2);have f1:=fg (k*2+1);have bc:U f≠X6:=qGp a4 a2 (by decide);have n1:¬U f=X6:=bc;have n2:¬X6=U f:=λe=>bc e.symm;obtain⟨q,hq⟩:∃q:Nat,(o - (k:Int)+(p.steps:Int))%(p.steps:Int)=(q:Int):=⟨((o - (k:Int)+(p.steps:Int))%(p.steps:Int)).toNat,by have:=Int.emod_nonneg (o - (k:Int)+(p.steps:Int)) (show(p.steps:Int)≠0 by omega);omega⟩;have ea:q<p.steps:=by have:=Int.emod_lt_of_pos (o - (k:Int)+(p.steps:Int)) (show(0:Int)<p.steps by omega);omega
      have db:q<lift.length:=by rw[bz.out];exact ea
      have an:=qM4 b3.out ⟨f,o,t,s⟩ k
      have aF:hAt lift ⟨f,o,t,s⟩ k=lift[q]:=by
       unfold hAt;exact qRd (by show(o - (k:Int))%(lift.length:Int)=(q:Int);rw[bz.out,<-hq,Int.add_emod_right]) db
      rw[aF]at an;obtain⟨lb,lo,fJ,dX,fy,-,-,N⟩:=Ints.cells (bP.out.below az) (by omega);injection dX with e4 e5 e6;subst e4 e6;clear e5;have bR:=N q db;obtain⟨x,hx⟩:∃x,lift[q]=x:=⟨_,rfl⟩;rw[hx]at bR an aF;have m2:=qHx ht.1 ht.2 (b:=x) (B:=10000) (by omega) (by omega) (by decide);have m3:=Int.mul_nonneg ht.1 an.1;have bx:T.cell? ⟨lb,lo+((o - (k:Int)+(p.steps:Int))%(p.steps:Int)).toNat,none⟩=some (.int .i64 x):=by rw[hq,Int.toNat_natCast];exact bR
      have i3:(0:Int)<=(o - (k:Int)+(p.steps:Int))%(p.steps:Int):=by omega
      have i4:(o - (k:Int)+(p.steps:Int))%(p.steps:Int)<(p.steps:Int):=by omega
      have i5:¬(p.steps:Int)=0:=by omega
      rw[Int.add_emod_right]at bx i3 i4;have i9:¬p.steps=0:=by omega
      have f9:(0:Int)<(p.steps:Int):=by omega
      have i6:(0:Int)<=o - (k:Int)+(p.steps:Int):=by omega
      have i7:(k:Int)<(p.steps:Int):=by omega
      have i8:(0:Int)<=(k:Int):=by omega
      obtain⟨v1,v2,v3,v4⟩:=qJZ (c:=f) (ph:=k) b3.out ht aP.out;have C:=qHy z lift throw f k ⟨f,o,t,s⟩;rw[if_pos rfl,aF]at C;dsimp only at C;obtain⟨O,hO⟩:∃O,qAk z lift throw f k=O:=⟨_,rfl⟩;rw[hO]at y0 y1 v1 v2 v3 v4 C;obtain⟨o1,o2⟩:=O;dsimp only at y0 y1 v1 v2 v3 v4 C;have⟨dH,bs,bu,bD,b9,dQ,eU,fq⟩:=hyd8 hJ J az a6 a2 aG a4 fg;have⟨cW,f3,eE,cT,f6,dJ,bb,aO⟩:=hyd8 bc hq aF N hx hO C ad;clear ad C hO hx N aF hq bc fg a4 aG a2 a6 az J hJ;go_wp2_with (fail);go_quiet (fail);have ac:Below T.heap.size T (T.drewN nq):=qAQ (Below.refl _ _) nq;have aX:=bs.out.le ac;have cj:=blk ac bD.out;have be:=blk ac b9.out;have aK:=qAA bu.out ac;have et:=ac.size;clear b0 b1 b2 d0 d1 d2 d3 y0 y1 f0 f1 dY bx bR;generalize T.drewN nq=wu at ac aX cj be aK et ⊢;have a3:=(aX.blk f aO.out).2;simp only[if_true]at a3;obtain⟨y0,y1⟩:=qHY a3 (j:=k) (by rw[qCd];exact bQ);rw[qKc,dJ.out]at y0 y1;dsimp only at y0 y1;obtain⟨d0,d1,d2,d3⟩:=pc4 be;have f0:=pfrz a3 (k*2);have f1:=pfrz a3 (k*2+1);generalize hG:U f=G at*;generalize hTX:throw*x=tx at*;have⟨eJ,c9,bC,dm,bL,bA,cA,eD⟩:=hyd8 ac aX cj be aK a3 hG hTX;clear hTX hG a3 aK be cj aX ac;go_wp2_with (fail);go_region;obtain⟨u1,bY⟩:∃u,(if o1<t - tx then t - tx else o1)=u:=⟨_,rfl⟩
      obtain⟨u2,bZ⟩:∃u,(if s - tx<o2 then s - tx else o2)=u:=⟨_,rfl⟩;have hs:((u1,u2):Spn)=qAk (z++[⟨f,o,t,s⟩]) lift throw f k:=by rw[bb.out,<-bY,<-bZ,qSB,qSC]
      have ag:=qPa bA.out (j:=k) (by rw[qCd];exact bQ) (u1,u2);dsimp only at ag;rw[hs,qPc]at ag;have bG:P5≠G:=(qGp bA.out bC.out (by decide)).symm
      have aE:∃n D bl,Below y.heap.size y (((wu.setCell ⟨G,k*2,none⟩ (.int .i64 u1)).setCell ⟨G,k*2+1,none⟩ (.int .i64 u2)).drew)/\(((wu.setCell ⟨G,k*2,none⟩ (.int .i64 u1)).setCell ⟨G,k*2+1,none⟩ (.int .i64 u2)).drew).heap[P5]? =some (.cells #[.int .i64 (m:Int),.int .i64 throw,.map (some y.heap.size)] 108)/\(((wu.setCell ⟨G,k*2,none⟩ (.int .i64 u1)).setCell ⟨G,k*2+1,none⟩ (.int .i64 u2)).drew).heap[X6]? =some (.cells #[.int .i64 f,.int .i64 o,.int .i64 t,.int .i64 s] 60)/\Z5<=(((wu.setCell ⟨G,k*2,none⟩ (.int .i64 u1)).setCell ⟨G,k*2+1,none⟩ (.int .i64 u2)).drew).heap.size /\n<=j+1/\Bases (((wu.setCell ⟨G,k*2,none⟩ (.int .i64 u1)).setCell ⟨G,k*2+1,none⟩ (.int .i64 u2)).drew) y.heap.size n D bl Z5 p.steps (hasC (z++[⟨f,o,t,s⟩])) (λd=>if d=f then rowK z lift throw p.steps f ⟨f,o,t,s⟩ (k+1)else rowS z lift throw p.steps d):=
       ⟨nv,Dv,U,qAQ (qSD bL.out (by omega) _ _) 1,(qNF _ _ _ _ _ _ _ bG).trans bC.out,(qNF _ _ _ _ _ _ _ cW.out.symm).trans dm.out,by show Z5<=_;simp[World.setCell];omega,cZ,((c9.out.set (c:=f) aO.out (L:=rowK z lift throw p.steps f ⟨f,o,t,s⟩ (k+1)) (qCd _ _ _ _ _ _ _) (W:=((wu.setCell ⟨G,k*2,none⟩ (.int .i64 u1)).setCell ⟨G,k*2+1,none⟩ (.int .i64 u2)).drew) (by rw[cA.out];exact ag) (λq hq=>by rw[cA.out]at hq;exact qNF _ _ _ _ _ _ _ hq)).congr (λ_=>rfl) (λc _=>by
        by_cases e:c=f
        ·simp only[if_pos e]
        ·simp only[if_neg e]))⟩
      simp only[bY,bZ];clear bY bZ;have⟨ar,f4,ed,eB⟩:=hyd4 aE hs ag bG;clear bG ag hs aE;generalize ((wu.setCell ⟨G,k*2,none⟩ (.int .i64 u1)).setCell ⟨G,k*2+1,none⟩ (.int .i64 u2)).drew =wz at ar ⊢;clear y0 y1 f0 f1 d0 d1 d2 d3;go_wp2;go_roundw
      case rel=>exact⟨k+1,by omega,by go_num,ar⟩
      case measure=>simp[intOf];omega
     ·obtain rfl:k=p.steps:=by omega
      have aE:∃n D bl,Below y.heap.size y T/\T.heap[P5]? =some (.cells #[.int .i64 (m:Int),.int .i64 throw,.map (some y.heap.size)] 108)/\Z5<=T.heap.size/\n<=j+1/\Bases T y.heap.size n D bl Z5 p.steps (hasC (p.rds.take (j+1))) (rowS (p.rds.take (j+1)) lift throw p.steps):=
       ⟨nv,Dv,U,az,a6,dP,cZ,by
        rw[b8.out];refine J.congr (λ_=>rfl) λc _=>?_
        by_cases e:c=f
        ·subst e;rw[if_pos rfl,qPb]
        ·rw[if_neg e,qNE (by exact λq=>e q.symm)]⟩
      have⟨dH,bu,bD,b9,bs,ar⟩:=hyd6 hJ az a6 a2 J aE;clear aE J a2 a6 az hJ;go_wp2;go_roundw
      case rel=>exact⟨j+1,by omega,by go_num,ar⟩
      case measure=>simp[intOf];omega
  ·obtain rfl:j=p.rds.length:=by omega
   rw[List.take_length]at hB;obtain⟨y0,y1,y2⟩:=pc3 kr;have f0:=pfrz kr 0;have f1:=pfrz kr 1;have f2:=pfrz kr 2;have n1:¬P5=P1:=by have h:=dy.out;omega
   have n2:¬P1=P5:=λe=>n1 e.symm;have eg:w.heap.size<=P1:=by have h:=cM.out.size;have:=cF.out;omega
   have aN:=qAA aM.out F;obtain⟨W9,ft,cP,k9,c7⟩:∃V,((wr.setCell ⟨P1,0,none⟩ (.int .i64 (m:Int))).setCell ⟨P1,1,none⟩ (.int .i64 throw)).setCell ⟨P1,2,none⟩ (.map (some y.heap.size))=V/\Below w.heap.size w V/\V.heap[P1]? =some (.cells #[.int .i64 (m:Int),.int .i64 throw,.map (some y.heap.size)] 108)/\Bases V y.heap.size n D bl Z5 p.steps (hasC p.rds) (rowS p.rds lift throw p.steps):=⟨_,rfl,qRa aN eg _ _ _,qSE kr _ _ _,hB.other kr (by decide) (λk hk=>qRb _ _ _ _ _ _ hk)⟩;obtain⟨d0,d1,d2⟩:=pc3 k9;have b4:n<=60:=by have:=b5.out.reads;omega
   have⟨cB,bv,dq,ds,du,cz,dV,cQ⟩:=hyd8 hI F km kp kr hB aN cP;have⟨fH,c8⟩:=hyd2 k9 c7;clear c7 k9 cP aN hB kr kp km F hI;go_wp2;exact bodyPost_ret (v:= .agg #[.int .i64 (m:Int),.int .i64 throw,.map (some y.heap.size)]) (by simp[results,Tryz.results44,go_sem,d0,d1,d2]) rfl ⟨_,_,_,_,_,rfl,cQ.out,b4,c8.out,aM.out.size⟩
end Go.Proofs.YtabfaobakmjiaaaGreat

/- read.dropped. read.Conflict. read.CheckConflict. -/
import Derived.Test.YtabfaobakmjiaaaGreatPy18
namespace Go.Proofs.YtabfaobakmjiaaaGreat
set_option maxRecDepth 100000
set_option maxHeartbeats 1000000
open Go.RowKit Go.Shelf
set_option linter.unusedVariables false
set_option linter.unusedSimpArgs false
theorem qNV (v:Value) (l:List Int) (k:Nat) (w:World) (hv:Ints w v l) (hk:k<l.length) (hn:l.length<=1000):
  Calls Tryz.prog 47 #[v,.int .i64 (k:Int)] w λe w'=>∃v',e= .returned v'/\Below w.heap.size w w'/\w'.ownsRow w.heap.size 3 1 v' (l.eraseIdx k).length ((l.eraseIdx k).map vint):=by
 have n:=Lib.hid hv;obtain⟨A,c,rfl,J,t,s,L⟩:=hv;unfold maxLen at t;clear L s;have D:=λW=>qJP (qB9:qBR Tryz.prog 56 3 (.int .i64 0) 8) A l.length c (k+1) (by omega) W;have T:=λW=>qGN (qB9:qBR Tryz.prog 56 3 (.int .i64 0) 8) A l.length c k (by omega) W;have b:=n.out.cut (k+1) l.length (by omega) (Nat.le_refl _);have d:=n.out.cut 0 k (Nat.zero_le _) (by omega)
 have p:cutA A c 0=A:=by
  unfold cutA
  split
  ·rfl
  ·cases A<;>simp[Addr.add]
 rw[p,Nat.sub_zero,Nat.sub_zero,List.drop_zero]at d;have q:(l.drop (k+1)).take (l.length - (k+1))=l.drop (k+1):=List.take_of_length_le (by simp);rw[q]at b;simp only[Int.natCast_add,Int.natCast_one]at D;generalize hX:cutA A c (k+1)=X at D b;have f:(l.eraseIdx k)=[l.take k,l.drop (k+1)].flatten :=by rw[qIj];simp
 have g:[l.take k,l.drop (k+1)].flatten.length <=1000000:=by rw[<-f,List.length_eraseIdx];split<;>omega
 rw[f]
 have i:∀(o:Value) (W:World),Arr id W o [.slice A k c,.slice X (l.length - (k+1)) (c - (k+1))]->Below w.heap.size w W->Calls Tryz.prog 95 #[o] W λe w'=>∃v',e= .returned v'/\Below W.heap.size W w'/\w'.ownsRow W.heap.size 3 1 v' [l.take k,l.drop (k+1)].flatten.length ([l.take k,l.drop (k+1)].flatten.map vint):=by
  intro o W r z;refine qJS o _ [l.take k,l.drop (k+1)] W r rfl (λj h G=>?_) g (by simp)
  match j,h,G with
  | 0,_,_=>exact d.below z
  | 1,_,_=>exact b.below z
 have M:IntKind.i64.wrap ((k:Int)+1)=(k:Int)+1:=IntWalk.i64_in _ (by omega);have N:(0:Int)<=(k:Int):=by omega
 have O:(k:Int)<=(l.length:Int):=by omega
 have P:(k:Int)<=(c:Int):=by omega
 have Q:(k:Int)+1<=(l.length:Int):=by omega
 have R:(0:Int)<=(k:Int)+1:=by omega
 have S:(l.length:Int)<=(c:Int):=by omega
 have⟨C,B,m,x,y,I,E,F⟩:=hyd8 f g i b d hX p q;clear q p hX d b i g f;go_enter Tryz.func47,Tryz.ntmps47;go_wp2
 go_region_held3 (λ_=>True) (go_keep) (first | (go_at_call 95;refine(m.out _ _ (qMZ _ _ _ _) (by first |exact(alc1 _ _).drew)).mono ?_;rintro e w' ⟨v',rfl,r,H⟩))
 go_wp2;go_ret;exact⟨v',rfl,(alc1 _ _).drew.trans (r.mono (by simp)),qBq H (by simp)⟩
attribute [local go_sem] Oper.semAt_some
theorem qEN (n:Nat):(idxL n).length =n:=by unfold idxL;simp
theorem qO8 (n:Nat):idxL (n+1)=idxL n++[(n:Int)]:=by unfold idxL;rw[List.range_succ,List.map_append];rfl
theorem qKx {n:Nat} {i:Int} (h:i∈idxL n):0<=i/\i<(n:Int):=by
 unfold idxL at h;obtain⟨k,b,rfl⟩:=List.mem_map.1 h;have:=List.mem_range.1 b;omega
theorem qO9 {w W:World} {v:Value} {L:List Int} {row:Option Nat} (h:Ints w v L) (hg:w.grownBy W row) (hr:∀r,row=some r->∃o:Obj,w.heap[r]? =some o/\o.isCells=false):Ints W v L:=by
 obtain⟨A,c,q,g,i,l,k⟩:=h;refine⟨A,c,q,g,i,l,λf=>?_⟩;obtain⟨b,off,m,d,n⟩:=k f;exact⟨b,off,m,Nat.lt_of_lt_of_le d hg.size,λj p=>cell_kept (n j p) hg hr⟩
theorem qOa {w W:World} {v:Value} {L:List Int} (h:Ints w v L) (hk:∀(k:Nat) (o:Obj),w.heap[k]? =some o->o.isCells=true->W.heap[k]? =some o) (hs:w.heap.size<=W.heap.size):Ints W v L:=by
 obtain⟨A,c,s,i,l,n,m⟩:=h;refine⟨A,c,s,i,l,n,λg=>?_⟩;obtain⟨b,off,p,f,q⟩:=m g;refine⟨b,off,p,Nat.lt_of_lt_of_le f hs,λj r=>?_⟩;have d:=q j r;refine(World.cell?_of_block (a:=⟨b,off+j,none⟩) ?_).trans d;show W.heap[b]? =w.heap[b]?
 cases e:w.heap[b]? with
 | none=>simp[World.cell?,e]at d
 | some o=>
  refine hk b o e ?_
  cases o<;>first |rfl|simp[World.cell?,e]at d
structure CfS (p:Pic) (N k:Nat) (L:List Int):Prop where
 go:qF8 p (N - k) L=qF8 p N (idxL N)
 len:N - k<=L.length
 mem:∀i∈L,0<=i/\i<(p.rds.length:Int)
 most:L.length<=60
theorem CfS.start {p:Pic} (h:p.rds.length<=60):CfS p p.rds.length 0 (idxL p.rds.length):=⟨rfl,by rw[qEN];omega,λi hi=>qKx hi,by rw[qEN];exact h⟩
theorem CfS.step {p:Pic} {N k m:Nat} {L:List Int} (h:CfS p N k L) (hm:m+k+1=N):CfS p N (k+1) (if qEK p (L.eraseIdx m)then L else L.eraseIdx m):=by
 have b:=h.go;rw[show N - k=m+1 by omega]at b;have d:=h.len;rw[show N - k=m+1 by omega]at d;have c:N - (k+1)=m:=by omega
 refine⟨by rw[c];exact b,?_,?_,?_⟩
 ·rw[c];split
  ·omega
  ·rw[List.length_eraseIdx,if_pos (by omega)];omega
 ·split
  ·exact h.mem
  ·exact λi f=>h.mem i (List.mem_of_mem_eraseIdx f)
 ·split
  ·exact h.most
  ·rw[List.length_eraseIdx];have:=h.most;split<;>omega
theorem CfS.fin {p:Pic} {N:Nat} {L:List Int} (h:CfS p N N L):L=qF8 p N (idxL N):=by have:=h.go;rw[Nat.sub_self]at this;exact this
theorem CfS.erase {p:Pic} {N k m:Nat} {L:List Int} (h:CfS p N k L):(∀i∈L.eraseIdx m,0<=i/\i<(p.rds.length:Int))/\(L.eraseIdx m).length <=60:=⟨λi hi=>h.mem i (List.mem_of_mem_eraseIdx hi),by rw[List.length_eraseIdx];have:=h.most;split<;>omega⟩
def CfI (W2:World) (Lb:Nat) (k:Nat) (W:World):Prop:=∃v,Below Lb W2 W/\W.heap[Lb]? =some (.cells #[v] 56)/\W.ownsRow W2.heap.size 3 1 v (idxL k).length ((idxL k).map vint)/\W2.heap.size<=W.heap.size
theorem qIp (v:Value) (p:Pic) (w:World) (hp:IsPic w v p) (hf:p.Fit) (hst:p.steps<=24):
  Calls Tryz.prog 16 #[v] w λe w'=>∃v',e= .returned (.tuple #[v',.int .i64 (qEb p)])/\Below w.heap.size w w'/\Ints w' v' (qFN p):=by
 have bq:=hp;obtain⟨vh,vr,rfl,hh,hr⟩:=hp;obtain⟨HA,hc,rfl,cB⟩:=hh.slice;obtain⟨RA,rc,rfl,cI⟩:=hr.slice;unfold maxLen at cB cI;obtain⟨W1,dF,bj,k1⟩:=newb w (.cells #[.slice HA p.hs.length hc,.int .i64 p.tl,.int .i64 p.th,.int .i64 p.al,.int .i64 p.ah,.slice RA p.rds.length rc] 51);obtain⟨c0,c1,c2,c3,c4,c5⟩:=pc6 k1;have bz:=qFZ _ p W1 (bq.le bj) hf;obtain⟨E,hE⟩:∃E,picE p=E:=⟨_,rfl⟩;rw[hE]at bz;have b9:E=if picB p then 0 else 90:=by rw[<-hE];rfl
 have⟨aT,dI,dP,dH,bJ,cN,cg,dA⟩:=hyd8 bq hh hr hf bj k1 bz hE;have aK:=hyd1 b9;clear b9 hE bz k1 bj hf hr hh bq;refine(callsIn_wide (n:=5)).1 ?_;refine callsIn_of_wp_marks Tryz.func16 rfl trivial ?_ rfl;simp only[Tryz.ntmps16,List.size_toArray,List.length_cons,List.length_nil,Nat.reduceAdd,Nat.reduceSub,Array.replicate_succ,Array.replicate_zero,List.push_toArray,List.append_toArray,List.nil_append,List.cons_append];refine wpIn_wide.2 ?_;go_wp2_with (fail);go_at_call 24;refine cg.out.mono ?_;rintro e W2 ⟨rfl,ai⟩;have I:=qAA bJ.out ai;have am:=blk ai cN.out;clear c0 c1 c2 c3 c4 c5
 cases hB:picB p with
 | false=>
  have bh:E=90:=by rw[aK.out,hB];rfl
  have a3:qEb p=90:=by unfold qEb;rw[hB];rfl
  have hv:qFN p=[]:=by unfold qFN;rw[a3];rfl
  subst bh;have⟨bK,ay,cb,be,br,cK⟩:=hyd6 ai I am hB a3 hv;clear hv a3 hB am I ai;go_wp2;refine qAI w.heap.size [] _ trivial λw9 Q X=>?_;exact⟨_,results_tmp2 rfl _ _ _,_,by rw[br.out];rfl,ay.out.trans Q,by rw[cK.out];exact Arr.nil _ _⟩
 | true=>
  have bh:E=0:=by rw[aK.out,hB];rfl
  subst bh;have bp:=picB_iff.1 hB;have cu:=bp.reads;obtain⟨N,hN⟩:∃N,p.rds.length=N:=⟨_,rfl⟩;have cY:1<=N/\N<=60:=by omega
  obtain⟨W3,cz,ar,k3⟩:=newb W2 (.cells #[.slice none 0 0] 56);obtain⟨d,bi⟩:∃L,W2.heap.size=L:=⟨_,rfl⟩;have bD:d<W3.heap.size:=by rw[<-bi];exact gsl k3
  have bu:w.heap.size<d:=by rw[<-bi];exact gsl am
  rw[bi]at k3 ar;have aL:Below w.heap.size w W3:=I.trans (ar.mono (by omega));have bv:=(ar.block _ bu).trans am;obtain⟨c0,c1,c2,c3,c4,c5⟩:=pc6 bv;have bB:CfI W3 d 0 W3:=⟨_,Below.refl _ _,k3,World.ownsRow_nil _ _ _ _,Nat.le_refl _⟩;have⟨bK,ay,cb,be,aS,da,an,bk⟩:=hyd8 ai I am hB bp ar k3 aL;have⟨cc,bC,C⟩:=hyd3 bv bB hN;clear hN bB bv aL k3 ar bp hB am I ai;go_wp2_with (fail);clear c0 c1 c2 c3 c4 c5;clear cz;go_loopw [17] (λkx wr=>∃k:Nat,k<=N/\kx= .int .i64 (k:Int)/\Hid (CfI W3 d k wr)) (λkx _=>N - (intOf kx).toNat)
  case atStart=>exact⟨0,Nat.zero_le _,rfl,bC⟩
  case round=>
   obtain⟨k,hk,rfl,hI⟩:=hrel;obtain⟨v,H,kL,ho,dS⟩:=hI.out;obtain⟨AO,cO,rfl⟩:=qAH ho;have dL:k<=60:=by omega
   by_cases dM:k<N
   ·have kc:=qAO kL;have kf:=pfrz kL 0;have U:=qEN k;have j1:(k:Int)<(p.rds.length:Int):=by have:=C.out;omega
    have aV:=qO8 k;have b4:∀W,Below W3.heap.size (wr.alloc (.cells #[.int .i64 (k:Int)] 3)) W->W.heap[d]? =some (.cells #[.slice AO (idxL k).length cO] 56):=λW h=>(h.block _ bD).trans ((Below.heap_alloc _ _ _ (by omega)).trans kL);have⟨bA,ax,aH,aF,af,bt,b5⟩:=hyd7 hI H kL ho U aV b4;clear b4 aV U ho kL H hI;go_wp2_with (first | (at_builtin;go_must (refine qCb rfl _ _ 56 rfl W3.heap.size 3 qB9 _ (idxL k) rfl (aF.out.alloc _) _ [(k:Int)] rfl (qDU _ _ _) (by simp[af.out];omega) (by simp;omega) ?_)));intro v3 w3 h1 h2 h3 _;have aC:w3.ownsRow W3.heap.size 3 1 v3 (idxL (k+1)).length ((idxL (k+1)).map vint):=by rw[bt.out,List.length_append,List.map_append];exact h1
    obtain⟨A3,c3,rfl⟩:=qAH aC;have an:=b5.out w3 h2;have dV:=qAO an;have dY:=pfrz an 0;have aE:Below d W3 w3:=(ax.out.trans (((Below.refl _ wr).alloc (Nat.le_refl _) _).mono (by omega))).trans (h2.mono (by omega));have cL:=aE.size;have bE:CfI W3 d (k+1) (w3.setCell ⟨d,0,none⟩ (.slice A3 (idxL (k+1)).length c3)):=⟨_,Below.setCell aE (p:=⟨d,0,none⟩) (Nat.le_refl _) _,qBe an 0 _,qCA aC bD _,by simpa using cL⟩;clear kc kf;have⟨dz,cU,d6,d7,dk,dd,bF⟩:=hyd7 h1 aC h2 h3 an aE bE;clear bE aE an h3 h2 aC h1;go_wp2;go_roundw
    case rel=>exact⟨k+1,by omega,by go_num,bF⟩
    case measure=>simp[intOf];omega
   ·obtain rfl:k=N:=by omega
    have aj:Ints wr (.slice AO (idxL k).length cO) (idxL k):=Arr.of_own ho;have U:=qEN k;have jn:¬k<p.rds.length:=by rw[C.out];omega
    have dT:¬(k:Int)<(p.rds.length:Int):=by omega
    have dK:1<=k:=by have:=C.out;omega
    have O:Below w.heap.size w wr:=bk.out.trans (H.mono (by omega));have kp:=(H.block _ bu).trans cc.out;obtain⟨c0,c1,c2,c3,c4,c5⟩:=pc6 kp;have kc:=qAO kL;have J:∀i∈idxL k,0<=i/\i<(p.rds.length:Int):=λi hi=>by rw[C.out];exact qKx hi
    have a6:=qIE _ _ p (idxL k) wr (aT.out.le O) aS.out.toM hst aj J (by omega);obtain⟨SB,P⟩:∃b,qEK p (idxL k)=b:=⟨_,rfl⟩;rw[P]at a6;obtain⟨q,off,cq,c9,c7,df,dN,F⟩:=Ints.cells aj (by omega);injection c9 with e1 e2 e3;subst e1 e3;clear e2
    cases SB with
    | true=>
     have bg:qEb p=6:=by unfold qEb;rw[be.out,C.out,P];rfl
     have bY:qFN p=[]:=by unfold qFN;rw[bg];rfl
     have⟨bA,ax,aH,aF,aM,aa,ck,a7⟩:=hyd8 hI H kL ho aj O kp a6;have⟨bH,ae,b8,bZ,bo,af⟩:=hyd6 P F bg bY J U;clear U J bY bg F P a6 kp O aj ho kL H hI;go_wp2_with (first | (go_at_call 45;((with_reducible refine(a7.out).mono ?_);rintro e w' ⟨rfl,R⟩)));refine qAI w.heap.size [] _ trivial λw9 Q X=>?_;exact⟨_,results_tmp2 rfl _ _ _,_,by rw[b8.out];rfl,(qAA aa.out R).trans Q,by rw[bZ.out];exact Arr.nil _ _⟩
    | false=>
     have bf:qEb p=0:=by unfold qEb;rw[be.out,C.out,P];rfl
     have bW:qFN p=qF8 p k (idxL k):=by unfold qFN;rw[bf,C.out];rfl
     have⟨bA,ax,aH,aF,aM,aa,ck,a7⟩:=hyd8 hI H kL ho aj O kp a6;have⟨bH,ae,b7,bX,bo,af⟩:=hyd6 P F bf bW J U;clear U J bW bf F P a6 kp O aj ho kL H hI;go_wp2_with (first | (go_at_call 45;((with_reducible refine(a7.out).mono ?_);rintro e w' ⟨rfl,R⟩;have aI:=blk R aH.out;have cP:=qAO aI))| (go_at_call 46;((with_reducible refine(qLs _ _ _ _).mono ?_);rintro e w' ⟨rfl,rfl⟩)));obtain⟨W6,bI,au,k6⟩:=newb w' (.cells #[.slice (some ⟨q,off,none⟩) (idxL k).length cO] 56);obtain⟨Bn,aD⟩:∃b,w'.heap.size=b:=⟨_,rfl⟩;rw[bI,aD];rw[aD]at k6;clear bI c0 c1 c2 c3 c4 c5 kc cP;have l:=qAA R au;have b6:Bn<W6.heap.size:=gsl k6;have dD:d<wr.heap.size:=gsl aH.out;have dj:=R.size;have dC:d<Bn:=by omega
     have cH:q<W6.heap.size:=by have:=au.size;omega
     have dO:d<q:=by have:=(aF.out.lt q rfl).1;omega
     have bl:∀j (h:j<(idxL k).length),W6.cell? ⟨q,off+j,none⟩=some (.int .i64 (idxL k)[j]):=λj h=>(l.cell (p:=⟨q,off+j,none⟩) c7).trans (ae.out j h);have ag:=af.out;rw[ag]at k6;have bL:=qHw k q off cO (idxL k) W6 Bn d (by omega) ag b6 (by omega) cH bl (qAO k6) (by omega);have ce:=blk au aI;have aN:=aM.out.below l;have aW:Below w.heap.size w W6:=qAA aa.out l;have cl:=blk l ck.out;have aU:CfS p k 0 (idxL k):=by have h:=CfS.start (p:=p) (by rw[C.out];omega);rw[C.out]at h;exact h
     have bU:∀(A B:World) (ad:Option Nat),Kept d [Bn,q] W6 A->A.grownBy B ad->(∀r,ad=some r->W6.heap.size<=r/\∃o:Obj,A.heap[r]? =some o/\o.isCells=false)->Kept d [Bn,q] W6 B:=λA B ad h hg hr=>by
      have hz:=h.1.size;refine⟨Below.grown h.1 hg (by omega) (λr e=>by have:=(hr r e).1;omega),λb Q=>?_⟩;refine(hg.block b ?_ (λe=>?_)).trans (h.2 b Q)
      ·simp at Q;rcases Q with rfl|rfl<;>omega
      ·have:=(hr b e.symm).1;simp at Q;rcases Q with rfl|rfl<;>omega
     have bS:∀(A B:World),Kept d [Bn,q] W6 A->Below A.heap.size A B->Kept d [Bn,q] A B:=λA B h Q=>⟨Q.mono (by have:=h.1.size;omega),λb hm=>Q.block b (by have:=h.1.size;simp at hm;rcases hm with rfl|rfl<;>omega)⟩;have bT:∀(A:World) (v:Value),Kept d [Bn,q] A (A.setCell ⟨d,0,none⟩ v):=λA v=>⟨Below.setCell (Below.refl _ _) (p:=⟨d,0,none⟩) (Nat.le_refl _) _,λb hm=>Below.heap_setCell _ ⟨d,0,none⟩ _ b (by show b≠d;simp at hm;rcases hm with rfl|rfl<;>omega)⟩;have⟨db,dl,dU,dc,c6,de,bM,cf⟩:=hyd8 R aI k6 au l bl bL ce;have⟨bn,a5,cm,bs,bV,a1,aO,cD⟩:=hyd8 aN aW cl aU bU bS bT ag;have cV:=hyd1 aD;clear aD ag bT bS bU aU cl aW aN ce bL bl l au k6 aI R;refine(wpIn_wide (n:=5)).1 ?_;refine qBU rfl (by omega) (gf:=94) (lb:=#[.pointer (some ⟨Bn,0,none⟩)]) rfl trivial (enters_of Tryz.func94 (by kernel_rfl) rfl)
      bM.out Kept.trans (Kept.put (by omega) (λb hm=>by simp at hm;rcases hm with rfl|rfl<;>omega)) (Below.refl _ _) (λ_=>rfl)
      (λac W=>∃L v,CfS p k ac.length L/\Kept d [Bn,q] W6 W/\W.heap[d]? =some (.cells #[v] 56)/\Ints W v L)
      (λ_ _ _=>False)
      (λs A B ad hs hg hr=>by obtain⟨L,v,h1,h2,h3,h4⟩:=hs;exact⟨L,v,h1,bV.out A B ad h2 hg hr,qBf W6.heap.size _ _ _ () A B ad h3 hg hr,qO9 h4 hg (λr e=>(hr r e).2)⟩)
      (λc s A B ad hs hg hr=>hs) ⟨_,_,bs.out,Kept.refl _ _ _,cf.out,bn.out⟩
      (λac x a' _=>(∃u:Nat->Value,a'={tmps:=#[u 0,.pointer (some ⟨w.heap.size,0,none⟩),(u 2),(u 3),(u 4),.pointer (some ⟨d,0,none⟩),(u 6),.int .i64 (x.1:Int),(u 8),(u 9),(u 10),(u 11),(u 12),(u 13),(u 14),(u 15),(u 16),(u 17),(u 18),(u 19),(u 20),(u 21),(u 22),(u 23),(u 24),(u 25),(u 26),(u 27),(u 28),(u 29),(u 30),(u 31),(u 32),(u 33),(u 34),(u 35),(u 36),(u 37),(u 38),(u 39),(u 40)],defers:=[]})/\x.1+ac.length+1=k) (λac x a' V o o' h _=>h) ?assign ?body ?done ?stop
     case assign=>
      intro la ac x V K hI hG hK;dsimp only[qNC];gi_wp2;refine hK _ V (KeepsFrom.refl _ _) (Kept.refl _ _ _) hI ⟨?_,hG⟩;obtain⟨u,hu⟩:=qFR (λu:Nat->Value=>#[u 0,.pointer (some ⟨w.heap.size,0,none⟩),(u 2),(u 3),(u 4),.pointer (some ⟨d,0,none⟩),(u 6),.int .i64 (x.1:Int),(u 8),(u 9),(u 10),(u 11),(u 12),(u 13),(u 14),(u 15),(u 16),(u 17),(u 18),(u 19),(u 20),(u 21),(u 22),(u 23),(u 24),(u 25),(u 26),(u 27),(u 28),(u 29),(u 30),(u 31),(u 32),(u 33),(u 34),(u 35),(u 36),(u 37),(u 38),(u 39),(u 40)]) _ (by kernel_rfl);exact⟨u,congrArg (λt=>({tmps:=t,defers:=[]}:Act)) hu⟩
     case body=>
      rintro la ac x a' V ⟨L,v,hC,G,kV,T⟩ ⟨⟨u,rfl⟩,hx⟩ dh;obtain⟨m,xv⟩:=x;dsimp only at hx;have cF:m<L.length:=by have:=hC.len;omega
      have cG:=hC.most;have a4:=hC.step (m:=m) (by omega);obtain⟨bP,bN⟩:=hC.erase (m:=m);obtain⟨VA,vc,rfl,-⟩:=id T;have kc:=qAO kV;have M:Below w.heap.size w V:=a5.out.trans (G.1.mono (by omega));have b0:=(G.1.block _ bu).trans cm.out;obtain⟨c0,c1,c2,c3,c4,c5⟩:=pc6 b0;have ch:=qNV _ L m V T cF (by omega);have dE:d<V.heap.size:=gsl kV;have⟨cx,g,bw,a0,aG,bQ,bO,Z⟩:=hyd8 hC G kV T a4 bP bN M;have⟨cn,ci⟩:=hyd2 b0 ch;clear ch b0 M bN bP a4 T kV G hC;gi_wp2_with (first | (refine⟨trivial,?_⟩;gi_at_call 47;refine(callsIn_wide.2 (ci.out)).mono ?_;rintro e w' ⟨v8,rfl,S,ak⟩;(obtain⟨A8,c8,rfl⟩:=qAH ak);have cQ:=blk S cn.out;(obtain⟨d0,d1,d2,d3,d4,d5⟩:=pc6 cQ)));have az:Ints w' (.slice A8 (L.eraseIdx m).length c8) (L.eraseIdx m):=Arr.of_own ak;have z:=qIE _ _ p (L.eraseIdx m) w' (aT.out.le (qAA Z.out S)) aS.out.toM hst az bQ.out bO.out;have aJ:=blk S bw.out;clear c0 c1 c2 c3 c4 c5 d0 d1 d2 d3 d4 d5 kc;have y:=aG.out
      cases hS9:qEK p (L.eraseIdx m)with
      | true=>
       rw[hS9]at z;rw[hS9,if_pos rfl]at y;have⟨av,aR,bR,ab,aY,Y,bG⟩:=hyd7 S ak az z aJ y hS9;clear hS9 y aJ z az ak S;gi_wp2_with (first | (refine⟨trivial,?_⟩;gi_at_call 45;refine(callsIn_wide.2 (ab.out)).mono ?_;rintro e w' ⟨rfl,aw⟩));have f:=qAA av.out aw;exact⟨KeepsFrom.of_grownBy (qBp f) (λj e=>by cases e),a1.out _ _ g.out f,L,_,by rw[List.length_append];exact Y.out,g.out.trans (a1.out _ _ g.out f),blk f bw.out,a0.out.below f⟩
      | false=>
       rw[hS9]at z;rw[hS9,if_neg (by decide)]at y;have⟨av,aR,bR,ab,aY,Y,bG⟩:=hyd7 S ak az z aJ y hS9;clear hS9 y aJ z az ak S;gi_wp2_with (first | (refine⟨trivial,?_⟩;gi_at_call 45;refine(callsIn_wide.2 (ab.out)).mono ?_;rintro e w' ⟨rfl,aw⟩;have bx:=blk aw aY.out;have dW:=qAO bx;have dZ:=pfrz bx 0));have f:=qAA av.out aw;rename World=>W9
       have ca:=a1.out _ _ g.out f;have cE:=(g.out.trans ca).trans (aO.out W9 (.slice A8 (L.eraseIdx m).length c8));have cC:Ints (W9.setCell ⟨d,0,none⟩ (.slice A8 (L.eraseIdx m).length c8)) (.slice A8 (L.eraseIdx m).length c8) (L.eraseIdx m):=Arr.of_own (qCA (qAK aR.out aw) (by omega) _);exact⟨(KeepsFrom.of_grownBy (qBp f) (λj e=>by cases e)).trans ((KeepsOthers.setCell _ _ _).from _),ca.trans (aO.out W9 _),_,_,by rw[List.length_append];exact Y.out,cE,qBe bx 0 _,cC⟩
     case done=>
      rintro D xs V hD hS ⟨L,v,hC,G,kV,T⟩ hK;rw[show xs.length=k from hS]at hC;have hL:=hC.fin;have M:Below w.heap.size w V:=a5.out.trans (G.1.mono (by omega));have kc:=qAO kV;have⟨cx,g,bw,a0,cy,Z⟩:=hyd6 hC G kV T hL M;clear M hL T kV G hC;go_wp2;refine qAI w.heap.size [{target:= .collected D,args:=#[]}] _ ⟨⟨D,rfl,by omega,hK,by simp⟩,trivial⟩ λw9 Q X=>?_;exact⟨_,results_tmp2 rfl _ _ _,_,by rw[b7.out];rfl,Z.out.trans Q,by rw[bX.out,<-cy.out];exact qOa a0.out X Q.size⟩
     case stop=>
      intro D c ac V hD hS hI hK;exact hI.elim
end Go.Proofs.YtabfaobakmjiaaaGreat
namespace Go.Proofs.YtabfaobakmjiaaaGreat
set_option maxRecDepth 100000
set_option maxHeartbeats 1000000
open Go.RowKit Go.Shelf
set_option linter.unusedVariables false
set_option linter.unusedSimpArgs false
end Go.Proofs.YtabfaobakmjiaaaGreat

/- law 1, ExactPolys: regions 0 to 8, the whole. From what a row's opening gives of a slice of integers to the predicate that the contracts speak of. From what a .. -/
import Derived.Test.YtcoajjdhkhgfdaaGreatPk53
import Derived.ProofKit
import Derived.OpenShut
import Derived.ShutString
import Derived.ChangeOld
import Derived.Below
import Derived.Lib.SmallJoins
import Derived.Deep.Slices
import Derived.Deep.DrawnRows
namespace Go.Proofs.YtcoajjdhkhgfdaaGreat
set_option maxRecDepth 100000
set_option maxHeartbeats 4000000
open Go.RowKit Go.Shelf
set_option linter.unusedVariables false
set_option linter.unusedSimpArgs false
theorem qLI:(Tryz.prog.info? 27).map (λi=>(i.zero,i.size,i.bytes))=some (some (.agg #[.bool false,.slice none 0 0,.bool false,.slice none 0 0]),4,64):=by kernel_rfl
theorem qJb {x:FracA} (h:qAi x 2=false):x.gn.length<=1000/\x.gd.length<=1000:=by
 unfold qAi bigB at h;simp at h;omega
theorem qLt (w V:World) (k5:Nat) (vp vq vo vx:Value) (p q:List FracA) (x:FracA) (hs:PS V V k5 vp vq vo vx p q x) (hwV:Below w.heap.size w V) (hp:qAz p 8 2=false) (hq:qAz q 8 2=false)
  (t:Array Value) (ht:∃u:Nat->Value,t=#[vp,vq,(u 2),(u 3),(u 4),.pointer (some ⟨k5,0,none⟩),(u 6),vo,(u 8),(u 9),(u 10),(u 11),(u 12),(u 13),(u 14),(u 15),(u 16),(u 17),(u 18),(u 19),(u 20),(u 21),(u 22),(u 23),(u 24),(u 25),(u 26),(u 27),(u 28),(u 29),(u 30),(u 31),(u 32),(u 33),(u 34),(u 35),(u 36),(u 37),(u 38),(u 39),(u 40),(u 41),(u 42),(u 43),(u 44),(u 45),(u 46),(u 47),(u 48),(u 49),(u 50),(u 51),(u 52),(u 53),(u 54),(u 55),(u 56),(u 57),(u 58),(u 59),(u 60),(u 61),(u 62),(u 63),(u 64),(u 65),(u 66),(u 67),(u 68),(u 69),(u 70),(u 71),(u 72),(u 73),(u 74),(u 75),(u 76),(u 77),(u 78),(u 79),(u 80),(u 81),(u 82),(u 83),(u 84),(u 85),(u 86),(u 87),(u 88),(u 89),(u 90),(u 91),(u 92),(u 93),(u 94),(u 95),(u 96),(u 97),(u 98),(u 99),(u 100),(u 101),(u 102),(u 103),(u 104),(u 105),(u 106),(u 107),(u 108),(u 109),(u 110),(u 111),(u 112),(u 113),(u 114),(u 115),(u 116),(u 117),(u 118),(u 119),(u 120),(u 121),(u 122),(u 123),(u 124),(u 125),(u 126),(u 127),(u 128),(u 129),(u 130),(u 131),(u 132),(u 133),(u 134),(u 135),(u 136),(u 137),(u 138),(u 139),(u 140),(u 141),(u 142),(u 143),(u 144),(u 145),(u 146),(u 147),(u 148),(u 149),(u 150),(u 151),(u 152),(u 153),(u 154),(u 155),(u 156),(u 157),(u 158),(u 159),(u 160),(u 161),(u 162),(u 163),(u 164),(u 165),(u 166),(u 167),(u 168),(u 169),(u 170),(u 171),(u 172),(u 173),(u 174),(u 175),(u 176),(u 177),(u 178),(u 179),(u 180),(u 181),(u 182),(u 183),(u 184),(u 185),(u 186),(u 187),(u 188),(u 189),(u 190),(u 191),(u 192),(u 193),(u 194),(u 195),(u 196),(u 197),(u 198),(u 199),(u 200),(u 201),(u 202)]):qDH 9 w t V:=by
 refine qLH w V V k5 vp vq vo vx p q x _ _ _ hs rfl rfl rfl (λP G d I J f L M Q T B y g h b i j c k l=>?_) t ht;refine qKb w V Q k5 vp vq vo vx p q x _ _ _ P G d I J f L M y g h b i j c k l (qEH _ _ _) (qEH _ _ _) (qKa _ _) (qIV _ _) (λR U C z g b c=>?_) T B;refine qKc w V R k5 vp vq vo vx p q x _ _ _ _ _ P d f z g b c (qJa hp hq) rfl rfl (λN O E F S X D A g b c m o r s=>?_) U C;have v:p.length<=1000000:=by have:=(qEb hp).1;omega
 exact qKd w V S k5 vp vq vo vx p q x _ _ _ _ _ P d f N O E F A hs.sp hs.so hwV v g b c m o r s (qEH _ _ _) (qEH _ _ _) (qIV _ _) (qEH _ _ _) X D
def qMV (V:World) (A:Option Addr) (n c k5:Nat) (vq:Value) (p:List FracA) (a:Act) (W:World):Prop:=
 ∃(t:Array Value) (vo:Value) (k:Nat),a={tmps:=t,defers:=[]}/\(∃u:Nat->Value,t=#[.slice A n c,vq,(u 2),(u 3),(u 4),.pointer (some ⟨k5,0,none⟩),(u 6),vo,(u 8),(u 9),(u 10),(u 11),(u 12),(u 13),(u 14),(u 15),(u 16),(u 17),(u 18),(u 19),(u 20),(u 21),(u 22),(u 23),(u 24),(u 25),(u 26),(u 27),(u 28),(u 29),(u 30),(u 31),(u 32),(u 33),(u 34),(u 35),(u 36),(u 37),(u 38),(u 39),.int .i64 (n:Int),.int .i64 (k:Int),(u 42),(u 43),(u 44),(u 45),(u 46),(u 47),(u 48),(u 49),(u 50),(u 51),(u 52),(u 53),(u 54),(u 55),(u 56),(u 57),(u 58),(u 59),(u 60),(u 61),(u 62),(u 63),(u 64),(u 65),(u 66),(u 67),(u 68),(u 69),(u 70),(u 71),(u 72),(u 73),(u 74),(u 75),(u 76),(u 77),(u 78),(u 79),(u 80),(u 81),(u 82),(u 83),(u 84),(u 85),(u 86),(u 87),(u 88),(u 89),(u 90),(u 91),(u 92),(u 93),(u 94),(u 95),(u 96),(u 97),(u 98),(u 99),(u 100),(u 101),(u 102),(u 103),(u 104),(u 105),(u 106),(u 107),(u 108),(u 109),(u 110),(u 111),(u 112),(u 113),(u 114),(u 115),(u 116),(u 117),(u 118),(u 119),(u 120),(u 121),(u 122),(u 123),(u 124),(u 125),(u 126),(u 127),(u 128),(u 129),(u 130),(u 131),(u 132),(u 133),(u 134),(u 135),(u 136),(u 137),(u 138),(u 139),(u 140),(u 141),(u 142),(u 143),(u 144),(u 145),(u 146),(u 147),(u 148),(u 149),(u 150),(u 151),(u 152),(u 153),(u 154),(u 155),(u 156),(u 157),(u 158),(u 159),(u 160),(u 161),(u 162),(u 163),(u 164),(u 165),(u 166),(u 167),(u 168),(u 169),(u 170),(u 171),(u 172),(u 173),(u 174),(u 175),(u 176),(u 177),(u 178),(u 179),(u 180),(u 181),(u 182),(u 183),(u 184),(u 185),(u 186),(u 187),(u 188),(u 189),(u 190),(u 191),(u 192),(u 193),(u 194),(u 195),(u 196),(u 197),(u 198),(u 199),(u 200),(u 201),(u 202)])/\k<=n/\Hid (Below V.heap.size V W)/\Hid (RowE inK 27 V.heap.size W vo (p.take k))
theorem law_ExactPolys (a0:List FracA) (x0:Value) (a1:List FracA) (x1:Value) (a2:FracA) (x2:Value) (w:World) (w0:SeqE inK w x0 a0) (w1:SeqE inK w x1 a1) (w2:IsFracA (λ_=>True) w x2 a2):
  Calls Tryz.prog 3 #[x0,x1,x2] w λe w'=>e= .returned (.bool true)/\Below w.heap.size w w':=by
 have ao:=w2;obtain⟨XA,xc,XB,xd,rfl,-,-⟩:=w2;obtain⟨A0,c0,rfl,-⟩:=w0.slice;obtain⟨A1,c1,rfl,-⟩:=w1.slice;obtain⟨n0,ad⟩:∃n,a0.length=n:=⟨_,rfl⟩;obtain⟨n1,ae⟩:∃n,a1.length=n:=⟨_,rfl⟩;rw[ad]at w0 ⊢;rw[ae]at w1 ⊢;obtain⟨W0,ba,I,k0⟩:=enew w (.cells #[.bool a2.sn,.slice XA a2.gn.length xc,.bool a2.sd,.slice XB a2.gd.length xd] 27);obtain⟨W1,bb,J,k1⟩:=enew W0 (.cells #[.slice A0 n0 c0,.slice A1 n1 c1] 22);have j:Below w.heap.size w W1:=I.trans (J.mono I.size);have aI:=qEG J k0;have aC:=ao.le j;have ag:=w0.le j;have aj:=w1.le j;obtain⟨g,hg⟩:∃g,(qAz a0 8 2||qAz a1 8 2)=g:=⟨_,rfl⟩;have kg:=qK4 _ _ a0 a1 8 2 W0.heap.size _ W1 k1 ag aj (by decide) (by decide) (by decide);rw[hg]at kg;have⟨cr,ct,bU,bF,bG,s,cj,ck⟩:=hyd8 w0 w1 ao I J j k0 k1;have⟨aJ,aD,az,a6,bf,m,bK⟩:=hyd7 aI aC ag aj hg ad ae;clear ae ad hg aj ag aC aI k1 k0 j J I ao w1 w0;have br:=hyd1 kg;clear kg;go_enter Tryz.func3,Tryz.ntmps3;go_wp2_with (fail);clear ba bb;go_at_call 4;refine br.out.mono ?_;rintro e W2 ⟨rfl,f⟩;have L:Below w.heap.size w W2:=s.out.trans (f.mono s.out.size)
 cases g with
 | true=>
  have⟨o,ax⟩:=hyd2 L f;clear f L;go_wp2;go_ret;exact⟨rfl,o.out⟩
 | false=>
  have an:=qEG f aJ.out;have al:=aD.out.le f;have a3:=az.out.le f;have a7:=a6.out.le f;have au:=bf.out;rw[Bool.or_eq_false_iff]at au;obtain⟨gP,gQ⟩:=au;obtain⟨gx,Z⟩:∃g,qAi a2 2=g:=⟨_,rfl⟩;have kx:=qEW _ a2 2 _ W2 (by decide) al;rw[Z]at kx;obtain⟨z0,z1,z2,z3⟩:=qAI an;have⟨o,ax,aK,aE,a4,a8,ar,aZ⟩:=hyd8 L f an al a3 a7 gP gQ;have⟨bJ,bt⟩:=hyd2 Z kx;clear kx Z gQ gP a7 a3 al an f L;go_wp2_with (fail);go_at_call 5;refine bt.out.mono ?_;rintro e W3 ⟨rfl,c⟩;have M:Below w.heap.size w W3:=o.out.trans (c.mono o.out.size);clear z0 z1 z2 z3
  cases gx with
  | true=>
   have⟨l,ab⟩:=hyd2 M c;clear c M;go_wp2;go_ret;exact⟨rfl,l.out⟩
  | false=>
   have aL:=qEG c aK.out;have aF:=aE.out.le c;have a5:=a4.out.le c;have a9:=a8.out.le c;obtain⟨bg,av⟩:=qEb ar.out;rw[m.out]at bg;have z:=qLI;have⟨l,ab,E,U,C,T,aw,O⟩:=hyd8 M c aL aF a5 a9 av z;clear z av a9 a5 aF aL c M;go_wp2_with (fail);obtain⟨V,hV⟩:∃V,W3=V:=⟨_,rfl⟩;rw[hV]at l E U C T ⊢;clear hV;have ch:w.heap.size<V.heap.size:=gsl E.out;refine wp_loop (qMV V A0 n0 c0 w.heap.size (.slice A1 n1 c1) a0) (λa _=>n0 - (intOf (a.tmps.getD 41 undef)).toNat) ?start ?round
   case start=>exact⟨_,_,0,rfl,qAO _ _ (by kernel_rfl),Nat.zero_le _,Lib.hid (Below.refl _ _),Lib.hid (RowE.nil _ _ _ _)⟩
   case round=>
    rintro a r ⟨t,vo,k,rfl,⟨u,rfl⟩,hk,y,D⟩
    by_cases bj:k<n0
    ·have aa:k<a0.length:=by rw[m.out];exact bj
     have ah:=C.out.le y.out;obtain⟨b,R,c9,e1,cf,cs,aA,hc⟩:=ah.at aa;rw[m.out]at e1;injection e1 with e1 e2 e3;subst e1 e3;clear e2;have ak:a0.take (k+1)=a0.take k++[a0[k]]:=by rw[List.take_succ_eq_append_getElem aa]
     obtain⟨F,G⟩:=qJb (aw.out _ (List.getElem_mem aa));generalize a0[k]=x at aA ak F G;obtain⟨A5,c5,B5,d5,rfl,am⟩:=aA;have z0:r.cell? ⟨b,R+k*4,none⟩=some (.bool x.sn):=hc 0 _ rfl;have z1:r.cell? ⟨b,R+k*4+1,none⟩=some (.slice A5 x.gn.length c5):=hc 1 _ rfl;have z2:r.cell? ⟨b,R+k*4+2,none⟩=some (.bool x.sd):=hc 2 _ rfl;have z3:r.cell? ⟨b,R+k*4+3,none⟩=some (.slice B5 x.gd.length d5):=hc 3 _ rfl;have kc:=qK7 (λ_=>True) x _ r (Up.any _) am F G;have j1:(k:Int)<(n0:Int):=by omega
     have j2:(0:Int)<=(k:Int):=by omega
     have⟨bL,cg,aB,bN,bC,bD,bp⟩:=hyd7 ah hc ak am F G kc;clear kc G F am ak hc ah;go_wp2_with (fail);go_at_call 6;refine bp.out.mono ?_;rintro e W4 ⟨v4,rfl,B,h4⟩;obtain⟨A6,c6,B6,d6,rfl,g6,i6⟩:=id h4;obtain⟨W5,bc,N,k5⟩:=enew W4 (.cells #[.bool x.sn,.slice A6 x.gn.length c6,.bool x.sd,.slice B6 x.gd.length d6] 27);have q:Le r W5:=B.trans N;have v:Below V.heap.size V W5:=y.out.trans (q.mono y.out.size);have h:=D.out.le q;have aG:inK.rd W5 [.bool x.sn,.slice A6 x.gn.length c6,.bool x.sd,.slice B6 x.gd.length d6] x:=⟨A6,c6,B6,d6,rfl,h4.le N⟩;have S:=qGX k5;obtain⟨SA,sc,rfl⟩:=h.slice;have ac:(a0.take k).length =k:=by rw[List.length_take,m.out];omega
     rw[ac]at h ⊢;have bk:=v.size;clear z0 z1 z2 z3 g6 i6;have⟨ce,bh,bH,cl,bi,X,Q,aH⟩:=hyd8 h4 B N k5 q v h aG;have⟨af,ay⟩:=hyd2 S ac;clear ac S aG h v q k5 N B h4;go_wp2_with (first | (at_builtin;go_must (refine RowE.append Q.out rfl _ _ 22 rfl 64 (.agg #[.bool false,.slice none 0 0,.bool false,.slice none 0 0]) (by decide) Tryz.underlying22 O.out rfl qJO rfl W4.heap.size rfl aH.out af.out (by rw[ay.out];omega) bk ?_)));intro v7 W7 q1 q2 q3 q4 q5;have r3:Below V.heap.size V W7:=X.out.trans q2;rw[<-aB.out]at q1;clear bc;have⟨bw,cm,cn,co,cp,bx⟩:=hyd6 q1 q2 q3 q4 q5 r3;clear r3 q5 q4 q3 q2 q1;go_wp2;exact⟨⟨_,v7,k+1,rfl,qAO _ _ (by kernel_rfl),by omega,bx,bw⟩,by simp[intOf];omega⟩
    ·obtain rfl:k=n0:=by omega
     have i:=D.out;rw[show a0.take k=a0 from by rw[<-m.out,List.take_length]]at i;have p:=y.out;have d:Le V r:=p;have Y:Below w.heap.size w r:=l.out.trans (p.mono l.out.size)
     have ai:PS r r w.heap.size (.slice A0 k c0) (.slice A1 n1 c1) vo (.agg #[.bool a2.sn,.slice XA a2.gn.length xc,.bool a2.sd,.slice XB a2.gd.length xd]) a0 a1 a2:=
      ⟨Le.refl _,C.out.le d,T.out.le d,i.seq,⟨_,_,_,_,rfl,qEG d E.out,U.out.le d⟩⟩
     have A:=qLt w r w.heap.size _ _ vo _ a0 a1 a2 ai Y ar.out aZ.out;clear D y;have⟨aP,bd,aO,bI,bM,P⟩:=hyd6 i p d Y ai A;clear A ai Y d p i;go_upto_region 9 with(fail);exact P.out _ (qAO _ _ (by kernel_rfl)) _ (by assumption)
open Go.RowKit
def InRow (k:IntKind) (w:World) (a:Option Addr) (len cap:Nat) (zs:List Int):Prop:=
 (a=none/\len=0/\cap=0/\zs=[])∨
 ∃x,a=some x/\len<=cap/\cap<=maxLen/\zs.length=cap/\(∀i,i<zs.length->w.cell? (x.add i)=some (.int k (zs.getD i 0)))/\∀n∈zs,(Lit.int k n).wf =true
theorem InRow.arr {k:IntKind} {w:World} {a:Option Addr} {len cap:Nat} {zs:List Int} (h:InRow k w a len cap zs):Arr (Value.int k) w (.slice a len cap) (zs.take len)/\∀n∈zs.take len,(Lit.int k n).wf =true:=by
 rcases h with⟨rfl,rfl,rfl,rfl⟩| ⟨x,rfl,hl,hm,hz,hc,hw⟩
 ·exact⟨Arr.nil _ _,by simp⟩
 ·have c:(zs.take len).length =len:=by simp;omega
  refine⟨⟨some x,cap,by rw[c],by omega,hm,λh=>by simp at h,λp=>?_⟩,λn r=>hw n (List.mem_of_mem_take r)⟩;rw[c]at p;obtain⟨b,f,m⟩:=x;have i:=hc 0 (by omega);have d:m=none:=by simpa[Addr.add]using World.cell?_spot i
  subst d;refine⟨b,f,rfl,World.block_lt_of_cell? w _ i,λj q=>?_⟩;have l:j<zs.length:=by rw[c]at q;omega
  have o:=hc j l;have g:(⟨b,f,none⟩:Addr).add j=⟨b,f+j,none⟩:=by unfold Addr.add;split<;>simp_all
  rw[g]at o;rw[o];simp[l]
open Go.RowKit Go.ChangeShapes Go.WideShapes Go.Deep
theorem qMJ {n:Int} (h:(Lit.int .u32 n).wf =true):0<=n/\n<4294967296:=by
 have d:IntKind.u32.min<=n/\n<=IntKind.u32.max:=by simpa[Lit.wf]using h
 have b:IntKind.u32.min=0:=by kernel_rfl
 have c:IntKind.u32.max=4294967295:=by kernel_rfl
 rw[b,c]at d;omega
theorem qLJ {w:World} {v:Value} {zs:List Int} (h:Arr (Value.int .u32) w v zs) (hz:∀n∈zs,(Lit.int .u32 n).wf =true):ArrL (λ_=>True) (gv .u32) w v (zs.map Int.toNat):=by
 obtain⟨A,c,s,k,l,o,m⟩:=h;refine⟨A,c,by rw[s,List.length_map],by rw[List.length_map];exact k,l,o,λi=>?_⟩;rw[List.length_map]at i;obtain⟨b,g,p,f,q⟩:=m i;refine⟨b,g,p,trivial,f,λj r=>?_⟩;have d:j<zs.length:=by simpa using r
 rw[q j d];have:=(qMJ (hz _ (List.getElem_mem d))).1;unfold gv;rw[List.getElem_map,Int.toNat_of_nonneg this]
section
variable {H:Type} {enc:TypeId×Value->H} {w:World} {n:Nat}
theorem qIW {v:Value} {y:DataW H×List MemPlace} (h:DataW.trod enc Tryz.prog w 0 (λ_=>true) true n 23 [v]=some y):∃gs:List Nat,ArrL (λ_=>True) (gv .u32) w v gs:=by
 rcases open_ints Tryz.underlying23 Tryz.underlying99 (by kernel_rfl) h with⟨hcs,_⟩| ⟨x,l,c,zs,hcs,_,hl,hm,hz,_,hcell,hwz⟩
 ·obtain rfl:v= .slice none 0 0:=by simpa using hcs
  exact⟨[],none,0,rfl,Nat.le_refl _,Nat.zero_le _,λ_=>rfl,λh=>absurd h (Nat.lt_irrefl 0)⟩
 ·obtain rfl:v= .slice (some x) l c:=by simpa using hcs
  have:=InRow.arr (k:= .u32) (.inr ⟨_,rfl,hl,hm,by simpa using hz,hcell,hwz⟩);exact⟨_,qLJ this.1 this.2⟩
theorem qDU {v0 v1:Value} {y:DataW H×List MemPlace} (h:DataW.trod enc Tryz.prog w 0 (λ_=>true) true n 25 [v0,v1]=some y):∃(s:Bool) (gs:List Nat),v0= .bool s/\ArrL (λ_=>True) (gv .u32) w v1 gs:=by
 obtain⟨g,m,-,-,-,b,f⟩:=DataW.trod_struct Tryz.underlying25 h;obtain⟨l,c⟩:∃y,g[0]? =some y:=⟨_,List.getElem?_eq_getElem (by rw[b];decide)⟩;obtain⟨o,d⟩:∃y,g[1]? =some y:=⟨_,List.getElem?_eq_getElem (by rw[b];decide)⟩;have i:=(f 0 _ rfl).trans c;have j:=(f 1 _ rfl).trans d;obtain⟨s,e,-⟩:=DataW.trod_bool (cs:=[v0]) Tryz.underlying4 i;obtain⟨gs,k⟩:=qIW (v:=v1) j;exact⟨s,gs,by simpa using e,k⟩
theorem open_frac {r:Reach} {b0:Nat} {v:Value} {d:DataW H} {p:List MemPlace} (hv:Value.okWide Tryz.prog w r b0 27 v) (h:DataW.Trod enc Tryz.prog w 0 (λ_=>true) true 27 v d p):
  ∃a:FracA,IsFracA (λ_=>True) w v a:=by
 obtain⟨j,rfl,f⟩:=okWide_struct Tryz.underlying27 hv;obtain⟨k,J⟩:=h;obtain⟨x,m,-,-,-,b,t⟩:=DataW.trod_struct Tryz.underlying27 J;obtain⟨l,rfl⟩:∃l:List Value,j=l.toArray:=⟨j.toList,by simp⟩
 have L:l.length=4:=by
  have:Tryz.prog.cellsOf 27=4:=by kernel_rfl
  rw[this]at f;simpa using f
 match l,L with
 | [v0,v1,v2,v3],_=>
  obtain⟨N,g⟩:∃y,x[0]? =some y:=⟨_,List.getElem?_eq_getElem (by rw[b];decide)⟩;obtain⟨O,i⟩:∃y,x[1]? =some y:=⟨_,List.getElem?_eq_getElem (by rw[b];decide)⟩;have E:=(t 0 _ rfl).trans g;have F:=(t 1 _ rfl).trans i;obtain⟨s,I,rfl,o⟩:=qDU (v0:=v0) (v1:=v1) E;obtain⟨M,G,rfl,q⟩:=qDU (v0:=v2) (v1:=v3) F;obtain⟨A,c,C,-⟩:=id o;obtain⟨B,z,D,-⟩:=id q;subst C D;exact⟨⟨s,I,M,G⟩,A,c,B,z,rfl,o,q⟩
end
end Go.Proofs.YtcoajjdhkhgfdaaGreat
namespace Go.Proofs.YtcoajjdhkhgfdaaGreat
set_option maxRecDepth 100000
open Go.RowKit Go.ChangeShapes Go.WideShapes Go.Deep
set_option linter.unusedVariables false
section
variable {H:Type} {enc:TypeId×Value->H} {w:World} {n:Nat}
theorem qLK {v0 v1 v2 v3:Value} {y:DataW H×List MemPlace} (h:DataW.trod enc Tryz.prog w 0 (λ_=>true) true n 27 [v0,v1,v2,v3]=some y):
  ∃a:FracA,IsFracA (λ_=>True) w (.agg #[v0,v1,v2,v3]) a:=by
 obtain⟨k,m,-,-,-,b,j⟩:=DataW.trod_struct Tryz.underlying27 h;obtain⟨z,d⟩:∃y,k[0]? =some y:=⟨_,List.getElem?_eq_getElem (by rw[b];decide)⟩;obtain⟨C,f⟩:∃y,k[1]? =some y:=⟨_,List.getElem?_eq_getElem (by rw[b];decide)⟩;have q:=(j 0 _ rfl).trans d;have r:=(j 1 _ rfl).trans f;obtain⟨s,v,rfl,g⟩:=qDU (v0:=v0) (v1:=v1) q;obtain⟨x,t,rfl,i⟩:=qDU (v0:=v2) (v1:=v3) r;obtain⟨A,c,o,-⟩:=id g;obtain⟨B,l,p,-⟩:=id i;subst o p;exact⟨⟨s,v,x,t⟩,A,c,B,l,rfl,g,i⟩
theorem open_polys {r:Reach} {b0:Nat} {v:Value} {d:DataW H} {p:List MemPlace} (hv:Value.okWide Tryz.prog w r b0 22 v) (h:DataW.Trod enc Tryz.prog w 0 (λ_=>true) true 22 v d p):∃l:List FracA,SeqE inK w v l:=by
 obtain⟨T,R⟩:=h;obtain⟨a',q,s,rfl⟩:=okWide_slice Tryz.underlying22 hv;have h9:Tryz.prog.cellsOf 27=4:=by kernel_rfl
 rcases open_slice Tryz.underlying22 R with⟨g,-⟩| ⟨x,len,cap,m,n,D,Pl,g,-,hl,hm,hmm,-,hel⟩
 ·simp[Value.cells]at g;obtain⟨rfl,rfl,rfl⟩:=g;exact⟨[],SeqE.nil _ _⟩
 ·simp[Value.cells]at g;obtain⟨rfl,rfl,rfl⟩:=g;have ae:m=s:=by simpa using hmm
  by_cases Z:q=0
  ·subst Z;exact⟨[],some x,s,rfl,Nat.zero_le _,hm,(λh=>by cases h),λh=>absurd h (Nat.lt_irrefl 0)⟩
  ·obtain⟨b,y,M⟩:=x;rw[h9]at hel;have first:=hel 0 (by omega);obtain⟨O,J,-⟩:=first;obtain⟨-,L,P⟩:=World.cells?_some J;have t:=P 0 (by decide);have E:∃v,O[0]? =some v:=⟨_,List.getElem?_eq_getElem (by omega)⟩;obtain⟨V,E⟩:=E;rw[E]at t;have C:M=none:=by simpa[Addr.add]using World.cell?_spot t
   subst C;have G:∀j,(⟨b,y,none⟩:Addr).add j=⟨b,y+j,none⟩:=λj=>by unfold Addr.add;split<;>simp_all
   have z:∀o j,(⟨b,o,none⟩:Addr).add j=⟨b,o+j,none⟩:=λo j=>by unfold Addr.add;split<;>simp_all
   have I:b<w.heap.size:=by
    have:=World.block_lt_of_cell? w _ t;simpa[Addr.add]using this
   have F:∀i,i<q->∃a:FracA,∃N,inK.rd w N a/\∀k u,N[k]? =some u->w.cell? ⟨b,y+i*4+k,none⟩=some u:=λi hi=>by
    obtain⟨N,g,hy⟩:=hel i (by omega);obtain⟨-,L,Q⟩:=World.cells?_some g
    match N,L with
    | [V,v1,v2,v3],_=>
     obtain⟨a,ha⟩:=qLK hy;obtain⟨A,c,B,d,e,X,Y⟩:=ha;refine⟨a,[V,v1,v2,v3],?_,λk u U=>?_⟩
     ·injection e with e;simp only[Array.mk.injEq,List.cons.injEq,and_true]at e;obtain⟨rfl,rfl,rfl,rfl⟩:=e;exact⟨A,c,B,d,rfl,A,c,B,d,rfl,X,Y⟩
     ·have hk:k<4:=(List.getElem?_eq_some_iff.1 U).1;have:=Q k hk;rw[G,z]at this;rw[<-U,<-this]
   haveI:Inhabited FracA:=⟨⟨false,[],false,[]⟩⟩
   obtain⟨f,R⟩:=choose_lt F;refine⟨(List.range q).map f,some ⟨b,y,none⟩,s,by simp,by simpa using hl,hm,λh=>(by cases h),λ_=>⟨b,y,rfl,I,λj hj=>?_⟩⟩;have S:j<q:=by simpa using hj
   simp only[List.getElem_map,List.getElem_range];exact R j S
end
end Go.Proofs.YtcoajjdhkhgfdaaGreat

/- The law's great at two lists. law 1: copied, erase. law 1, ExactFracs: what the parts of the walk share. law 1, ExactFracs: regions 11 to 14. law 1, .. -/
import Derived.Test.YtcoajjdhkhgfdaaPk53
import Derived.ProofKit
import Derived.OpenShut
import Derived.ShutString
import Derived.ChangeOld
import Derived.Below
import Derived.Lib.SmallJoins
import Derived.Deep.Slices
import Derived.Deep.DrawnRows
namespace Go.Proofs.Ytcoajjdhkhgfdaa
set_option maxRecDepth 100000
set_option maxHeartbeats 1000000
open Go.RowKit Go.Shelf
set_option linter.unusedVariables false
set_option linter.unusedSimpArgs false
set_option maxHeartbeats 2000000
theorem qH3 {x:FracA} (h:qAg x 2=false):∀a,x.rat?=some a->Rsz a 2:=λa ha=>by
 refine qH1 (x:=x) (r:=a) ?_ h;unfold inE;rw[ha]
theorem qKq (vp:Value) (p:List FracA) (t m B:Nat) (tB:TypeId) (w:World) (kB:w.heap[B]? =some (.cells #[vp] tB)) (hp:SeqE inK w vp p) (ht:t<=1000) (hm:m<=1000) (h66:t≠66):
  Calls Try.prog 4 #[.int .i64 (t:Int),.int .i64 (m:Int),.slice (some ⟨B,0,none⟩) 1 1] w λe w'=>e= .returned (.bool (qBk p t m))/\Le w w':=by
 have I:w.cell? ⟨B,0,none⟩=some vp:=cell_of_row w B 0 _ _ _ kB;have x:=gsl kB;obtain⟨s,l⟩:∃b,qBk p t m=b:=⟨_,rfl⟩;have kp:=qEL vp p t m w hp ht hm h66;rw[l]at kp ⊢;have⟨A,z,q,G⟩:=hyd4 kB hp l kp;clear kp l hp kB;go_enter Try.func4,Try.ntmps4;go_wp2_with (fail);go_loopw [11] (λi wr=>∃k:Nat,i= .int .i64 (k:Int)/\k<=1/\Hid (Below w.heap.size w wr)/\Hid (1<=k->s=false)) (λi _=>1 - (intOf i).toNat)
 case atStart=>exact⟨0,rfl,by decide,Lib.hid (Below.refl _ _),Lib.hid (λh=>absurd h (by decide))⟩
 case round=>
  obtain⟨k,rfl,L,g,o⟩:=hrel;have f:=(g.out.block B x).trans A.out;have J:wr.cell? ⟨B,0,none⟩=some vp:=cell_of_row wr B 0 _ _ _ f
  rcases(by omega:k=0∨k=1)with rfl|rfl
  ·have C:=qEL vp p t m wr (z.out.le g.out) ht hm h66;rw[q.out]at C;have⟨D,j,v,r⟩:=hyd4 C g o f;clear f o g C;go_wp2_with (fail);go_at_call 10;refine D.out.mono ?_;rintro e W ⟨rfl,y⟩;have d:Below w.heap.size w W:=(show Below w.heap.size w wr from j.out.out).trans (y.mono j.out.out.size);have⟨F,c⟩:=hyd2 y d;clear d y
   cases s with
   | true=>
    go_wp2;go_ret;exact⟨rfl,c.out⟩
   | false=>
    go_wp2;go_roundw
    case rel=>exact⟨1,by go_num,by decide,c,Lib.hid (by simp)⟩
    case measure=>simp[intOf]
  ·have E:s=false:=o.out (by decide);have d:=g.out;have⟨j,v,r,c⟩:=hyd4 g o f d;clear d f o g;subst E;go_wp2;go_ret;exact⟨rfl,c.out⟩
theorem law_ExactRoots (a0:List FracA) (x0:Value) (a1:FracA) (x1:Value) (a2:FracA) (x2:Value) (w:World) (w0:SeqE inK w x0 a0) (w1:IsFracA (λ_=>True) w x1 a1) (w2:IsFracA (λ_=>True) w x2 a2):
  Calls Try.prog 3 #[x0,x1,x2] w λe w'=>e= .returned (.bool true)/\Below w.heap.size w w':=by
 have aN:=w1;have aO:=w2;obtain⟨A,c,B,d,rfl,-,-⟩:=w1;obtain⟨A2,c2,B2,d2,rfl,-,-⟩:=w2;obtain⟨A0,c0,rfl,-⟩:=w0.slice;obtain⟨n0,aY⟩:∃n,a0.length=n:=⟨_,rfl⟩;rw[aY]at w0 ⊢;obtain⟨W0,aP,aA,al,k0,k1⟩:=qFU w (.cells #[.bool a1.sn,.slice A a1.gn.length c,.bool a1.sd,.slice B a1.gd.length d] 27) (.cells #[.bool a2.sn,.slice A2 a2.gn.length c2,.bool a2.sd,.slice B2 a2.gd.length d2] 27);obtain⟨b1,aR⟩:∃b,w.heap.size=b:=⟨_,rfl⟩;rw[aR]at k0 k1;obtain⟨W1,aQ,s,kb⟩:=enew W0 (.cells #[.slice A0 n0 c0] 22);have C:Le w W1:=Le.trans al s;have aE:=(s.block _ (gsl k0)).trans k0;have aJ:=(s.block _ (gsl k1)).trans k1;have kg:=qKq _ a0 8 2 W0.heap.size _ W1 kb (w0.le C) (by decide) (by decide) (by decide);obtain⟨g,hg⟩:∃g,qBk a0 8 2=g:=⟨_,rfl⟩;rw[hg]at kg;have⟨S,J,L,bw,bF,bG,bH,aT⟩:=hyd8 w0 aN aO al k0 k1 kb s;have⟨M,V,ac,a7⟩:=hyd4 C aE aJ hg;clear hg aJ aE C s kb k1 k0 al aO aN w0;have⟨bb,bx⟩:=hyd2 kg aA;clear aA kg;go_enter Try.func3,Try.ntmps3;go_wp2_with (fail);clear aP aQ;go_at_call 4;refine bb.out.mono ?_;rintro e W2 ⟨rfl,l⟩;have f:Le w W2:=M.out.trans l
 cases g with
 | true=>
  have⟨am,p⟩:=hyd2 l f;clear f l;go_wp2;go_ret;exact⟨rfl,p.out⟩
 | false=>
  have aq:=(l.block _ (gsl V.out)).trans V.out;have aK:=(l.block _ (gsl ac.out)).trans ac.out;obtain⟨gx,aj⟩:∃g,qAg a1 2=g:=⟨_,rfl⟩;have kx:=qD0 _ a1 2 _ W2 (by decide) (J.out.le f);rw[aj]at kx;obtain⟨z0,z1,z2,z3⟩:=qAh aq;have⟨am,p,X,ad,a8,bk⟩:=hyd6 l f aq aK aj kx;clear kx aj aK aq f l;go_wp2_with (fail);go_at_call 5;refine bk.out.mono ?_;rintro e W3 ⟨rfl,m⟩;have h:Le w W3:=p.out.trans m;clear z0 z1 z2 z3
  cases gx with
  | true=>
   have⟨an,q⟩:=hyd2 m h;clear h m;go_wp2;go_ret;exact⟨rfl,q.out⟩
  | false=>
   have aF:=(m.block _ (gsl X.out)).trans X.out;have av:=(m.block _ (gsl ad.out)).trans ad.out;obtain⟨gy,ak⟩:∃g,qAg a2 2=g:=⟨_,rfl⟩;have ky:=qD0 _ a2 2 _ W3 (by decide) (L.out.le h);rw[ak]at ky;obtain⟨z0,z1,z2,z3⟩:=qAh av;have⟨an,q,Y,ae,a9,bm⟩:=hyd6 m h aF av ak ky;clear ky ak av aF h m;go_wp2_with (fail);go_at_call 5;refine bm.out.mono ?_;rintro e W4 ⟨rfl,o⟩;have i:Le w W4:=q.out.trans o;clear z0 z1 z2 z3
   cases gy with
   | true=>
    have⟨ao,r⟩:=hyd2 o i;clear i o;go_wp2;go_ret;exact⟨rfl,r.out⟩
   | false=>
    have aG:=(o.block _ (gsl Y.out)).trans Y.out;have aL:=(o.block _ (gsl ae.out)).trans ae.out;have E:=qI0 a7.out;have F:=qIi a7.out;have kp:=qLU a0 _ W4 (S.out.le i) E;obtain⟨vR,ap⟩:∃v,valI (qBt a0)=v:=⟨_,rfl⟩;obtain⟨cR,ai⟩:∃v,qAo (qBt a0)=v:=⟨_,rfl⟩;obtain⟨vI,aB⟩:∃v,valI (qAm a0 a1 a2)=v:=⟨_,rfl⟩;obtain⟨cI,a5⟩:∃v,qAo (qAm a0 a1 a2)=v:=⟨_,rfl⟩;rw[ap,ai]at kp;have⟨ao,r,Z,af,R,z,bg,aC⟩:=hyd8 o i aG aL E F kp ap;have⟨a6,U,T⟩:=hyd3 ai aB a5;clear a5 aB ai ap kp F E aL aG i o;go_wp2_with (fail);go_at_call 6;refine bg.out.mono ?_;rintro e W5 ⟨rfl,t⟩;have D:Le w W5:=r.out.trans t;have aH:=(t.block _ (gsl Z.out)).trans Z.out;have aM:=(t.block _ (gsl af.out)).trans af.out;have kq:=qJk a0 _ W5 (S.out.le D) z.out;rw[qKp,aC.out,a6.out]at kq;have⟨aU,N,aa,ag,bi⟩:=hyd5 t D aH aM kq;clear kq aM aH D t;go_wp2_with (fail);go_at_call 7;refine bi.out.mono ?_;rintro e W6 ⟨rfl,x⟩;have j:Le w W6:=N.out.trans x;have ar:=(x.block _ (gsl aa.out)).trans aa.out;have aw:=(x.block _ (gsl ag.out)).trans ag.out;have ki:=qJc a0 a1 a2 _ _ _ W6 (S.out.le j) (J.out.le j) (L.out.le j) R.out;rw[U.out,T.out]at ki;obtain⟨z0,z1,z2,z3⟩:=qAh ar
    obtain⟨y0,y1,y2,y3⟩:=qAh aw;have⟨aV,O,ab,ah,bd⟩:=hyd5 x j ar aw ki;clear ki aw ar j x;go_wp2_with (fail);go_at_call 8;refine bd.out.mono ?_;rintro e W7 ⟨rfl,y⟩;have k:Le w W7:=O.out.trans y;have au:=(y.block _ (gsl ab.out)).trans ab.out;have ax:=(y.block _ (gsl ah.out)).trans ah.out;have kj:=qI4 a0 a1 a2 _ _ _ W7 (S.out.le k) (J.out.le k) (L.out.le k) z.out (qH3 a8.out) (qH3 a9.out);rw[qIj,U.out,T.out]at kj;clear z0 z1 z2 z3 y0 y1 y2 y3;obtain⟨z0,z1,z2,z3⟩:=qAh au;obtain⟨y0,y1,y2,y3⟩:=qAh ax;have⟨aW,P,bz,b0,bf⟩:=hyd5 y k au ax kj;clear kj ax au k y;go_wp2_with (fail);go_at_call 9;refine bf.out.mono ?_;rintro e W8 ⟨rfl,I⟩;have G:Le w W8:=P.out.trans I;have⟨aX,Q⟩:=hyd2 I G;clear G I;go_wp2;go_ret;exact⟨rfl,Q.out⟩
open Go.RowKit
def InRow (k:IntKind) (w:World) (a:Option Addr) (len cap:Nat) (zs:List Int):Prop:=
 (a=none/\len=0/\cap=0/\zs=[])∨
 ∃x,a=some x/\len<=cap/\cap<=maxLen/\zs.length=cap/\(∀i,i<zs.length->w.cell? (x.add i)=some (.int k (zs.getD i 0)))/\∀n∈zs,(Lit.int k n).wf =true
theorem InRow.arr {k:IntKind} {w:World} {a:Option Addr} {len cap:Nat} {zs:List Int} (h:InRow k w a len cap zs):Arr (Value.int k) w (.slice a len cap) (zs.take len)/\∀n∈zs.take len,(Lit.int k n).wf =true:=by
 rcases h with⟨rfl,rfl,rfl,rfl⟩| ⟨x,rfl,hl,hm,hz,hc,hw⟩
 ·exact⟨Arr.nil _ _,by simp⟩
 ·have c:(zs.take len).length =len:=by simp;omega
  refine⟨⟨some x,cap,by rw[c],by omega,hm,λh=>by simp at h,λp=>?_⟩,λn r=>hw n (List.mem_of_mem_take r)⟩;rw[c]at p;obtain⟨b,f,m⟩:=x;have i:=hc 0 (by omega);have d:m=none:=by simpa[Addr.add]using World.cell?_spot i
  subst d;refine⟨b,f,rfl,World.block_lt_of_cell? w _ i,λj q=>?_⟩;have l:j<zs.length:=by rw[c]at q;omega
  have o:=hc j l;have g:(⟨b,f,none⟩:Addr).add j=⟨b,f+j,none⟩:=by unfold Addr.add;split<;>simp_all
  rw[g]at o;rw[o];simp[l]
open Go.RowKit Go.ChangeShapes Go.WideShapes Go.Deep
theorem qMI {n:Int} (h:(Lit.int .u32 n).wf =true):0<=n/\n<4294967296:=by
 have d:IntKind.u32.min<=n/\n<=IntKind.u32.max:=by simpa[Lit.wf]using h
 have b:IntKind.u32.min=0:=by kernel_rfl
 have c:IntKind.u32.max=4294967295:=by kernel_rfl
 rw[b,c]at d;omega
theorem qL0 {w:World} {v:Value} {zs:List Int} (h:Arr (Value.int .u32) w v zs) (hz:∀n∈zs,(Lit.int .u32 n).wf =true):ArrL (λ_=>True) (gv .u32) w v (zs.map Int.toNat):=by
 obtain⟨A,c,s,k,l,o,m⟩:=h;refine⟨A,c,by rw[s,List.length_map],by rw[List.length_map];exact k,l,o,λi=>?_⟩;rw[List.length_map]at i;obtain⟨b,g,p,f,q⟩:=m i;refine⟨b,g,p,trivial,f,λj r=>?_⟩;have d:j<zs.length:=by simpa using r
 rw[q j d];have:=(qMI (hz _ (List.getElem_mem d))).1;unfold gv;rw[List.getElem_map,Int.toNat_of_nonneg this]
section
variable {H:Type} {enc:TypeId×Value->H} {w:World} {n:Nat}
theorem qI5 {v:Value} {y:DataW H×List MemPlace} (h:DataW.trod enc Try.prog w 0 (λ_=>true) true n 23 [v]=some y):∃gs:List Nat,ArrL (λ_=>True) (gv .u32) w v gs:=by
 rcases open_ints Try.underlying23 Try.underlying94 (by kernel_rfl) h with⟨hcs,_⟩| ⟨x,l,c,zs,hcs,_,hl,hm,hz,_,hcell,hwz⟩
 ·obtain rfl:v= .slice none 0 0:=by simpa using hcs
  exact⟨[],none,0,rfl,Nat.le_refl _,Nat.zero_le _,λ_=>rfl,λh=>absurd h (Nat.lt_irrefl 0)⟩
 ·obtain rfl:v= .slice (some x) l c:=by simpa using hcs
  have:=InRow.arr (k:= .u32) (.inr ⟨_,rfl,hl,hm,by simpa using hz,hcell,hwz⟩);exact⟨_,qL0 this.1 this.2⟩
theorem qD5 {v0 v1:Value} {y:DataW H×List MemPlace} (h:DataW.trod enc Try.prog w 0 (λ_=>true) true n 25 [v0,v1]=some y):∃(s:Bool) (gs:List Nat),v0= .bool s/\ArrL (λ_=>True) (gv .u32) w v1 gs:=by
 obtain⟨g,m,-,-,-,b,f⟩:=DataW.trod_struct Try.underlying25 h;obtain⟨l,c⟩:∃y,g[0]? =some y:=⟨_,List.getElem?_eq_getElem (by rw[b];decide)⟩;obtain⟨o,d⟩:∃y,g[1]? =some y:=⟨_,List.getElem?_eq_getElem (by rw[b];decide)⟩;have i:=(f 0 _ rfl).trans c;have j:=(f 1 _ rfl).trans d;obtain⟨s,e,-⟩:=DataW.trod_bool (cs:=[v0]) Try.underlying4 i;obtain⟨gs,k⟩:=qI5 (v:=v1) j;exact⟨s,gs,by simpa using e,k⟩
theorem open_frac {r:Reach} {b0:Nat} {v:Value} {d:DataW H} {p:List MemPlace} (hv:Value.okWide Try.prog w r b0 27 v) (h:DataW.Trod enc Try.prog w 0 (λ_=>true) true 27 v d p):
  ∃a:FracA,IsFracA (λ_=>True) w v a:=by
 obtain⟨j,rfl,f⟩:=okWide_struct Try.underlying27 hv;obtain⟨k,J⟩:=h;obtain⟨x,m,-,-,-,b,t⟩:=DataW.trod_struct Try.underlying27 J;obtain⟨l,rfl⟩:∃l:List Value,j=l.toArray:=⟨j.toList,by simp⟩
 have L:l.length=4:=by
  have:Try.prog.cellsOf 27=4:=by kernel_rfl
  rw[this]at f;simpa using f
 match l,L with
 | [v0,v1,v2,v3],_=>
  obtain⟨N,g⟩:∃y,x[0]? =some y:=⟨_,List.getElem?_eq_getElem (by rw[b];decide)⟩;obtain⟨O,i⟩:∃y,x[1]? =some y:=⟨_,List.getElem?_eq_getElem (by rw[b];decide)⟩;have E:=(t 0 _ rfl).trans g;have F:=(t 1 _ rfl).trans i;obtain⟨s,I,rfl,o⟩:=qD5 (v0:=v0) (v1:=v1) E;obtain⟨M,G,rfl,q⟩:=qD5 (v0:=v2) (v1:=v3) F;obtain⟨A,c,C,-⟩:=id o;obtain⟨B,z,D,-⟩:=id q;subst C D;exact⟨⟨s,I,M,G⟩,A,c,B,z,rfl,o,q⟩
end
end Go.Proofs.Ytcoajjdhkhgfdaa
namespace Go.Proofs.Ytcoajjdhkhgfdaa
set_option maxRecDepth 100000
open Go.RowKit Go.ChangeShapes Go.WideShapes Go.Deep
set_option linter.unusedVariables false
section
variable {H:Type} {enc:TypeId×Value->H} {w:World} {n:Nat}
theorem qL1 {v0 v1 v2 v3:Value} {y:DataW H×List MemPlace} (h:DataW.trod enc Try.prog w 0 (λ_=>true) true n 27 [v0,v1,v2,v3]=some y):
  ∃a:FracA,IsFracA (λ_=>True) w (.agg #[v0,v1,v2,v3]) a:=by
 obtain⟨k,m,-,-,-,b,j⟩:=DataW.trod_struct Try.underlying27 h;obtain⟨z,d⟩:∃y,k[0]? =some y:=⟨_,List.getElem?_eq_getElem (by rw[b];decide)⟩;obtain⟨C,f⟩:∃y,k[1]? =some y:=⟨_,List.getElem?_eq_getElem (by rw[b];decide)⟩;have q:=(j 0 _ rfl).trans d;have r:=(j 1 _ rfl).trans f;obtain⟨s,v,rfl,g⟩:=qD5 (v0:=v0) (v1:=v1) q;obtain⟨x,t,rfl,i⟩:=qD5 (v0:=v2) (v1:=v3) r;obtain⟨A,c,o,-⟩:=id g;obtain⟨B,l,p,-⟩:=id i;subst o p;exact⟨⟨s,v,x,t⟩,A,c,B,l,rfl,g,i⟩
theorem open_polys {r:Reach} {b0:Nat} {v:Value} {d:DataW H} {p:List MemPlace} (hv:Value.okWide Try.prog w r b0 22 v) (h:DataW.Trod enc Try.prog w 0 (λ_=>true) true 22 v d p):∃l:List FracA,SeqE inK w v l:=by
 obtain⟨T,R⟩:=h;obtain⟨a',q,s,rfl⟩:=okWide_slice Try.underlying22 hv;have h9:Try.prog.cellsOf 27=4:=by kernel_rfl
 rcases open_slice Try.underlying22 R with⟨g,-⟩| ⟨x,len,cap,m,n,D,Pl,g,-,hl,hm,hmm,-,hel⟩
 ·simp[Value.cells]at g;obtain⟨rfl,rfl,rfl⟩:=g;exact⟨[],SeqE.nil _ _⟩
 ·simp[Value.cells]at g;obtain⟨rfl,rfl,rfl⟩:=g;have ae:m=s:=by simpa using hmm
  by_cases Z:q=0
  ·subst Z;exact⟨[],some x,s,rfl,Nat.zero_le _,hm,(λh=>by cases h),λh=>absurd h (Nat.lt_irrefl 0)⟩
  ·obtain⟨b,y,M⟩:=x;rw[h9]at hel;have first:=hel 0 (by omega);obtain⟨O,J,-⟩:=first;obtain⟨-,L,P⟩:=World.cells?_some J;have t:=P 0 (by decide);have E:∃v,O[0]? =some v:=⟨_,List.getElem?_eq_getElem (by omega)⟩;obtain⟨V,E⟩:=E;rw[E]at t;have C:M=none:=by simpa[Addr.add]using World.cell?_spot t
   subst C;have G:∀j,(⟨b,y,none⟩:Addr).add j=⟨b,y+j,none⟩:=λj=>by unfold Addr.add;split<;>simp_all
   have z:∀o j,(⟨b,o,none⟩:Addr).add j=⟨b,o+j,none⟩:=λo j=>by unfold Addr.add;split<;>simp_all
   have I:b<w.heap.size:=by
    have:=World.block_lt_of_cell? w _ t;simpa[Addr.add]using this
   have F:∀i,i<q->∃a:FracA,∃N,inK.rd w N a/\∀k u,N[k]? =some u->w.cell? ⟨b,y+i*4+k,none⟩=some u:=λi hi=>by
    obtain⟨N,g,hy⟩:=hel i (by omega);obtain⟨-,L,Q⟩:=World.cells?_some g
    match N,L with
    | [V,v1,v2,v3],_=>
     obtain⟨a,ha⟩:=qL1 hy;obtain⟨A,c,B,d,e,X,Y⟩:=ha;refine⟨a,[V,v1,v2,v3],?_,λk u U=>?_⟩
     ·injection e with e;simp only[Array.mk.injEq,List.cons.injEq,and_true]at e;obtain⟨rfl,rfl,rfl,rfl⟩:=e;exact⟨A,c,B,d,rfl,A,c,B,d,rfl,X,Y⟩
     ·have hk:k<4:=(List.getElem?_eq_some_iff.1 U).1;have:=Q k hk;rw[G,z]at this;rw[<-U,<-this]
   haveI:Inhabited FracA:=⟨⟨false,[],false,[]⟩⟩
   obtain⟨f,R⟩:=choose_lt F;refine⟨(List.range q).map f,some ⟨b,y,none⟩,s,by simp,by simpa using hl,hm,λh=>(by cases h),λ_=>⟨b,y,rfl,I,λj hj=>?_⟩⟩;have S:j<q:=by simpa using hj
   simp only[List.getElem_map,List.getElem_range];exact R j S
end
end Go.Proofs.Ytcoajjdhkhgfdaa

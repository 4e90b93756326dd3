/- The parts of the program's union: its two functions, slices.IndexFunc and slices.Clone of spans. slices.DeleteFunc of spans, by the program's first function. .. -/
import Derived.Test.YtabfaobakmjiaaaGreatPy13
import Derived.Shelf.SlSortCmp.WholeK
import Derived.Shelf.SlSortCmp.NoneTotal
namespace Go.Proofs.YtabfaobakmjiaaaGreat
set_option maxRecDepth 100000
set_option maxHeartbeats 1000000
open Go.RowKit
set_option linter.unusedVariables false
set_option linter.unusedSimpArgs false
theorem qJ2 (s:Spn) (w:World):Calls Tryz.prog 192 #[.agg #[.int .i64 s.1,.int .i64 s.2]] w λe w'=>e= .returned (.bool (!okS s))/\Below w.heap.size w w':=by
 obtain⟨a,b⟩:=s;have g:(!okS (a,b))=decide (b<a):=by unfold okS;simp only;by_cases h:a<=b<;>simp[h]<;>omega
 rw[g];dsimp only;obtain⟨k,i,c,f⟩:=newb w (.cells #[.int .i64 a,.int .i64 b] 115);obtain⟨l,m⟩:=pc2 f;clear g;have⟨d,j⟩:=hyd2 c f;clear f c;go_enter Tryz.func192,Tryz.ntmps192;go_wp2;go_ret;exact⟨rfl,d.out⟩
theorem qQr (v:Value) (L:List Spn) (w:World) (hv:SpnL w v L):
  Calls Tryz.prog 213 #[v,.func (.func 192) #[] #[]] w λe w'=>∃r:Int,e= .returned (.int .i64 r)/\Below w.heap.size w w'/\((r= -1/\∀s∈L,okS s=true)∨∃(i:Nat) (hi:i<L.length),r=(i:Int)/\(∀s∈L.take i,okS s=true)/\okS L[i]=false):=by
 obtain⟨X,Z,rfl,-⟩:=hv.slice;have V:L.length<=maxLen:=by obtain⟨_,_,_,h1,h2,_⟩:=hv;omega
 unfold maxLen at V;have y:Below w.heap.size w w/\∀s∈L.take 0,okS s=true:=⟨Below.refl _ _,by simp⟩;have⟨J,z⟩:=hyd2 hv y;clear y hv;go_enter Tryz.func213,Tryz.ntmps213;go_wp2;go_loopw [8] (λO wr=>∃k:Nat,k<=L.length/\O= .int .i64 (k:Int)/\Hid (Below w.heap.size w wr/\∀s∈L.take k,okS s=true)) (λO _=>L.length - (intOf O).toNat)
 case atStart=>exact⟨0,Nat.zero_le _,rfl,z⟩
 case round=>
  obtain⟨k,hk,rfl,t⟩:=hrel;obtain⟨g,c⟩:=t.out
  by_cases o:k<L.length
  ·obtain⟨Y,o1,x1,G,Q,T,U⟩:=SpnL.cells (J.out.le g) o;injection G with e1 e2 e3;subst e1 e3;clear e2;have j1:(k:Int)<(L.length:Int):=by omega
   have j2:(0:Int)<=(k:Int):=by omega
   have p:L.take (k+1)=L.take k++[L[k]]:=List.take_succ_eq_append_getElem o;obtain⟨s,H⟩:∃s,L[k]=s:=⟨_,rfl⟩;rw[H]at T U p;have M:=qJ2 s wr;obtain⟨B,D⟩:∃B,okS s=B:=⟨_,rfl⟩;rw[D]at M;have⟨E,j,b,C,N,I,q⟩:=hyd7 t g c p M H D;clear D H M p c g t;go_wp2_with (fail);go_at_call 192;refine N.out.mono ?_;rintro e S ⟨rfl,f⟩;have d:=qAA j.out f
   cases B with
   | false=>
    have m:∃(i:Nat) (hi:i<L.length),(k:Int)=(i:Int)/\(∀s∈L.take i,okS s=true)/\okS L[i]=false:=⟨k,o,rfl,b.out,by rw[I.out];exact q.out⟩;have⟨A,l,n⟩:=hyd3 f d m;clear m d f;go_wp2;go_ret;exact⟨_,rfl,l.out,.inr n.out⟩
   | true=>
    have P:Below w.heap.size w S/\∀s∈L.take (k+1),okS s=true:=⟨d,λx R=>by
     rw[C.out]at R
     rcases List.mem_append.1 R with h|h
     ·exact b.out x h
     ·rw[List.mem_singleton.1 h];exact q.out⟩
    have⟨A,l,F⟩:=hyd3 f d P;clear P d f;go_wp2;go_roundw
    case rel=>exact⟨k+1,by omega,by go_num,F⟩
    case measure=>simp[intOf];omega
  ·obtain rfl:k=L.length:=by omega
   rw[List.take_length]at c;have⟨E,j,b⟩:=hyd3 t g c;clear c g t;go_wp2;go_ret;exact⟨_,rfl,j.out,.inl ⟨rfl,b.out⟩⟩
theorem qJz {P:Program} (w:World) (t e ty:TypeId) (z:Value) (ht:P.underlying t=some (.slice e)) (hv:∀w,(zeroValue e).run P w= .ok z w) (b o n c:Nat) (hn:0<n)
  (hc:∀j,j<(Builtin.zeroCells z.cells n).toList.length ->(w.cell? ⟨b,o+j,none⟩).isSome =true) (hf:∀j,j<(Builtin.zeroCells z.cells n).toList.length ->w.frozen? ⟨b,o+j,none⟩=false) (h1:∀v∈(Builtin.zeroCells z.cells n).toList,v.oneCell'=true):
  (Builtin.clear_ #[t] ty #[.slice (some ⟨b,o,none⟩) n c]).run P w= .ok (.tuple #[]) (w.setCells b o (Builtin.zeroCells z.cells n).toList):=by
 have d:=run_storeCells_cells (P:=P) b o (Builtin.zeroCells z.cells n).toList 0 w (by simpa using hc) (by simpa using hf) h1;simp only[Nat.add_zero]at d;obtain⟨m,rfl⟩:∃m,n=m+1:=⟨n - 1,by omega⟩;simp[Builtin.clear_,run_underlying ht,hv,d]
theorem qPg {w:World} {base:Nat} {e:TypeId} {size g n cap:Nat} {xs:List Value} (h:w.ownsRow base e size (.slice (some ⟨g,0,none⟩) n cap) n xs) {k:Nat} (hk:n*size<=k) (u:Value):(w.setCell ⟨g,k,none⟩ u).ownsRow base e size (.slice (some ⟨g,0,none⟩) n cap) n xs:=by
 have b:=(h.stored k u).1
 rwa[List.set_eq_of_length_le (by rw[h.1];exact hk)]at b
theorem qJ3 {base:Nat} {e:TypeId} {size g n cap:Nat} {xs:List Value}:∀(vs:List Value) (k:Nat) (w:World),n*size<=k->base<=g->w.ownsRow base e size (.slice (some ⟨g,0,none⟩) n cap) n xs->(w.setCells g k vs).ownsRow base e size (.slice (some ⟨g,0,none⟩) n cap) n xs/\Below base w (w.setCells g k vs)
 | [],_,_,_,_,h=>⟨h,Below.refl _ _⟩
 | v::r,k,w,hk,hb,h=>by
  obtain⟨a,b⟩:=qJ3 r (k+1) _ (by omega) hb (qPg h hk v);exact⟨a,((Below.refl base w).setCell (p:=⟨g,k,none⟩) hb v).trans b⟩
theorem qOX {w:World} {base:Nat} {e:TypeId} {g n cap i:Nat} {Z:List Spn} (h:w.ownsRow base e 2 (.slice (some ⟨g,0,none⟩) n cap) n (Z.flatMap qAD)) (hZ:Z.length=n) (hi:i<=n):w.ownsRow base e 2 (.slice (some ⟨g,0,none⟩) i cap) i ((Z.take i).flatMap qAD):=by
 have b:∀L:List Spn,(L.flatMap qAD).length =L.length*2:=λL=>qCG (enc:=qAD) (k:=2) (λ_=>rfl) L;refine⟨by rw[b,List.length_take];congr 1;omega,?_⟩
 rcases h.2 with⟨h',-⟩| ⟨g',cap',cur,h',hb,hg,hnc,hcm,hcs,htk⟩
 ·simp at h'
 ·simp only[Value.slice.injEq,Option.some.injEq,Addr.mk.injEq,and_true,true_and]at h';obtain⟨rfl,rfl⟩:=h';refine .inr ⟨g,cap,cur,rfl,hb,hg,by omega,hcm,hcs,?_⟩
  have c:(Z.flatMap qAD).take (i*2)=(Z.take i).flatMap qAD:=by
   conv=>lhs;rw[<-List.take_append_drop i Z,List.flatMap_append]
   rw[List.take_append_of_le_length (by rw[b,List.length_take];omega),List.take_of_length_le (by rw[b,List.length_take];omega)]
  rw[<-c,<-htk,List.take_take]
  congr 1
  omega
theorem qGr {w:World} {base:Nat} {e:TypeId} {g n cap:Nat} {Z:List Spn} (h:w.ownsRow base e 2 (.slice (some ⟨g,0,none⟩) n cap) n (Z.flatMap qAD)) (hZ:Z.length=n) {j:Nat} (hj:j<Z.length):w.cell? ⟨g,j*2,none⟩=some (.int .i64 Z[j].1)/\w.cell? ⟨g,j*2+1,none⟩=some (.int .i64 Z[j].2):=
 ⟨by rw[h.cellAt (j*2) (by omega)];exact qCo (enc:=qAD) (k:=2) (λ_=>rfl) Z j hj 0 _ rfl,by rw[h.cellAt (j*2+1) (by omega)];exact qCo (enc:=qAD) (k:=2) (λ_=>rfl) Z j hj 1 _ rfl⟩
theorem qOY {w:World} {base:Nat} {e:TypeId} {g n cap:Nat} {Z:List Spn} (h:w.ownsRow base e 2 (.slice (some ⟨g,0,none⟩) n cap) n (Z.flatMap qAD)) {i:Nat} (hi:i<Z.length) (s:Spn):((w.setCell ⟨g,i*2,none⟩ (.int .i64 s.1)).setCell ⟨g,i*2+1,none⟩ (.int .i64 s.2)).ownsRow base e 2 (.slice (some ⟨g,0,none⟩) n cap) n ((Z.set i s).flatMap qAD):=by
 rw[<-qGU Z i s hi];exact(((h.stored (i*2) (.int .i64 s.1)).1).stored (i*2+1) (.int .i64 s.2)).1
theorem qMA {w:World} {base g:Nat} (hb:base<=g) (k:Nat) (u v:Value):Below base w ((w.setCell ⟨g,k,none⟩ u).setCell ⟨g,k+1,none⟩ v):=((Below.refl base w).setCell (p:=⟨g,k,none⟩) hb u).setCell (p:=⟨g,k+1,none⟩) hb v
def DfI (w:World) (base g cap:Nat) (L:List Spn) (i j:Nat) (W:World):Prop:=∃Z:List Spn,Z.length=L.length/\Below base w W/\W.ownsRow base 115 2 (.slice (some ⟨g,0,none⟩) L.length cap) L.length (Z.flatMap qAD)/\Z.take i=(L.take j).filter okS/\Z.drop j=L.drop j
theorem qRe (w:World):(zeroValue 115).run Tryz.prog w= .ok (.agg #[.int .i64 0,.int .i64 0]) w:=by kernel_rfl
theorem qQs (v:Value) (L:List Spn) (w:World) (base:Nat) (hown:w.ownsRow base 115 2 v L.length (L.flatMap qAD)) (h0:0<L.length) (hbase:base<=w.heap.size):
  Calls Tryz.prog 190 #[v,.func (.func 192) #[] #[]] w λe w'=>∃v',e= .returned v'/\Below base w w'/\w'.ownsRow base 115 2 v' (L.filter okS).length ((L.filter okS).flatMap qAD):=by
 obtain⟨g,c,rfl,al,be,bb,a8⟩:∃g c,v= .slice (some ⟨g,0,none⟩) L.length c/\base<=g/\g<w.heap.size/\L.length<=c/\c<=maxLen:=by
  rcases hown.2 with⟨-,e⟩| ⟨g,c,cur,rfl,hb,hg,hnc,hcm,-⟩
  ·omega
  ·exact⟨g,c,rfl,hb,gsl hg,hnc,hcm⟩
 unfold maxLen at a8;have hz:=qRe;have an:=qQr (.slice (some ⟨g,0,none⟩) L.length c) L w (SV.of_own (base:=base) (e:=115) (λ_=>rfl) hown);have⟨U,ao,aF⟩:=hyd3 hown an hz;clear hz an hown;go_enter Tryz.func190,Tryz.ntmps190;go_wp2_with (fail);go_at_call 213;refine ao.out.mono ?_;rintro e W1 ⟨r,rfl,o,hr⟩;have q:Below base w W1:=o.mono hbase;have z:=qAK U.out o
 rcases hr with⟨rfl,hall⟩| ⟨i0,hi0,rfl,hall,hbad⟩
 ·have I:L.filter okS=L:=List.filter_eq_self.2 hall;have⟨ah,G,J,O,R⟩:=hyd5 o q z hall I;clear I hall z q o;go_wp2;go_ret;exact⟨_,rfl,G.out,by rw[R.out];exact J.out⟩
 ·have ac:DfI w base g c L i0 (i0+1) W1:=⟨L,rfl,q,z,by rw[List.take_succ_eq_append_getElem hi0,List.filter_append,List.filter_eq_self.2 hall];simp[hbad],rfl⟩;have bi:¬(i0:Int)= -1:=by omega
  have aU:((i0:Int)== -1)=false:=by simp
  have⟨ah,G,J,O,aA,ad⟩:=hyd6 o q z hall hbad ac;clear ac hbad hall z q o;go_wp2_with (fail);go_loopw [6,5] (λjx ix wr=>∃i j:Nat,i<j/\j<=L.length/\jx= .int .i64 (j:Int)/\ix= .int .i64 (i:Int)/\Hid (DfI w base g c L i j wr)) (λjx _ _=>L.length - (intOf jx).toNat)
  case atStart=>exact⟨i0,i0+1,by omega,by omega,by go_num,rfl,ad⟩
  case round=>
   obtain⟨i,j,bg,hj,rfl,rfl,hI⟩:=hrel;obtain⟨Z,hZ,t,F,n,x⟩:=hI.out
   by_cases ap:j<L.length
   ·have am:j<Z.length:=by omega
    have T:i<Z.length:=by omega
    have N:Z[j]=L[j]:=by
     have h1:=List.drop_eq_getElem_cons am;rw[x,List.drop_eq_getElem_cons ap]at h1;injection h1 with h1 _;exact h1.symm
    obtain⟨q0,q1⟩:=qGr F hZ am;rw[N]at q0 q1;have C:L.take (j+1)=L.take j++[L[j]]:=List.take_succ_eq_append_getElem ap;obtain⟨⟨a,b⟩,hs⟩:∃s,L[j]=s:=⟨_,rfl⟩;rw[hs]at q0 q1 C;dsimp only at q0 q1;have bf:g<wr.heap.size:=(F.lt g rfl).2;have aB:base<=wr.heap.size:=by omega
    obtain⟨W2,a9,ai,k2⟩:=newb wr (.cells #[.int .i64 a,.int .i64 b] 115);obtain⟨d0,d1⟩:=pc2 k2;have ku:=qJ2 (a,b) W2;obtain⟨B,hB⟩:∃B,okS (a,b)=B:=⟨_,rfl⟩;rw[hB]at ku;dsimp only at ku;have j1:(j:Int)<(L.length:Int):=by omega
    have j2:(0:Int)<=(j:Int):=by omega
    have j3:(i:Int)<(L.length:Int):=by omega
    have j4:(0:Int)<=(i:Int):=by omega
    have⟨a7,H,aq,A,y,aQ,D,bk⟩:=hyd8 hI t F n x N C hs;have⟨aj,aI,aK,X⟩:=hyd4 ai k2 ku hB;clear hB ku k2 ai hs C N x n F t hI;go_wp2_with (fail);clear a9;go_at_call 192;refine aK.out.mono ?_;rintro e W3 ⟨rfl,p⟩;have d:=qAA aj.out p;have k3:=blk p aI.out;have f:Below base w W3:=H.out.trans (d.mono aB);have l:=qAK aq.out d;obtain⟨r0,r1⟩:=qGr l hZ T;have aZ:=l.frozenAt (i*2);have ba:=l.frozenAt (i*2+1);clear d0 d1 q0 q1;obtain⟨d0,d1⟩:=pc2 k3
    cases B with
    | true=>
     have bc:i<(Z.take j).length :=by rw[List.length_take];omega
     have hN:DfI w base g c L (i+1) (j+1) ((W3.setCell ⟨g,i*2,none⟩ (.int .i64 a)).setCell ⟨g,i*2+1,none⟩ (.int .i64 b)):=⟨Z.set i (a,b),by rw[List.length_set];exact hZ,f.trans (qMA al _ _ _),qOY l T (a,b),by rw[List.take_succ_eq_append_getElem (by rw[List.length_set];exact T),List.getElem_set_self,List.take_set_of_le (Nat.le_refl _),A.out,D.out,List.filter_append];simp[X.out],by rw[List.drop_set_of_lt (by omega)];have h:=congrArg List.tail y.out;simpa using h⟩;have⟨ak,P,aJ,Q,ar,M⟩:=hyd6 p d k3 f l hN;clear hN l f k3 d p;go_wp2;go_roundw
     case rel=>exact⟨i+1,j+1,by omega,by omega,by go_num,by go_num,M⟩
     case measure=>simp[intOf];omega
    | false=>
     have hN:DfI w base g c L i (j+1) W3:=⟨Z,hZ,f,l,by rw[A.out,D.out,List.filter_append];simp[X.out],by have h:=congrArg List.tail y.out;simpa using h⟩;have⟨ak,P,aJ,Q,ar,M⟩:=hyd6 p d k3 f l hN;clear hN l f k3 d p;go_wp2;go_roundw
     case rel=>exact⟨i,j+1,by omega,by omega,by go_num,rfl,M⟩
     case measure=>simp[intOf];omega
   ·obtain rfl:j=L.length:=by omega
    rw[List.take_length]at n;have S:(L.filter okS).length =i:=by rw[<-n,List.length_take];omega
    have E:=qOX F hZ (by omega:i<=L.length);rw[n]at E;obtain⟨m,hm⟩:∃m,L.length - i=m:=⟨_,rfl⟩;have av:(Builtin.zeroCells (Value.agg #[.int .i64 0,.int .i64 0]).cells m).toList.length =m*2:=by rw[Array.length_toList,size_zeroCells];rfl
    have au:∀v∈(Builtin.zeroCells (Value.agg #[.int .i64 0,.int .i64 0]).cells m).toList,v.oneCell'=true:=λv hv=>by
     simp only[Builtin.zeroCells,Array.toList_map,List.mem_map]at hv;obtain⟨k,-,rfl⟩:=hv;have bh:k%2<2:=Nat.mod_lt _ (by decide);show((#[Value.int .i64 0,Value.int .i64 0])[k%2]!).oneCell' =true;have aD:k%2=0∨k%2=1:=by omega
     rcases aD with h|h<;>rw[h]<;>rfl
    have aC:∀ty,(Builtin.clear_ #[110] ty #[.slice (some ⟨g,i*2,none⟩) m (c - i)]).run Tryz.prog wr= .ok (.tuple #[]) (wr.setCells g (i*2) (Builtin.zeroCells (Value.agg #[.int .i64 0,.int .i64 0]).cells m).toList):=λty=>
     qJz wr 110 115 ty (.agg #[.int .i64 0,.int .i64 0]) Tryz.underlying110 aF.out g (i*2) m (c - i) (by omega) (λj hj=>by
      rw[av]at hj;rw[F.cellAt (i*2+j) (by omega)];have bd:(Z.flatMap qAD).length =Z.length*2:=qCG (enc:=qAD) (k:=2) (λ_=>rfl) Z
      rw[List.getElem?_eq_getElem (by omega)];rfl) (λj _=>F.frozenAt _) au
    obtain⟨o9,b9⟩:=qJ3 (Builtin.zeroCells (Value.agg #[.int .i64 0,.int .i64 0]).cells m).toList (i*2) wr (Nat.le_refl _) al E;obtain⟨W9,af⟩:∃V,wr.setCells g (i*2) (Builtin.zeroCells (Value.agg #[.int .i64 0,.int .i64 0]).cells m).toList =V:=⟨_,rfl⟩;rw[af]at aC o9 b9;have Y:Below base w W9:=t.trans b9;have ax:W9.ownsRow base 115 2 (.slice (some ⟨g,0,none⟩) i c) (L.filter okS).length ((L.filter okS).flatMap qAD):=by rw[S];exact o9
    clear af au av;have j1:(i:Int)<=(L.length:Int):=by omega
    have j2:(0:Int)<=(i:Int):=by omega
    have j3:(i:Int)<=(c:Int):=by omega
    have⟨a7,H,aq,A,y,aR,aS,bp⟩:=hyd8 hI t F n x S E o9;have⟨aY,aa,ay⟩:=hyd3 b9 Y ax;clear ax Y b9 o9 E S x n F t hI;go_wp2_with (fail);go_ret;exact⟨_,rfl,aa.out,ay.out⟩
open Go.RowKit Go.Shelf Go.Lib
open Go.Sort hiding Below
abbrev BSp:={s:Spn // (-2000000000000<=s.1/\s.1<=2000000000000)/\(-2000000000000<=s.2/\s.2<=2000000000000)}
instance:Inhabited BSp:=⟨⟨(0,0),by decide⟩⟩
def bEnc (s:BSp):List Value:=qAD s.1
def qIC (x y:BSp):Int:=x.1.1 - y.1.1
theorem ltSp (x y:BSp):ltOf qIC x y=decide (x.1.1<y.1.1):=by unfold ltOf qIC;congr 1;apply propext;omega
theorem qSH:Go.Sort.SWO (ltOf qIC) where
 irrefl x:=by rw[ltSp];simp
 trans x y z h1 h2:=by rw[ltSp]at*;simp at*;omega
 ntrans x y z h1 h2:=by rw[ltSp]at*;simp at*;omega
theorem qKn (L:List BSp):∀t,t<L.length*2->(L.flatMap bEnc)[t]? =some ((bEnc (L[t / 2]!))[t%2]!):=by
 induction L with
 | nil=>intro t h;simp at h
 | cons x xs ih=>
  intro t h;rw[List.flatMap_cons]
  by_cases d:t<2
  ·rw[List.getElem?_append_left (by simpa[bEnc,qAD]using d)];have b:t / 2=0:=by omega
   have c:t%2=t:=by omega
   rw[b,c];simp only[List.getElem!_cons_zero];rw[List.getElem?_eq_getElem (by simpa[bEnc,qAD]using d),getElem!_pos _ t (by simpa[bEnc,qAD]using d)]
  ·rw[List.getElem?_append_right (by simp[bEnc,qAD];omega)];have f:(bEnc x).length =2:=rfl;rw[f,ih (t - 2) (by simp at h;omega)];have b:t / 2=(t - 2) / 2+1:=by omega
   have c:(t - 2)%2=t%2:=by omega
   rw[b,c];simp
theorem qKo (L:List BSp):(L.flatMap bEnc).length =L.length*2:=qCG (enc:=bEnc) (k:=2) (λ_=>rfl) L
theorem qQt (L:List BSp):(flatK bEnc 2 L.toArray).toList =L.flatMap bEnc:=by
 apply List.ext_getElem?;intro t
 by_cases h:t<L.length*2
 ·rw[qKn L t h];have b:t<(flatK bEnc 2 L.toArray).toList.length :=by simp;omega
  rw[List.getElem?_eq_getElem b];have:=get_flatK bEnc 2 L.toArray t (by simpa using h);rw[getElem!_pos _ t (by simp;omega)]at this;simp only[Array.getElem_toList];rw[this];simp
 ·rw[List.getElem?_eq_none (by simp;omega),List.getElem?_eq_none (by rw[qKo];omega)]
theorem qMB {W:World} {base e g c:Nat} {L:List BSp} (h:W.ownsRow base e 2 (.slice (some ⟨g,0,none⟩) L.length c) L.length (L.flatMap bEnc)):HoldsK bEnc 2 W g 0 L.toArray:=by
 intro j d;have b:j<L.length*2:=by simpa using d
 rw[Nat.zero_add];refine⟨?_,h.frozenAt j⟩;rw[h.cellAt j b];rw[qKn L j b,get_flatK bEnc 2 L.toArray j (by simpa using b)];simp
theorem qKp {W:World} {base e g c:Nat} {L:List BSp} (h:W.ownsRow base e 2 (.slice (some ⟨g,0,none⟩) L.length c) L.length (L.flatMap bEnc)) (d:Array BSp) (hd:d.size=L.length) (n:Nat) (os:Array Obj):
  (sortWorldK bEnc 2 W g 0 n d os).ownsRow base e 2 (.slice (some ⟨g,0,none⟩) L.length c) L.length (d.toList.flatMap bEnc)/\W.heap.size<=(sortWorldK bEnc 2 W g 0 n d os).heap.size ∧
   ∀k,k<W.heap.size->k≠g->(sortWorldK bEnc 2 W g 0 n d os).heap[k]? =W.heap[k]? :=by
 have l:(putRowK bEnc 2 (Sort.ahead W n) g 0 d).heap.size =W.heap.size:=by rw[size_putRowK];rfl
 refine⟨⟨by rw[qKo];simp[hd],?_⟩,?_,?_⟩
 ·rcases h.2 with⟨h',_⟩| ⟨g',cap,cur,hv,hb,hh,hnc,hcm,hs,htake⟩
  ·simp at h'
  ·injection hv with h1 _ h3;injection h1 with h1;injection h1 with h1;subst h1 h3;refine .inr ⟨g,c,putCells id 0 (flatK bEnc 2 d) cur,rfl,hb,?_,hnc,hcm,by simp[putCells,hs],?_⟩
   ·unfold sortWorldK;rw[heap_grow_old _ _ (by rw[l];exact(gsl hh))];show((Sort.ahead W n).heap.modify g _)[g]? =_;rw[Array.getElem?_modify,if_pos rfl];show Option.map _ (W.heap[g]?)=_;rw[hh]
    rfl
   ·have f:(flatK bEnc 2 d).toList =d.toList.flatMap bEnc:=by have:=qQt d.toList;simpa using this
    rw[<-f];apply List.ext_getElem?;intro t;rw[List.getElem?_take]
    by_cases b:t<L.length*2
    ·rw[if_pos b];have j:t<cur.size:=by rw[hs];exact Nat.lt_of_lt_of_le b (Nat.mul_le_mul_right 2 hnc)
     have o:t<d.size*2:=by rw[hd];exact b
     simp only[Array.getElem?_toList];unfold putCells;rw[Array.getElem?_mapIdx,Array.getElem?_eq_getElem j,Option.map_some];rw[if_pos ⟨Nat.zero_le _,by simp;omega⟩,Nat.sub_zero];rw[Array.getElem?_eq_getElem (by simp;omega),getElem!_pos _ t (by simp;omega)]
     rfl
    ·rw[if_neg b,List.getElem?_eq_none (by simp[hd];omega)]
 ·unfold sortWorldK;rw[size_grow,l];omega
 ·intro k m i;unfold sortWorldK;rw[heap_grow_old _ _ (by rw[l];exact m)];show((Sort.ahead W n).heap.modify g _)[k]? =_;rw[Array.getElem?_modify,if_neg (Ne.symm i)]
  rfl
theorem qRf {D:List Spn} (h:SpB D):∃L:List BSp,L.map (·.1)=D:=⟨D.attach.map λs=>⟨s.1,h s.1 s.2⟩,by rw[List.map_map];exact List.attach_map_subtype_val D⟩
theorem qKq (L:List BSp):L.flatMap bEnc=(L.map (·.1)).flatMap qAD:=by rw[List.flatMap_map];rfl
def qSI:Ren:=⟨λx=>if x=6 then 193 else if x=14 then 214 else if x=15 then 215 else if x=20 then 220 else if x=21 then 221 else if x=22 then 222 else if x=23 then 223 else if x=24 then 224 else if x=25 then 225 else if x=26 then 226 else if x=27 then 227 else if x=28 then 228 else if x=29 then 229 else if x=46 then 230 else if x=47 then 231 else if x=48 then 232 else if x=49 then 233 else if x=50 then 234 else if x=57 then 235 else x,λx=>if x=0 then 0 else if x=3 then 3 else if x=4 then 4 else if x=5 then 5 else if x=9 then 9 else if x=22 then 110 else if x=24 then 115 else if x=25 then 274 else if x=39 then 236 else if x=45 then 290 else if x=46 then 291 else if x=50 then 258 else if x=53 then 196 else if x=55 then 197 else if x=66 then 298 else if x=70 then 302 else if x=76 then 304 else if x=77 then 215 else x,λx=>x⟩
theorem qQc:SlLaysF0.n6 Tryz.prog qSI where
 mixed:=by kernel_rfl
 f6:=⟨(Tryz.f193).name,by kernel_rfl,by kernel_rfl⟩
 f14:=⟨(Tryz.f214).name,by kernel_rfl,by kernel_rfl⟩
 f15:=by kernel_rfl
 f20:=⟨(Tryz.f220).name,by kernel_rfl,by kernel_rfl⟩
 f21:=⟨(Tryz.f221).name,by kernel_rfl,by kernel_rfl⟩
 f22:=⟨(Tryz.f222).name,by kernel_rfl,by kernel_rfl⟩
 f23:=⟨(Tryz.f223).name,by kernel_rfl,by kernel_rfl⟩
 f24:=⟨(Tryz.f224).name,by kernel_rfl,by kernel_rfl⟩
 f25:=⟨(Tryz.f225).name,by kernel_rfl,by kernel_rfl⟩
 f26:=⟨(Tryz.f226).name,by kernel_rfl,by kernel_rfl⟩
 f27:=⟨(Tryz.f227).name,by kernel_rfl,by kernel_rfl⟩
 f28:=by kernel_rfl
 f29:=by kernel_rfl
 f46:=⟨(Tryz.f230).name,by kernel_rfl,by kernel_rfl⟩
 f47:=by kernel_rfl
 f48:=by kernel_rfl
 f49:=⟨(Tryz.f233).name,by kernel_rfl,by kernel_rfl⟩
 f50:=⟨(Tryz.f234).name,by kernel_rfl,by kernel_rfl⟩
 f57:=⟨(Tryz.f235).name,by kernel_rfl,by kernel_rfl⟩
 t0:=by kernel_rfl
 a0:=λ_=>by kernel_rfl
 z0:=λ_=>by kernel_rfl
 v0:=λ_=>by kernel_rfl
 t3:=by kernel_rfl
 a3:=λ_=>by kernel_rfl
 z3:=λ_=>by kernel_rfl
 v3:=λ_=>by kernel_rfl
 t4:=by kernel_rfl
 a4:=λ_=>by kernel_rfl
 z4:=λ_=>by kernel_rfl
 v4:=λ_=>by kernel_rfl
 t5:=by kernel_rfl
 a5:=λ_=>by kernel_rfl
 z5:=λ_=>by kernel_rfl
 v5:=λ_=>by kernel_rfl
 t9:=by kernel_rfl
 a9:=λ_=>by kernel_rfl
 z9:=λ_=>by kernel_rfl
 v9:=λ_=>by kernel_rfl
 t22:=by kernel_rfl
 a22:=λ_=>by kernel_rfl
 z22:=λ_=>by kernel_rfl
 v22:=λ_=>by kernel_rfl
 t25:=by kernel_rfl
 a25:=λ_=>by kernel_rfl
 z25:=λ_=>by kernel_rfl
 v25:=λ_=>by kernel_rfl
 t39:=by kernel_rfl
 a39:=λ_=>by kernel_rfl
 z39:=λ_=>by kernel_rfl
 v39:=λ_=>by kernel_rfl
 t45:=by kernel_rfl
 a45:=λ_=>by kernel_rfl
 z45:=λ_=>by kernel_rfl
 v45:=λ_=>by kernel_rfl
 t46:=by kernel_rfl
 a46:=λ_=>by kernel_rfl
 z46:=λ_=>by kernel_rfl
 v46:=λ_=>by kernel_rfl
 t50:=by kernel_rfl
 a50:=λ_=>by kernel_rfl
 z50:=λ_=>by kernel_rfl
 v50:=λ_=>by kernel_rfl
 t53:=by kernel_rfl
 a53:=λ_=>by kernel_rfl
 z53:=λ_=>by kernel_rfl
 v53:=λ_=>by kernel_rfl
 t55:=by kernel_rfl
 a55:=λ_=>by kernel_rfl
 z55:=λ_=>by kernel_rfl
 v55:=λ_=>by kernel_rfl
 t66:=by kernel_rfl
 a66:=λ_=>by kernel_rfl
 z66:=λ_=>by kernel_rfl
 v66:=λ_=>by kernel_rfl
 t70:=by kernel_rfl
 a70:=λ_=>by kernel_rfl
 z70:=λ_=>by kernel_rfl
 v70:=λ_=>by kernel_rfl
 t76:=by kernel_rfl
 a76:=λ_=>by kernel_rfl
 z76:=λ_=>by kernel_rfl
 v76:=λ_=>by kernel_rfl
 t77:=by kernel_rfl
 a77:=λ_=>by kernel_rfl
 z77:=λ_=>by kernel_rfl
 v77:=λ_=>by kernel_rfl
theorem qNM (x y:BSp) (W:World):
  Calls Tryz.prog 194 #[.agg (bEnc x).toArray,.agg (bEnc y).toArray] W λe w'=>e= .returned (.int .i64 (qIC x y))/\∃q os',w'=grow (W.drewN q) os':=by
 obtain⟨⟨b,g⟩,d⟩:=x;obtain⟨⟨c,h⟩,f⟩:=y;dsimp only at d f;show Calls _ _ #[.agg #[.int .i64 b,.int .i64 g],.agg #[.int .i64 c,.int .i64 h]] W _;show Calls _ _ _ W λe w'=>e= .returned (.int .i64 (b - c))/\_;go_enter Tryz.func194,Tryz.ntmps194;go_wp2;go_ret;exact⟨rfl,0,#[_,_],by rw[alloc_eq_grow,alloc_eq_grow,grow_grow];rfl⟩
theorem qOZ (W:World) (base:Nat) (v:Value) (D:List Spn) (ho:W.ownsRow base 115 2 v D.length (D.flatMap qAD)) (hbs:base<=W.heap.size) (hl:D.length<=10000) (hb:SpB D):
  Calls Tryz.prog 193 #[v,.func (.func 194) #[] #[]] W λe w'=>e= .returned (.tuple #[])/\Below base W w'/\∃D':List Spn,D'.Perm D/\D'.Pairwise (λs t=>s.1<=t.1)/\w'.ownsRow base 115 2 v D'.length (D'.flatMap qAD):=by
 rcases ho.2 with⟨rfl,h0⟩| ⟨g,cap,cur,rfl,hg,hh,_⟩
 ·have l:D=[]:=List.eq_nil_of_length_eq_zero h0;subst l;refine Calls.mono (AnyF.slices_SortFunc_none qQc none 0 _ W) ?_;rintro e w' ⟨rfl,rfl⟩;exact⟨rfl,Below.refl _ _,[],List.Perm.refl _,List.Pairwise.nil,ho⟩
 ·obtain⟨L,rfl⟩:=qRf hb;rw[<-qKq,List.length_map]at ho;rw[List.length_map]at hl ⊢;have q:=(gsl hh);have B:∀args w,(callFunc 194 args).run Tryz.prog w= .ok (.enter 194 args) w:=enters_of Tryz.func194 (by kernel_rfl) rfl;have d:=AnyQ.slices_SortFunc qQc 2 (λ_=>by kernel_rfl) (λ_=>by kernel_rfl) bEnc (λ_=>rfl) (λx v z=>by simp[bEnc,qAD]at z;rcases z with rfl|rfl<;>rfl) qIC qSH 194 #[] g 0 cap L.toArray W B (λ_ _ _ _ x y=>qNM x y _) (qMB ho) q (by simp;omega);refine Calls.mono d ?_;rintro e w' ⟨rfl,b,n,G,r,F,rfl⟩;have f:b.size=L.length:=by simpa using r.1
  obtain⟨H,q2,I⟩:=qKp ho b f n G
  have c:b.toList.Perm L:=by
   have h:=r.2.2;have A:b.extract 0 L.toArray.size=b:=by rw[<-r.1];exact Array.extract_size
   rw[A,Array.extract_size]at h;simpa using h
  refine⟨rfl,⟨rfl,rfl,rfl,q2,λk J=>I k (by omega) (by omega)⟩,b.toList.map (·.1),c.map _,?_,?_⟩
  ·rw[List.pairwise_map,List.pairwise_iff_getElem];intro i j C E o;have m:i<b.size:=by simpa using C
   have p:j<b.size:=by simpa using E
   have:=F i j (Nat.zero_le _) o (by simp;omega);rw[getElem!_pos b j p,getElem!_pos b i m,ltSp,decide_eq_false_iff_not]at this;simp only[Array.getElem_toList];omega
  ·rw[<-qKq,List.length_map,show b.toList.length=L.length by simpa using f];exact H
end Go.Proofs.YtabfaobakmjiaaaGreat

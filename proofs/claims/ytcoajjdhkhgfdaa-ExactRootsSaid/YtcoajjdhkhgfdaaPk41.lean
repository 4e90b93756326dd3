/- Roots, program side: counter, signAt, Roots. (The region between --@ARM and --@END is printed by gen_roots.py.) -/
import Derived.Test.YtcoajjdhkhgfdaaPk40
namespace Go.Proofs.Ytcoajjdhkhgfdaa
set_option maxRecDepth 100000
set_option maxHeartbeats 1000000
open Go.RowKit Go.Shelf
set_option linter.unusedVariables false
set_option linter.unusedSimpArgs false
theorem qG7 (A:Option Addr) (n c:Nat) (w:World):Calls Try.prog 16 #[.slice A n c] w λe w'=>e= .returned (.func (.func 34) #[] #[.pointer (some ⟨w.heap.size,0,none⟩)])/\Le w w'/\w'.heap[w.heap.size]? =some (.cells #[.slice A n c] 47):=by
 have i:=mkf;obtain⟨j,h,b,g⟩:=enew w (.cells #[.slice A n c] 47);have⟨d,f⟩:=hyd2 b g;clear g b;go_enter Try.func16,Try.ntmps16;go_wp2;go_ret;exact⟨rfl,d.out,f.out⟩
theorem qEM:qA8 Try.prog 34:=λ_ _=>by kernel_rfl
theorem RowsE.base0 {α:Type} {K:EK α} {e e2:TypeId} {base:Nat} {W:World} {vo:Value} {L:List (List α)} (h:RowsE K e e2 base W vo L):RowsE K e e2 0 W vo L:=by
 obtain⟨f,b,c,d⟩:=h;exact⟨f,b,c.base (Nat.zero_le _),d⟩
theorem qK1 (W:World) (o1 o2:Obj):∃V,((W.alloc o1).alloc o2).drew =V/\Le W V/\V.heap[W.heap.size]? =some o1/\V.heap[W.heap.size+1]? =some o2:=by
 have d:=heap_alloc_new W o1;have c:=heap_alloc_new (W.alloc o1) o2;have b:(W.alloc o1).heap.size =W.heap.size+1:=by simp
 rw[b]at c;have f:Le W ((W.alloc o1).alloc o2):=(alc1 W o1).trans ((alc1 (W.alloc o1) o2).mono (by rw[b];omega));exact⟨_,rfl,Below.drew f,((alc1 (W.alloc o1) o2).block _ (by rw[b];omega)).trans d,c⟩
def MPred.sgn (r:Rat):MPred:=⟨λv W=>∃B1 B2,v= .func (.func 52) #[] #[.pointer (some ⟨B1,0,none⟩),.pointer (some ⟨B2,0,none⟩)]/\IBox W B1 r.num/\IBox W B2 (r.den:Int),λ_ _ _ hb ⟨B1,B2,e,h1,h2⟩=>⟨B1,B2,e,h1.le hb,h2.le hb⟩⟩
theorem qHa:qA8 Try.prog 52:=λ_ _=>by kernel_rfl
theorem qHW (r:Rat) (v:Value) (w:World) (h:RatL (λ_=>True) .u32 w v r):Calls Try.prog 26 #[v] w λe w'=>(∃v',e= .returned v'/\(MPred.sgn r).p v' w')/\Le w w':=by
 have aj:=mkf;obtain⟨A,C,z,B,rfl,y,p⟩:=h.form;obtain⟨s,X⟩:∃s,rneg r=s:=⟨_,rfl⟩;obtain⟨F,q⟩:∃n,(dg (rnum r)).length =n:=⟨_,rfl⟩;obtain⟨G,t⟩:∃n,(dg r.den).length =n:=⟨_,rfl⟩;rw[q]at y;rw[t]at p;rw[X,q,t];obtain⟨d,U,o,I⟩:=enew w (.cells #[.bool s,.slice A F C,.slice z G B] 57);obtain⟨L,Y⟩:∃x,w.heap.size=x:=⟨_,rfl⟩;rw[Y]at I;have ai:=gsl I;have R:d.cell? ⟨L,0,none⟩=some (.bool s):=cell_of_row d L 0 _ _ _ I;have S:d.cell? ⟨L,1,none⟩=some (.slice A F C):=cell_of_row d L 1 _ _ _ I;have T:d.cell? ⟨L,2,none⟩=some (.slice z G B):=cell_of_row d L 2 _ _ _ I;have O:=y.le o;have N:=p.le o;have⟨h',ah,ae,P,af,ag,i,ak⟩:=hyd8 h y p X q t o I;have⟨E,D,Z,aa,ab⟩:=hyd5 O N R S T;clear T S R N O I o t q X p y h;go_enter Try.func26,Try.ntmps26;go_wp2_with (fail);clear U;have R:=Z.out;have S:=aa.out;have T:=ab.out;go_region
 ·obtain⟨V,M,b,J,q2⟩:=qK1 d (.cells #[.bool s,.slice A F C] 84) (.cells #[.bool false,.slice z G B] 84);rw[M];have c:Le w V:=i.out.trans (b.mono i.out.size);have g:decide (r.num<0)=s:=P.out;have j:IBox V d.heap.size r.num:=⟨s,A,F,C,J,⟨A,F,C,by rw[g],E.out.le b⟩⟩;have l:IBox V (d.heap.size+1) (r.den:Int):=⟨false,z,G,B,q2,⟨z,G,B,by rw[decide_eq_false (by omega)],by rw[Int.natAbs_natCast];exact D.out.le b⟩⟩;clear R S T M;have⟨H,ac,ad,f,Q,k,m⟩:=hyd7 b J q2 c g j l;clear l j g c q2 J b;go_wp2;go_ret;exact⟨⟨_,rfl,d.heap.size,d.heap.size+1,rfl,k.out,m.out⟩,f.out⟩
 ·obtain⟨V,M,b,J,q2⟩:=qK1 d (.cells #[.bool false,.slice z G B] 84) (.cells #[.bool s,.slice A F C] 84);rw[M];have c:Le w V:=i.out.trans (b.mono i.out.size);have g:decide (r.num<0)=s:=P.out;have j:IBox V (d.heap.size+1) r.num:=⟨s,A,F,C,q2,⟨A,F,C,by rw[g],E.out.le b⟩⟩;have l:IBox V d.heap.size (r.den:Int):=⟨false,z,G,B,J,⟨z,G,B,by rw[decide_eq_false (by omega)],by rw[Int.natAbs_natCast];exact D.out.le b⟩⟩;clear R S T M;have⟨H,ac,ad,f,Q,k,m⟩:=hyd7 b J q2 c g j l;clear l j g c q2 J b;go_wp2;go_ret;exact⟨⟨_,rfl,d.heap.size+1,d.heap.size,rfl,k.out,m.out⟩,f.out⟩
theorem qDQ {p g:List Rat} (h:g.length<=p.length):(qAj p g).length =p.length - g.length+1:=by
 unfold qAj;rw[if_neg (by omega),List.length_map,List.length_range]
theorem qDH {p g:List Rat} (hp:qAD p=true) (hg:g.getD (g.length - 1) 0≠0) (h:g.length<=p.length) (h0:g.length≠0):qAD (qAj p g)=true:=by
 have c:=qDQ h;have d:=qB1 hp (by omega);unfold qAD
 have e:(qAj p g).getD ((qAj p g).length - 1) 0≠0:=by
  rw[c,Nat.add_sub_cancel];unfold qAj;rw[if_neg (by omega),List.getD_eq_getElem?_getD,List.getElem?_map,List.getElem?_range (by omega)];show divC (divS p g (p.length - g.length) (p.length - g.length - (p.length - g.length))) g (p.length - g.length)≠0;rw[Nat.sub_self];show p.getD (p.length - g.length+g.length - 1) 0 / g.getD (g.length - 1) 0≠0;rw[show p.length - g.length+g.length - 1=p.length - 1 by omega];intro b;rw[Rat.div_def]at b
  rcases Rat.mul_eq_zero.1 b with b|b
  ·exact d b
  ·exact hg (by rw[<-Rat.inv_inv (g.getD (g.length - 1) 0),b];exact Rat.inv_zero)
 rw[decide_eq_false e];simp
def ChEl (l:List Int):Prop:=l.length≠0/\l.length<=66/\∀x∈l,Isz x 4000000
theorem qK2:∀(f:Nat) (a b:List Int) (L:List (List Int)),(∀l∈L,ChEl l)->b.length<=66->ChRoom f a b->∀l∈chF f a b L,ChEl l
 | 0,a,b,L,h,_,_=>h
 | f+1,a,b,L,h,hb,hr=>by
  unfold chF
  by_cases h0:b.length=0
  ·rw[if_pos h0];exact h
  ·rw[if_neg h0]
   rcases hr.split with h9| ⟨⟨M,m1,m2,m3⟩,h9⟩
   ·exact absurd h9 h0
   ·have hlt:=qBg (a:=a) h0;refine qK2 f b _ _ (λl hl=>?_) (by rw[qE9];omega) h9;rw[List.mem_append]at hl
    rcases hl with hl|hl
    ·exact h l hl
    ·obtain rfl:l=b:=by simpa using hl
     exact⟨h0,hb,λx c=>(m2 x c).up (by omega)⟩
theorem qJA:∀(f:Nat) (a b:List Int) (L:List (List Int)),(chF f a b L).length <=L.length+f
 | 0,a,b,L=>Nat.le_refl _
 | f+1,a,b,L=>by
  unfold chF
  split
  ·omega
  ·have:=qJA f b (negI (qAY a b)) (L++[b]);rw[List.length_append,List.length_singleton]at this;omega
theorem qGw {p:List Rat} (h:qAD p=true):(gcdD p).length <=p.length:=by
 unfold gcdD;rw[qDG];have j:=qBr h;have i:=qC7 (qAG p)
 have d:∀(f:Nat) (a b:List Int),b.length<=a.length->(qAi f a b).length <=a.length:=by
  intro f
  induction f with
  | zero=>intro a b h;exact Nat.le_refl _
  | succ f ih=>
   intro a b h;unfold qAi
   by_cases c:b.length=0
   ·rw[if_pos c];exact Nat.le_refl _
   ·rw[if_neg c];have g:=qBg (a:=a) c;exact Nat.le_trans (ih b _ (by omega)) h
 have:=d (derI (qAG p)).length (qAG p) (derI (qAG p)) (by omega);unfold qBI;omega
theorem qK3 {A:List Int} (h0:A.length≠0) (h66:A.length<=66) (hz:∀x∈A,Isz x 4000000) (hr:ChRoom A.length A (derI A)):(∀l∈qCZ A,ChEl l)/\(qCZ A).length <=1000:=by
 have d:=qC7 A;obtain⟨n,c⟩:∃n,A.length=n:=⟨_,rfl⟩;unfold qCZ;rw[c]at hr ⊢;constructor
 ·refine qK2 n A (derI A) [A] (λl b=>?_) (by omega) hr
  obtain rfl:l=A:=by simpa using b
  exact⟨h0,h66,hz⟩
 ·have:=qJA n A (derI A) [A];rw[List.length_singleton]at this;omega
theorem qHX {p:List Rat} (h:ChainOk p):(∀l∈qBR p,ChEl l)/\(qBR p).length <=1000:=by
 obtain⟨d,f⟩:=qC8 h.top h.pos;have c:=qGw h.top;obtain⟨M,o,q,q2⟩:=h.qsz;have b:=h.ch;have j:=h.l66;have m:=h.top;unfold qBR;generalize gcdD p=G at d f c q2 b ⊢;have hq:=qDQ c;have g:=qDH m f c d;generalize qAj p G=S at hq g q2 b ⊢;have k:(qAG S).length =S.length:=qBr g;have i:=qG6 (by omega) q2 o;generalize qAG S=A at k i b ⊢;exact qK3 (by omega) (by omega) (λx n=>(i x n).up (by omega)) b
def cntL (L:List (List Int)):Int:=(chgN (L.map lowS):Int)
def cntH (L:List (List Int)):Int:=(chgN (L.map qC3):Int)
def qDq (r:Rat) (l:List Int):Int:=(qBV l r.num (r.den:Int) l.length).sign
def cntA (r:Rat) (L:List (List Int)):Int:=(chgN (L.map (qDq r)):Int)
noncomputable def qBt (p:List FracA):Except Int Int:=
 match qA7 p with
 | .error z=> .error z
 | .ok x=>if x.length=0 then .error 6 else if x.length=1 then .ok 0 else .ok (cntL (qBR x) - cntH (qBR x))
def qDR (p:List FracA):Prop:=∀x,qA7 p= .ok x->2<=x.length->ChainOk x
def IntR (w:World) (res:Except Int Int) (e:Ending) (w':World):Prop:=Le w w'/\((∃z,res= .ok z/\e= .returned (.int .i64 z))∨(∃z,res= .error z/\e= .panicked (flt z)))
theorem qFY (ss:List Int):chgN ss<=ss.length:=qGv _ _
theorem qK4:qA8 Try.prog 18:=λ_ _=>by kernel_rfl
theorem qJa:qA8 Try.prog 19:=λ_ _=>by kernel_rfl
theorem qIR:qA8 Try.prog 13:=λ_ _=>by kernel_rfl
theorem qK5 (p:List FracA) (vp:Value) (Bp:Nat) (tp:TypeId) (w:World) (kp:w.heap[Bp]? =some (.cells #[vp] tp)) (hp:SeqE inK w vp p) (hroom:qDR p):
  Calls Try.prog 13 #[.pointer (some ⟨Bp,0,none⟩)] w (IntR w (qBt p)):=by
 obtain⟨res,s⟩:∃r,qBt p=r:=⟨_,rfl⟩;rw[s];have m:=s;unfold qBt at m;have c0:w.cell? ⟨Bp,0,none⟩=some vp:=cell_of_row w Bp 0 _ _ _ kp;have kc:=qHJ vp p w hp;have ay:=qEM;unfold qA8 at ay;have⟨aR,aP,a2,az,t,P⟩:=hyd6 kp hp kc s m hroom;clear hroom m s kc hp kp;go_enter Try.func13,Try.ntmps13;go_wp2_with (fail);go_at_call 14;refine a2.out.mono ?_;rintro e W1 ⟨i,⟨X,v1,Q,rfl,g⟩| ⟨z,hz,rfl⟩⟩
 ·obtain⟨aT,v,xt⟩:=qBA Q;have b:=t.out;rw[Q]at b;dsimp only at b;obtain⟨A,c,rfl⟩:=g.slice;obtain⟨n,N⟩:∃n,X.length=n:=⟨_,rfl⟩;rw[N]at b g ⊢
  by_cases h0:n=0
  ·rw[if_pos h0]at b;subst h0;have⟨h,ak,F,S,am,f,ah⟩:=hyd7 i Q g v xt b N;clear N b xt v g Q i;go_wp2_with (fail);go_at_call 15;refine(qBL _ _).mono ?_;rintro e W3 ⟨rfl,rfl⟩;go_wp2_with (fail);exact⟨rfl,h.out,.inr ⟨6,f.out.symm,rfl⟩⟩
  ·rw[if_neg h0]at b;have j1:(0:Int)<(n:Int):=by omega
   have j2:0<n:=by omega
   by_cases h1:n=1
   ·rw[if_pos h1]at b;subst h1;have⟨h,ak,F,S,am,f,ah⟩:=hyd7 i Q g v xt b N;clear N b xt v g Q i;go_wp2_with (fail);go_at_call 15;refine(qAz _ _).mono ?_;rintro e W3 ⟨rfl,rfl⟩;go_wp2;go_ret;exact⟨h.out,.inl ⟨0,f.out.symm,rfl⟩⟩
   ·rw[if_neg h1]at b;have j3:((n:Int)==1)=false:=by simp;omega
    have H:=P.out X Q (by omega);obtain⟨U,E⟩:=qHX H;have kh:=qIP w.heap.size _ X W1 (by rw[<-N]at g;exact g) i.size H;rw[N]at kh;obtain⟨L,hL⟩:∃L,qBR X=L:=⟨_,rfl⟩;rw[hL]at kh U E b;have⟨h,ak,F,S,am,f,ah,aE⟩:=hyd8 i Q g v xt b N H;have⟨a3,aN,o⟩:=hyd3 kh hL U;clear U hL kh H N b xt v g Q i;go_wp2_with (fail);go_at_call 15;refine(qAz _ _).mono ?_;rintro e W3 ⟨rfl,rfl⟩;go_wp2_with (fail);go_at_call 17;refine a3.out.mono ?_;rintro e W4 ⟨v4,rfl,ac,Z⟩;have R:Le w W4:=(show Below w.heap.size w W1 from h.out).trans ac.below;obtain⟨LA,lc,rfl⟩:=Z.slice;have kk:=qG7 LA L.length lc W4;have⟨aG,Y,ai,a4⟩:=hyd4 ac R Z kk;clear kk Z R ac;go_wp2_with (fail);go_at_call 16;refine a4.out.mono ?_;rintro e W5 ⟨rfl,q,kB⟩;have aa:=(ai.out.le q).base0;have y:=Y.out.trans q
    have kl:=qDz 18 #[] lowS L _ W4.heap.size _ W5 kB aa E qK4 (λl V=>by unfold lowS qC3;have:=qEK (qAC l);split<;>omega) λW hW l V A n c ab=>by
     have h9:=qMD 0 (.slice A n c) l W ab (o.out l V).1 (Nat.le_trans (o.out l V).2.1 (by decide));simpa using h9
    obtain⟨cL,x⟩:∃c,chgN (L.map lowS)=c:=⟨_,rfl⟩;obtain⟨cH,G⟩:∃c,chgN (L.map qC3)=c:=⟨_,rfl⟩;have bL:cL<=1000:=by rw[<-x];exact Nat.le_trans (qFY _) (by rw[List.length_map];exact E)
    have bH:cH<=1000:=by rw[<-G];exact Nat.le_trans (qFY _) (by rw[List.length_map];exact E)
    have j:=f.out;unfold cntL cntH at j;rw[x,G]at j;rw[x]at kl;have⟨av,al,aj,I,a6,aD,af,O⟩:=hyd8 q kB aa y kl x G j;clear j G x kl y aa kB q;go_wp2_with (fail);go_at_call 34;refine a6.out.mono ?_;rintro e W6 ⟨rfl,k⟩;have ad:=(k.block _ (gsl al.out)).trans al.out;have B:=I.out.trans k
    have km:=qDz 19 #[] qC3 L _ W4.heap.size _ W6 ad (aj.out.le k) E qJa (λl V=>by unfold qC3;exact qEK (qAC l)) λW hW l V A n c ab=>by
     have h9:=qIx 0 (.slice A n c) l W ab (o.out l V).1 (Nat.le_trans (o.out l V).2.1 (by decide));simpa using h9
    rw[af.out]at km;have⟨aw,aH,J,a8⟩:=hyd4 k ad B km;clear km B ad k;go_wp2_with (fail);go_at_call 34;refine a8.out.mono ?_;rintro e W7 ⟨rfl,D⟩;have C:=J.out.trans D;obtain⟨d,hd⟩:∃d,(cL:Int) - (cH:Int)=d:=⟨_,rfl⟩;have T:=O.out;rw[hd]at T;have⟨ax,M,ag⟩:=hyd3 D C T;clear T C D;go_wp2;go_ret;exact⟨M.out,.inl ⟨d,ag.out.symm,by rw[<-hd];rfl⟩⟩
 ·have b:=t.out;rw[hz]at b;have⟨h,aQ,f⟩:=hyd3 i hz b;clear b hz i;go_wp2_with (fail);exact⟨rfl,h.out,.inr ⟨z,f.out.symm,rfl⟩⟩
end Go.Proofs.Ytcoajjdhkhgfdaa

/- Texts: parsed. -/
import Derived.Test.YtfmfefibadpobaaGreatDoorPk38
namespace Go.Proofs.YtfmfefibadpobaaGreatDoor
set_option maxRecDepth 100000
set_option maxHeartbeats 2000000
open Go.RowKit Go.Shelf
set_option linter.unusedVariables false
set_option linter.unusedSimpArgs false
theorem qEq {P:Program} {w:World} {ops:Array Oper} {o:Oper} {a:Act} {K:Act->World->Prop} {Q:Exit->Act->World->Prop} {E:Prop} (hgd:o.guard=none) (s x:Operand) (t:TypeId)
  (ho:o.op= .call {callee:= .builtin .append,args:=#[s,x],argTypes:=#[t,t]})
  (base:Nat) (e:TypeId) (hE:qBV P t e (.int .u32 0) 4)
  (v:Value) (xs:List Nat) (hs:a.eval s=v) (hown:w.ownsRow base e 1 v xs.length (xs.map (gv .u32)))
  (sv:Value) (ys:List Nat) (hx:a.eval x=sv) (hsrc:Arr (gv .u32) w sv ys)
  (hlen:xs.length+ys.length<=1000000000) (hbase:base<=w.heap.size)
  (h:∀v' w',w'.ownsRow base e 1 v' (xs++ys).length ((xs++ys).map (gv .u32))->Below base w w'->w.grownBy w' v.ownBlock->(v'.ownBlock=none↔v.ownBlock=none/\ys=[])->K (a.put o.dst v') w'):
  if Region.wanted o (yielded ops a.tmps)=true then Oper.wp P o a w K Q else E:=by
 have g:Region.wanted o (yielded ops a.tmps)=true:=by simp[Region.wanted,hgd]
 rw[if_pos g]
 exact qGN s x t ho base e _ 4 hE v xs hs hown sv ys hx hsrc (λ_=>rfl) (by omega) (by omega) hbase λv' w' c b d=>
  h v' w' c ((Below.refl _ _).grown b hbase λk f=>(hown.lt k f).1) b d
theorem qGm (k:IntKind) (w:World) (e:TypeId) (g:Nat):Arr (gv k) (w.alloc (.cells #[.int k g] e)).drew (.slice (some ⟨w.heap.size,0,none⟩) 1 1) [g]:=qBP k w e g
theorem qBh (L:Nat->Prop) (l:List UInt8) (w:World) (hL:Up w L) (hl:l.length<=1000) (h0:l≠[]) (hall:l.all digB=true):
  Calls Tryz.prog 22 #[.string (baL l)] w λe w'=>∃v,e= .returned v/\Le w w'/\NumL L .u32 w' v (decV 0 l):=by
 have aP:((baL l).toList ==([]:List UInt8))=false:=by rw[qAa];exact beq_eq_false_iff_ne.2 h0
 have aQ:(baL l).isEmpty =false:=by
  cases l with
  | nil=>exact absurd rfl h0
  | cons a r=>rfl
 have O:=λW=>qFr l W (by omega);rw[(qD7 l).2 hall]at O;have X:baL []=⟨#[]⟩:=rfl;rw[X]at O;have a1:=qAP l;have⟨aA,T,aa,aH,aM⟩:=hyd5 hL hall O X a1;clear a1 X O hall hL;go_enter Tryz.func22,Tryz.ntmps22;go_wp2_with (fail);go_at_call 43;refine(aa.out _).mono ?_;rintro e W1 ⟨rfl,ah⟩;have an:=hyd1 ah;clear ah;go_wp2_with (fail);go_at_call 23;refine(qAe _ _).mono ?_;rintro e W2 ⟨rfl,rfl⟩;go_wp2_with (fail);go_loopw [0,3] (λs o wr=>∃(m:Nat) (d:List Nat),s= .string (baL (l.take m))/\m<=l.length/\d.length+m<=1000/\Hid (Below w.heap.size w wr)/\Hid (wr.ownsRow w.heap.size 82 1 o d.length (d.map (gv .u32)))/\Hid (Low d)/\Hid (decV 0 l=nv d+B9^d.length*decV 0 (l.take m))) (λs _ _=>(match s with | .string b=>b.size|_=>0))
 case atStart=>exact⟨l.length,[],by rw[List.take_length],Nat.le_refl _,by rw[List.length_nil];omega,Lib.hid an.out,Lib.hid (World.ownsRow_nil _ _ _ _),Lib.hid (λ_ h=>by cases h),Lib.hid (by rw[List.take_length];show _=0+B9^0*_;rw[Nat.pow_zero,Nat.one_mul,Nat.zero_add])⟩
 case round=>
  obtain⟨m,d,rfl,hm,aV,hb,n,k,j⟩:=hrel;have ae:(baL (l.take m)).size =m:=by rw[qAP,List.length_take];omega
  by_cases aF:0<m
  ·have j1:0<(m:Int):=by omega
   obtain⟨f,hf⟩:∃f,m - 9=f:=⟨_,rfl⟩;have aD:f<=m:=by omega
   have az:f<=(l.take m).length :=by rw[List.length_take];omega
   have af:=qCQ (l.take m) f az;rw[List.length_take,Nat.min_eq_left hm]at af;have a5:=qFT (l.take m) f az;rw[List.take_take,Nat.min_eq_left aD]at a5;obtain⟨ch,z⟩:∃ch,(l.take m).drop f=ch:=⟨_,rfl⟩;rw[z]at af;have t:ch.length=m - f:=by rw[<-z,List.length_drop,List.length_take];omega
   have H:ch.all digB=true:=by rw[<-z];exact qFq T.out m f
   obtain⟨g,hg⟩:∃g,decV 0 ch=g:=⟨_,rfl⟩;obtain⟨Q,F⟩:=qGk (g:=g) T.out hm aF hf.symm (by rw[z];exact hg) j.out;have P:=λW=>qHd ch W H (λe=>by rw[e]at t;rw[List.length_nil]at t;omega) (by omega);rw[hg]at P;have aS:g<1000000000:=by rw[<-qAD];exact Q
   have B:Low (d++[g]):=λy hy=>by
    rw[List.mem_append,List.mem_singleton]at hy
    rcases hy with hy|hy
    ·exact k.out y hy
    ·rw[hy];exact Q
   have hz:w.heap.size<=wr.heap.size:=hb.out.size;obtain⟨tm,R⟩:∃x,baL (l.take m)=x:=⟨_,rfl⟩;rw[R]at af a5 ae ⊢
   by_cases h9:9<=m
   ·have aR:(m:Int) - 9=(f:Int):=by omega
    have aG:¬(f:Int)<0:=by omega
    have aC:(f:Int)<=(m:Int):=by omega
    have⟨ad,D,N,ab,a2,ax,ak,aj⟩:=hyd8 hb n k j R z t H;have⟨aE,a0,G,U,C,aB⟩:=hyd6 hg Q F P B hf;clear hf B P F Q hg H t z R j k n hb;go_wp2_with (fail);go_at_call 44;refine(U.out _).mono ?_;rintro e W5 ⟨rfl,i⟩;have p:=qA0 D.out.out i;have J:=ad.out.out.trans (i.mono hz);have ac:w.heap.size<=W5.heap.size:=J.size;have aI:IntKind.u32.wrap (g:Int)=(g:Int):=by rw[IntKind.wrap_u32];omega
    have⟨ao,E,V⟩:=hyd3 i p J;clear J p i;go_wp2_with (fail)
    go_region_held3 (λw'=>True) (trivial) (first | (refine qEq rfl (.tmp 29) (.tmp 32) 42 (by rfl) w.heap.size 82 qAp u3 d (by rfl) (E.out.alloc _) (.slice (some ⟨_,0,none⟩) 1 1) [g] (by rfl) (by first |exact qGm _ _ _ _|exact qBP _ _ _ _) (by simp;omega) (by first |omega| (simp;omega)) ?_;intro v2 w2 Y I am _;have S:Below w.heap.size W5 w2:=(by first |exact(((Below.refl _ _).alloc ac _).drew).trans I|exact((Below.refl _ _).alloc ac _).trans I);have Z:=Lib.hid Y;clear Y am))
    have M:=V.out.trans S;have ap:(baL (l.take f)).size =f:=by rw[qAP,List.length_take];omega
    have M:=Lib.hid M;clear S I;go_wp2;go_roundw
    case rel=>exact⟨f,d++[g],rfl,by omega,by rw[List.length_append,List.length_singleton];omega,M,Z,C,G⟩
    case measure=>(simp[ap,ae];try omega)
   ·obtain⟨q,hq⟩:∃q:Int,(m:Int) - 9=q:=⟨_,rfl⟩;have aG:q<0:=by omega
    obtain rfl:f=0:=by omega
    have aC:(0:Int)<=(m:Int):=by omega
    have aT:max q 0=0:=by omega
    have al:baL ch=tm:=by rw[<-z,List.drop_zero,R]
    rw[al]at P af;have⟨ad,D,N,ab,aK,a2,ax,ak⟩:=hyd8 hb n k j al R z t;have⟨aj,aE,a0,G,U,C,aB⟩:=hyd7 H hg Q F P B hf;clear hf B P F Q hg H t z R al j k n hb;go_wp2_with (fail);go_at_call 44;refine(U.out _).mono ?_;rintro e W5 ⟨rfl,i⟩;have p:=qA0 D.out.out i;have J:=ad.out.out.trans (i.mono hz);have ac:w.heap.size<=W5.heap.size:=J.size;have aI:IntKind.u32.wrap (g:Int)=(g:Int):=by rw[IntKind.wrap_u32];omega
    have⟨ao,E,V⟩:=hyd3 i p J;clear J p i;go_wp2_with (fail)
    go_region_held3 (λw'=>True) (trivial) (first | (refine qEq rfl (.tmp 29) (.tmp 32) 42 (by rfl) w.heap.size 82 qAp u3 d (by rfl) (E.out.alloc _) (.slice (some ⟨_,0,none⟩) 1 1) [g] (by rfl) (by first |exact qGm _ _ _ _|exact qBP _ _ _ _) (by simp;omega) (by first |omega| (simp;omega)) ?_;intro v2 w2 Y I am _;have S:Below w.heap.size W5 w2:=(by first |exact(((Below.refl _ _).alloc ac _).drew).trans I|exact((Below.refl _ _).alloc ac _).trans I);have Z:=Lib.hid Y;clear Y am))
    have M:=V.out.trans S;have ap:(baL (l.take 0)).size =0:=rfl;have M:=Lib.hid M;clear S I;go_wp2;go_roundw
    case rel=>exact⟨0,d++[g],rfl,by omega,by rw[List.length_append,List.length_singleton];omega,M,Z,C,G⟩
    case measure=>(simp[ap,ae];try omega)
  ·obtain rfl:m=0:=by omega
   have hv:=j.out;rw[List.take_zero]at hv ae ⊢;have a3:nv d=decV 0 l:=by rw[hv];show nv d=nv d+B9^d.length*0;rw[Nat.mul_zero,Nat.add_zero]
   have hn:ArrL L (gv .u32) wr u3 d:=ArrL.of_own n.out aA.out
   obtain⟨A3,c3,e3⟩:∃A c,u3= .slice A d.length c:=by obtain⟨A,c,e,-⟩:=hn;exact⟨A,c,e⟩
   subst e3;have O:=qDx L d _ wr hn;have av:Le w wr:=hb.out;have⟨ad,D,N,ab,aW,a4,aU,aa⟩:=hyd8 hb n k j hv a3 hn O;have aw:=hyd1 av;clear av O hn a3 hv j k n hb;go_wp2_with (fail);go_at_call 45;refine aa.out.mono ?_;rintro e W9 ⟨v9,rfl,rfl,h9⟩;have a9:=hyd1 h9;clear h9;go_wp2;go_ret;exact⟨_,rfl,aw.out,qAd a9.out N.out.out a4.out⟩
theorem qBi (l:List UInt8) (w:World) (hl:l.length<=1000) (h:numE l=none):
  Calls Tryz.prog 22 #[.string (baL l)] w λe w'=>e= .panicked [{v:= .iface 69 (.agg #[.int .i64 13]),recovered:=false}]/\Le w w':=by
 by_cases k:l=[]
 ·subst k;have d:Value.string (baL [])= .string ⟨#[]⟩:=rfl;rw[d];have⟨o,t⟩:=hyd2 d h;clear h d;go_enter Tryz.func22,Tryz.ntmps22;go_wp2_with (fail);go_at_call 23;refine(qAY _ _).mono ?_;rintro e s ⟨rfl,rfl⟩;go_wp2_with (fail);exact⟨rfl,rfl,Le.refl _⟩
 ·have c:¬l.all digB=true:=λC=>by rw[qDj k C]at h;cases h
  have y:((baL l).toList ==([]:List UInt8))=false:=by rw[qAa];exact beq_eq_false_iff_ne.2 k
  have z:(baL l).isEmpty =false:=by
   cases l with
   | nil=>exact absurd rfl k
   | cons a r=>rfl
  have j:=λW=>qFr l W (by omega);obtain⟨tr,b⟩:∃tr,Lib.trimS l digitsC=tr:=⟨_,rfl⟩;have f:tr≠[]:=λe=>c ((qD7 l).1 (b.trans e));have A:((baL tr).toList ==([]:List UInt8))=false:=by rw[qAa];exact beq_eq_false_iff_ne.2 f
  have B:(baL tr).isEmpty =false:=by
   cases tr with
   | nil=>exact absurd rfl f
   | cons a r=>rfl
  rw[b]at j;have⟨n,m,p,q,t,x⟩:=hyd6 c j b f h k;clear k h f b j c;go_enter Tryz.func22,Tryz.ntmps22;go_wp2_with (fail);go_at_call 43;refine(m.out _).mono ?_;rintro e D ⟨rfl,g⟩;have i:=hyd1 g;clear g;go_wp2_with (fail);go_at_call 23;refine(qAY _ _).mono ?_;rintro e s ⟨rfl,rfl⟩;go_wp2_with (fail);exact⟨rfl,rfl,i.out⟩
end Go.Proofs.YtfmfefibadpobaaGreatDoor

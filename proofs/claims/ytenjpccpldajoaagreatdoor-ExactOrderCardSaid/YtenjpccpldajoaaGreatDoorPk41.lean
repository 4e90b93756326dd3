/- Texts: Text. Texts: the library's contracts that parsing wants; the plain law of the groups that are read. Texts: parsed. -/
import Derived.Test.YtenjpccpldajoaaGreatDoorPk40
import Derived.Shelf.Strconv.Atoi
import Derived.Shelf.Strings.SlTrimAscii
import Derived.Shelf.Strings.Prefix
import Derived.Shelf.Strings.Cut
import Derived.Lib.SmallJoins
namespace Go.Proofs.YtenjpccpldajoaaGreatDoor
set_option maxRecDepth 100000
open Go.RowKit Go.Shelf
set_option linter.unusedVariables false
set_option linter.unusedSimpArgs false
theorem qG4:qAF Tryz.prog 39:=fun _ _=>by kernel_rfl
theorem qKZ (x:FracA) (r:Rat) (Bx:Nat) (A A':Option Addr) (c c':Nat) (w:World) (kx:w.heap[Bx]? =some (.cells #[.bool x.sn,.slice A x.gn.length c,.bool x.sd,.slice A' x.gd.length c'] 26)) (hxa:IsFracA (fun _=>True) w (.agg #[.bool x.sn,.slice A x.gn.length c,.bool x.sd,.slice A' x.gd.length c']) x) (hw:TxW w) (hr:x.rat?=some r):
  Calls Tryz.prog 39 #[.pointer (some ⟨Bx,0,none⟩)] w fun e w'=>e= .returned (.string (baL (qAL r)))∧Le w w':=by
 obtain⟨x0,x1,x2,x3⟩:=qAA kx;have hsz:=(FracA.sz hr).up (n:=1000) (by omega);have⟨kx',hxa',hr',hw',hsz'⟩:=hyd5 kx hxa hr hw hsz;clear hsz hw hr hxa kx;go_enter Tryz.func39,Tryz.ntmps39;go_wp2_with (fail);go_at_call 41;refine(qAh (fun _=>True) x r _ _ (Up.any _) hxa'.out hr'.out).mono ?_;rintro e W1 ⟨v1,rfl,hle1,hr1⟩;have q:=qFC (fun _=>True) r v1 W1 (hw'.out.le hle1) hr1 hsz'.out;have⟨hle1',hr1',q'⟩:=hyd3 hle1 hr1 q;clear q hr1 hle1;go_wp2_with (fail);go_at_call 40;refine q'.out.mono ?_;rintro e W2 ⟨rfl,hle2⟩;have hle2':=hyd1 hle2;clear hle2;go_wp2;go_ret;exact⟨rfl,hle1'.out.trans hle2'.out⟩
theorem qK0 (x:FracA) (Bx:Nat) (A A':Option Addr) (c c':Nat) (w:World) (kx:w.heap[Bx]? =some (.cells #[.bool x.sn,.slice A x.gn.length c,.bool x.sd,.slice A' x.gd.length c'] 26)) (hxa:IsFracA (fun _=>True) w (.agg #[.bool x.sn,.slice A x.gn.length c,.bool x.sd,.slice A' x.gd.length c']) x) (hr:x.rat?=none):
  Calls Tryz.prog 39 #[.pointer (some ⟨Bx,0,none⟩)] w fun e w'=>e= .panicked [{v:= .iface 137 (.agg #[.int .i64 10]),recovered:=false}]∧Le w w':=by
 obtain⟨x0,x1,x2,x3⟩:=qAA kx;have⟨kx',hxa',hr'⟩:=hyd3 kx hxa hr;clear hr hxa kx;go_enter Tryz.func39,Tryz.ntmps39;go_wp2_with (fail);go_at_call 41;refine(qBC (fun _=>True) x _ w (Up.any _) hxa'.out hr'.out).mono ?_;rintro e W1 ⟨rfl,hle1⟩;go_wp2_with (fail);exact⟨rfl,rfl,hle1⟩
theorem qOy (L:Nat→Prop) (x:FracA) (v:Value) (w:World) (h:IsFracA L w v x) (hw:TxW w):
  Calls Tryz.prog 10 #[v] w fun e w'=>e= .returned (.tuple #[.string (baL (qHZ x)),.int .i64 (qH0 x)])∧Le w w':=by
 have hmf:∀(fn:Fn) (first cap:Array Value) (w:World),(Instr.makeFunc fn first cap).run Tryz.prog w= .ok (.func fn first cap) w:=fun _ _ _ _=>rfl;have hx0:=h;obtain⟨A,c,A',c',rfl,p1,p2⟩:=h;obtain⟨W0,hW0,hle,k0⟩:=al1 w (.cells #[.bool x.sn,.slice A x.gn.length c,.bool x.sd,.slice A' x.gd.length c'] 26);have hlt:=(gsl k0)
 have hrun:Calls Tryz.prog 38 #[.func (.func 39) #[] #[.pointer (some ⟨w.heap.size,0,none⟩)]] W0 fun e w'=>e= .returned (.tuple #[.string (baL (qHZ x)),.int .i64 (qH0 x)])∧Le W0 w':=by
  unfold qHZ qH0
  cases hr:x.rat? with
  | some r=>exact qIz _ _ _ W0 qG4 fun W hW=>qKZ x r w.heap.size A A' c c' W ((hW.block _ hlt).trans k0) ((hx0.le (hle.trans hW)).mono fun _ _=>trivial) (hw.le (hle.trans hW)) hr
  | none=>exact qIT _ _ 10 W0 qG4 fun W hW=>qK0 x w.heap.size A A' c c' W ((hW.block _ hlt).trans k0) ((hx0.le (hle.trans hW)).mono fun _ _=>trivial) hr
 have⟨hx0',p1',p2',hle',k0',hrun',hw'⟩:=hyd7 hx0 p1 p2 hle k0 hrun hw;clear hw hrun k0 hle p2 p1 hx0;go_enter Tryz.func10,Tryz.ntmps10;go_wp2_with (fail);clear hW0;go_at_call 38;refine hrun'.out.mono ?_;rintro e W1 ⟨rfl,hle1⟩;have hle2:=hle'.out.trans hle1;have⟨hle1',hle2'⟩:=hyd2 hle1 hle2;clear hle2 hle1;go_wp2;go_ret2;exact⟨rfl,hle2'.out⟩
theorem qKw {l:List UInt8} (h:l.all digB=true) (a b:Nat):((l.take a).drop b).all digB=true:=by
 rw[List.all_eq_true]at h ⊢;exact fun x hx=>h x (List.mem_of_mem_take (List.mem_of_mem_drop hx))
theorem qOD {l:List UInt8} (h:l.all digB=true) (h0:l≠[]):Lib.atoi l=some (decV 0 l:Nat):=by
 cases l with
 | nil=>exact absurd rfl h0
 | cons b r=>
  have hb:digB b=true:=by rw[List.all_cons,Bool.and_eq_true]at h;exact h.1
  have h45:(b==45)=false:=beq_eq_false_iff_ne.2 (qJY hb);have h43:(b==43)=false:=beq_eq_false_iff_ne.2 (fun e=>by subst e;revert hb;decide);have e:Lib.atoi (b::r)=if (b==45)=true then(Lib.decNat r).map fun(m:Nat)=> -(m:Int)else if (b==43)=true then(Lib.decNat r).map fun(m:Nat)=>(m:Int)else(Lib.decNat (b::r)).map fun(m:Nat)=>(m:Int):=rfl;rw[e,h45,h43,qN6 (b::r),qJ0 h0 h]
  rfl
theorem qNE {l:List UInt8} (h:l.all digB=true) {m f g V:Nat} {pre:List Nat} (hm:m≤l.length) (h0:0<m) (hf:f=m - 9) (hg:decV 0 ((l.take m).drop f)=g) (hV:V=nv pre+B9^pre.length*decV 0 (l.take m)):g<B9∧V=nv (pre++[g])+B9^(pre++[g]).length *decV 0 (l.take f):=by
 have hlt:g<B9:=by
  have h1:=qGF _ (qKw h m f);rw[hg,List.length_drop,List.length_take,Nat.min_eq_left hm]at h1;rw[qEu];exact Nat.lt_of_lt_of_le h1 (Nat.pow_le_pow_right (by decide) (by omega))
 refine⟨hlt,?_⟩;have h2:=qLJ l m f (by omega) hm;rw[hg]at h2
 have h3:decV 0 (l.take f)*10^(m - f)=decV 0 (l.take f)*B9:=by
  by_cases h9:9≤m
  ·rw[show m - f=9 by omega,←qEu]
  ·rw[show f=0 by omega,List.take_zero];show 0*_=0*_;rw[Nat.zero_mul,Nat.zero_mul]
 rw[hV,h2,h3,qEL,List.length_append,List.length_singleton,Nat.pow_succ,Nat.mul_add,Nat.add_assoc,Nat.add_comm (B9^pre.length*g),Nat.mul_assoc,Nat.mul_comm B9,Nat.add_comm (B9^pre.length*(decV 0 (l.take f)*B9))]
theorem qOz (l:List UInt8) (w:World) (h:l.all digB=true) (h0:l≠[]) (h9:l.length≤9):Calls Tryz.prog 110 #[.string (baL l)] w fun e w'=>e= .returned (.tuple #[.int .i64 (decV 0 l:Nat),.nilIface])∧Le w w':=by
 refine(Any.strconv_Atoi qHX (baL l) (decV 0 l:Nat) (by rw[qBz];omega) (qOD h h0) w).mono ?_;rintro e w' ⟨rfl,t,rfl⟩;exact⟨rfl,Joins.below_bytesWorld w.heap.size w _ t (Nat.le_refl _)⟩
theorem qKx (l:List UInt8) (w:World) (hl:l.length≤1000000):Calls Tryz.prog 109 #[.string (baL l),.string ⟨#[48,49,50,51,52,53,54,55,56,57]⟩] w fun e w'=>e= .returned (.string (baL (Lib.trimS l digitsC)))∧Le w w':=by
 refine(Any.strings_Trim_laid qHW (by kernel_rfl) (baL l) ⟨#[48,49,50,51,52,53,54,55,56,57]⟩ w (by rw[qBz];omega) (by decide) (ascii_of_all (by decide))).mono ?_;rintro e w' ⟨rfl,h⟩;exact⟨rfl,h⟩
theorem qKA (l:List UInt8):Lib.hasPrefix l [45]=decide (l.head?=some 45):=by
 cases l with
 | nil=>rfl
 | cons a r=>
  by_cases h:a=45
  ·subst h;rfl
  ·have h1:(a::r).head? ≠some 45:=fun e=>h (by injection e);rw[decide_eq_false h1];simp only[Lib.hasPrefix,List.isPrefixOf,Bool.and_true,beq_eq_false_iff_ne,ne_eq];exact fun e=>h e.symm
theorem qNF (l:List UInt8):Lib.trimPrefix l [45]=if l.head?=some 45 then l.drop 1 else l:=by
 unfold Lib.trimPrefix;rw[qKA];simp only[decide_eq_true_eq]
 rfl
theorem qPA (l:List UInt8) (w:World):Calls Tryz.prog 46 #[.string (baL l),.string ⟨#[45]⟩] w fun e w'=>e= .returned (.bool (decide (l.head?=some 45)))∧w'=w:=by
 refine(Any.strings_HasPrefix qIB (baL l) ⟨#[45]⟩ w).mono ?_;rintro e w' ⟨rfl,rfl⟩;exact⟨by rw[←qKA];rfl,rfl⟩
theorem qOE (l:List UInt8) (w:World):Calls Tryz.prog 45 #[.string (baL l),.string ⟨#[45]⟩] w fun e w'=>e= .returned (.string (baL (if l.head?=some 45 then l.drop 1 else l)))∧w'=w:=by
 refine(Any.strings_TrimPrefix qHV (baL l) ⟨#[45]⟩ w).mono ?_;rintro e w' ⟨rfl,rfl⟩;exact⟨by rw[←qNF];rfl,rfl⟩
theorem qP0 (l:List UInt8) (w:World) (hw:TxW w) (hl:l.length≤1000000):Calls Tryz.prog 44 #[.string (baL l),.string ⟨#[47]⟩] w fun e w'=>e= .returned (.tuple #[.string (baL (cutS l).1),.string (baL (cutS l).2.1),.bool (cutS l).2.2])∧∃n,w'=w.drewN n:=by
 obtain⟨-,m,hm⟩:=hw;refine(Any.strings_Cut qHY (baL l) ⟨#[47]⟩ m w (by rw[qBz];omega) hm).mono ?_;rintro e w' ⟨rfl,h⟩;refine⟨?_,h⟩;rw[←qOc]
 rfl
set_option maxHeartbeats 2000000
theorem qIk {P:Program} {w:World} {ops:Array Oper} {o:Oper} {a:Act} {K:Act→World→Prop} {Q:Exit→Act→World→Prop} {E:Prop} (hgd:o.guard=none) (s x:Operand) (t:TypeId)
  (ho:o.op= .call {callee:= .builtin .append,args:=#[s,x],argTypes:=#[t,t]})
  (base:Nat) (e:TypeId) (hE:qDP P t e (.int .u32 0) 4)
  (v:Value) (xs:List Nat) (hs:a.eval s=v) (hown:w.ownsRow base e 1 v xs.length (xs.map (gv .u32)))
  (sv:Value) (ys:List Nat) (hx:a.eval x=sv) (hsrc:Arr (gv .u32) w sv ys)
  (hlen:xs.length+ys.length≤1000000000) (hbase:base≤w.heap.size)
  (h:∀v' w',w'.ownsRow base e 1 v' (xs++ys).length ((xs++ys).map (gv .u32))→Below base w w'→w.grownBy w' v.ownBlock→(v'.ownBlock=none↔v.ownBlock=none∧ys=[])→K (a.put o.dst v') w'):
  if Region.wanted o (yielded ops a.tmps)=true then Oper.wp P o a w K Q else E:=by
 have hw:Region.wanted o (yielded ops a.tmps)=true:=by simp[Region.wanted,hgd]
 rw[if_pos hw]
 exact qLy s x t ho base e _ 4 hE v xs hs hown sv ys hx hsrc (fun _=>rfl) (by omega) (by omega) hbase fun v' w' h1 h2 h3=>
  h v' w' h1 ((Below.refl _ _).grown h2 hbase fun k hk=>(hown.lt k hk).1) h2 h3
theorem qNG (k:IntKind) (w:World) (e:TypeId) (g:Nat):Arr (gv k) (w.alloc (.cells #[.int k g] e)).drew (.slice (some ⟨w.heap.size,0,none⟩) 1 1) [g]:=qCB k w e g
theorem qD2 (L:Nat→Prop) (l:List UInt8) (w:World) (hL:Up w L) (hl:l.length≤1000) (h0:l≠[]) (hall:l.all digB=true):
  Calls Tryz.prog 47 #[.string (baL l)] w fun e w'=>∃v,e= .returned v∧Le w w'∧NumL L .u32 w' v (decV 0 l):=by
 have hE0:((baL l).toList ==([]:List UInt8))=false:=by rw[qCb];exact beq_eq_false_iff_ne.2 h0
 have hE1:(baL l).isEmpty =false:=by
  cases l with
  | nil=>exact absurd rfl h0
  | cons a r=>rfl
 have htr:=fun W=>qKx l W (by omega);rw[(qGY l).2 hall]at htr;have hnil:baL []=⟨#[]⟩:=rfl;rw[hnil]at htr;have hsz:=qBz l;have⟨hL',hall',htr',hnil',hsz'⟩:=hyd5 hL hall htr hnil hsz;clear hsz hnil htr hall hL;go_enter Tryz.func47,Tryz.ntmps47;go_wp2_with (fail);go_at_call 109;refine(htr'.out _).mono ?_;rintro e W1 ⟨rfl,hle1⟩;have hle1':=hyd1 hle1;clear hle1;go_wp2_with (fail);go_at_call 48;refine(qAX _ _).mono ?_;rintro e W2 ⟨rfl,rfl⟩;go_wp2_with (fail);go_loopw [0,3] (fun s o wr=>∃(m:Nat) (pre:List Nat),s= .string (baL (l.take m))∧m≤l.length∧pre.length+m≤1000∧Hid (Below w.heap.size w wr)∧Hid (wr.ownsRow w.heap.size 92 1 o pre.length (pre.map (gv .u32)))∧Hid (Low pre)∧Hid (decV 0 l=nv pre+B9^pre.length*decV 0 (l.take m))) (fun s _ _=>(match s with | .string b=>b.size|_=>0))
 case atStart=>exact⟨l.length,[],by rw[List.take_length],Nat.le_refl _,by rw[List.length_nil];omega,Lib.hid hle1'.out,Lib.hid (World.ownsRow_nil _ _ _ _),Lib.hid (fun _ h=>by cases h),Lib.hid (by rw[List.take_length];show _=0+B9^0*_;rw[Nat.pow_zero,Nat.one_mul,Nat.zero_add])⟩
 case round=>
  obtain⟨m,pre,rfl,hm,hpl,hb,hown,hlow,hval⟩:=hrel;have hsm:(baL (l.take m)).size =m:=by rw[qBz,List.length_take];omega
  by_cases hm0:0<m
  ·have j1:0<(m:Int):=by omega
   obtain⟨f,hf⟩:∃f,m - 9=f:=⟨_,rfl⟩;have hfm:f≤m:=by omega
   have hfl:f≤(l.take m).length :=by rw[List.length_take];omega
   have hx1:=qNa (l.take m) f hfl;rw[List.length_take,Nat.min_eq_left hm]at hx1;have hx2:=qN9 (l.take m) f hfl;rw[List.take_take,Nat.min_eq_left hfm]at hx2;obtain⟨ch,hch⟩:∃ch,(l.take m).drop f=ch:=⟨_,rfl⟩;rw[hch]at hx1;have hchl:ch.length=m - f:=by rw[←hch,List.length_drop,List.length_take];omega
   have hcha:ch.all digB=true:=by rw[←hch];exact qKw hall'.out m f
   obtain⟨g,hg⟩:∃g,decV 0 ch=g:=⟨_,rfl⟩;obtain⟨hgB,hval2⟩:=qNE (g:=g) hall'.out hm hm0 hf.symm (by rw[hch];exact hg) hval.out;have hat:=fun W=>qOz ch W hcha (fun e=>by rw[e]at hchl;rw[List.length_nil]at hchl;omega) (by omega);rw[hg]at hat;have hg9:g<1000000000:=by rw[←qAO];exact hgB
   have hlow2:Low (pre++[g]):=fun y hy=>by
    rw[List.mem_append,List.mem_singleton]at hy
    rcases hy with hy|hy
    ·exact hlow.out y hy
    ·rw[hy];exact hgB
   have hz:w.heap.size≤wr.heap.size:=hb.out.size;obtain⟨tm,htm⟩:∃x,baL (l.take m)=x:=⟨_,rfl⟩;rw[htm]at hx1 hx2 hsm ⊢
   by_cases h9:9≤m
   ·have hfi:(m:Int) - 9=(f:Int):=by omega
    have hmx:¬(f:Int)<0:=by omega
    have hfI:(f:Int)≤(m:Int):=by omega
    have⟨hb',hown',hlow',hval',htm',hch',hchl',hcha'⟩:=hyd8 hb hown hlow hval htm hch hchl hcha;have⟨hg',hgB',hval2',hat',hlow2',hf'⟩:=hyd6 hg hgB hval2 hat hlow2 hf;clear hf hlow2 hat hval2 hgB hg hcha hchl hch htm hval hlow hown hb;go_wp2_with (fail);go_at_call 110;refine(hat'.out _).mono ?_;rintro e W5 ⟨rfl,hle5⟩;have hown5:=qC5 hown'.out.out hle5;have hb5:=hb'.out.out.trans (hle5.mono hz);have hz5:w.heap.size≤W5.heap.size:=hb5.size;have hwr:IntKind.u32.wrap (g:Int)=(g:Int):=by rw[IntKind.wrap_u32];omega
    have⟨hle5',hown5',hb5'⟩:=hyd3 hle5 hown5 hb5;clear hb5 hown5 hle5;go_wp2_with (fail)
    go_region_held3 (fun w'=>True) (trivial) (first | (refine qIk rfl (.tmp 29) (.tmp 32) 68 (by rfl) w.heap.size 92 qAf u3 pre (by rfl) (hown5'.out.alloc _) (.slice (some ⟨_,0,none⟩) 1 1) [g] (by rfl) (by first |exact qNG _ _ _ _|exact qCB _ _ _ _) (by simp;omega) (by first |omega| (simp;omega)) ?_;intro v2 w2 ho2 hb2 hg2 _;have hB2:Below w.heap.size W5 w2:=(by first |exact(((Below.refl _ _).alloc hz5 _).drew).trans hb2|exact((Below.refl _ _).alloc hz5 _).trans hb2);have ho2':=Lib.hid ho2;clear ho2 hg2))
    have hb9:=hb5'.out.trans hB2;have hsf:(baL (l.take f)).size =f:=by rw[qBz,List.length_take];omega
    have hb9:=Lib.hid hb9;clear hB2 hb2;go_wp2;go_roundw
    case rel=>exact⟨f,pre++[g],rfl,by omega,by rw[List.length_append,List.length_singleton];omega,hb9,ho2',hlow2',hval2'⟩
    case measure=>(simp[hsf,hsm];try omega)
   ·obtain⟨q,hq⟩:∃q:Int,(m:Int) - 9=q:=⟨_,rfl⟩;have hmx:q<0:=by omega
    obtain rfl:f=0:=by omega
    have hfI:(0:Int)≤(m:Int):=by omega
    have hmq:max q 0=0:=by omega
    have hcm:baL ch=tm:=by rw[←hch,List.drop_zero,htm]
    rw[hcm]at hat hx1;have⟨hb',hown',hlow',hval',hcm',htm',hch',hchl'⟩:=hyd8 hb hown hlow hval hcm htm hch hchl;have⟨hcha',hg',hgB',hval2',hat',hlow2',hf'⟩:=hyd7 hcha hg hgB hval2 hat hlow2 hf;clear hf hlow2 hat hval2 hgB hg hcha hchl hch htm hcm hval hlow hown hb;go_wp2_with (fail);go_at_call 110;refine(hat'.out _).mono ?_;rintro e W5 ⟨rfl,hle5⟩;have hown5:=qC5 hown'.out.out hle5;have hb5:=hb'.out.out.trans (hle5.mono hz);have hz5:w.heap.size≤W5.heap.size:=hb5.size;have hwr:IntKind.u32.wrap (g:Int)=(g:Int):=by rw[IntKind.wrap_u32];omega
    have⟨hle5',hown5',hb5'⟩:=hyd3 hle5 hown5 hb5;clear hb5 hown5 hle5;go_wp2_with (fail)
    go_region_held3 (fun w'=>True) (trivial) (first | (refine qIk rfl (.tmp 29) (.tmp 32) 68 (by rfl) w.heap.size 92 qAf u3 pre (by rfl) (hown5'.out.alloc _) (.slice (some ⟨_,0,none⟩) 1 1) [g] (by rfl) (by first |exact qNG _ _ _ _|exact qCB _ _ _ _) (by simp;omega) (by first |omega| (simp;omega)) ?_;intro v2 w2 ho2 hb2 hg2 _;have hB2:Below w.heap.size W5 w2:=(by first |exact(((Below.refl _ _).alloc hz5 _).drew).trans hb2|exact((Below.refl _ _).alloc hz5 _).trans hb2);have ho2':=Lib.hid ho2;clear ho2 hg2))
    have hb9:=hb5'.out.trans hB2;have hsf:(baL (l.take 0)).size =0:=rfl;have hb9:=Lib.hid hb9;clear hB2 hb2;go_wp2;go_roundw
    case rel=>exact⟨0,pre++[g],rfl,by omega,by rw[List.length_append,List.length_singleton];omega,hb9,ho2',hlow2',hval2'⟩
    case measure=>(simp[hsf,hsm];try omega)
  ·obtain rfl:m=0:=by omega
   have hv:=hval.out;rw[List.take_zero]at hv hsm ⊢;have hv2:nv pre=decV 0 l:=by rw[hv];show nv pre=nv pre+B9^pre.length*0;rw[Nat.mul_zero,Nat.add_zero]
   have hn:ArrL L (gv .u32) wr u3 pre:=ArrL.of_own hown.out hL'.out
   obtain⟨A3,c3,e3⟩:∃A c,u3= .slice A pre.length c:=by obtain⟨A,c,e,-⟩:=hn;exact⟨A,c,e⟩
   subst e3;have htr:=qDX L pre _ wr hn;have hLe:Le w wr:=hb.out;have⟨hb',hown',hlow',hval',hv',hv2',hn',htr'⟩:=hyd8 hb hown hlow hval hv hv2 hn htr;have hLe':=hyd1 hLe;clear hLe htr hn hv2 hv hval hlow hown hb;go_wp2_with (fail);go_at_call 111;refine htr'.out.mono ?_;rintro e W9 ⟨v9,rfl,rfl,h9⟩;have h9':=hyd1 h9;clear h9;go_wp2;go_ret;exact⟨_,rfl,hLe'.out,qBd h9'.out hlow'.out.out hv2'.out⟩
theorem qD3 (l:List UInt8) (w:World) (hl:l.length≤1000) (h:numE l=none):
  Calls Tryz.prog 47 #[.string (baL l)] w fun e w'=>e= .panicked [{v:= .iface 137 (.agg #[.int .i64 13]),recovered:=false}]∧Le w w':=by
 by_cases h0:l=[]
 ·subst h0;have hnil:Value.string (baL [])= .string ⟨#[]⟩:=rfl;rw[hnil];have⟨hnil',h'⟩:=hyd2 hnil h;clear h hnil;go_enter Tryz.func47,Tryz.ntmps47;go_wp2_with (fail);go_at_call 48;refine(qAY _ _).mono ?_;rintro e W2 ⟨rfl,rfl⟩;go_wp2_with (fail);exact⟨rfl,rfl,Le.refl _⟩
 ·have hall:¬l.all digB=true:=fun ha=>by rw[qJ0 h0 ha]at h;cases h
  have hE0:((baL l).toList ==([]:List UInt8))=false:=by rw[qCb];exact beq_eq_false_iff_ne.2 h0
  have hE1:(baL l).isEmpty =false:=by
   cases l with
   | nil=>exact absurd rfl h0
   | cons a r=>rfl
  have htr:=fun W=>qKx l W (by omega);obtain⟨tr,htr2⟩:∃tr,Lib.trimS l digitsC=tr:=⟨_,rfl⟩;have htn:tr≠[]:=fun e=>hall ((qGY l).1 (htr2.trans e));have hE2:((baL tr).toList ==([]:List UInt8))=false:=by rw[qCb];exact beq_eq_false_iff_ne.2 htn
  have hE3:(baL tr).isEmpty =false:=by
   cases tr with
   | nil=>exact absurd rfl htn
   | cons a r=>rfl
  rw[htr2]at htr;have⟨hall',htr',htr2',htn',h',h0'⟩:=hyd6 hall htr htr2 htn h h0;clear h0 h htn htr2 htr hall;go_enter Tryz.func47,Tryz.ntmps47;go_wp2_with (fail);go_at_call 109;refine(htr'.out _).mono ?_;rintro e W1 ⟨rfl,hle1⟩;have hle1':=hyd1 hle1;clear hle1;go_wp2_with (fail);go_at_call 48;refine(qAY _ _).mono ?_;rintro e W2 ⟨rfl,rfl⟩;go_wp2_with (fail);exact⟨rfl,rfl,hle1'.out⟩
end Go.Proofs.YtenjpccpldajoaaGreatDoor

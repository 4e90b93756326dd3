/- reference 1: Ratio, Compare, Add, Mul, Div. reference 1: Sub. reference 1: Rounded. reference 1: Nearest. exact: run at api.Frac: the deferred closure, a call .. -/
import Derived.Test.YtcoajjdhkhgfdaaGreatPk20
namespace Go.Proofs.YtcoajjdhkhgfdaaGreat
set_option maxRecDepth 100000
open Go.RowKit Go.Shelf
set_option linter.unusedVariables false
set_option linter.unusedSimpArgs false
theorem qL5 {a:Rat} {n:Nat} (ha:Rsz a n):Rsz (-a) n:=by obtain⟨c,q2,b⟩:=qFN a;unfold Rsz;rw[q2,b];exact ha
def qEX:Except Int Rat->Int
 | .ok _=>0
 | .error x=>x
theorem IsRes.code {L:Nat->Prop} {w:World} {v:Value} {c:Int} {res:Except Int Rat} (h:IsRes L w v c res):c=qEX res:=by
 cases res with
 | ok r=>exact h.2
 | error x=>exact h.2
set_option maxRecDepth 10000
theorem qHX (p q:Addr) (w:World):
  CallsD Tryz.prog 89 #[.pointer (some p),.pointer (some q)] .returning w λe u' w'=>e= .returned (.tuple #[])/\u'= .returning /\w'=w:=by
 refine callsD_of_wpS Tryz.func89 rfl λc d b=>?_;apply wpS_seq;apply wpS_region;simp[wpOpsS,go_sem,recoverD,b,Tryz.ntmps89,Exit.thenS];apply wpS_seq;apply wpS_region;simp[wpOpsS,go_sem,recoverD,b,Tryz.ntmps89,Exit.thenS];refine wpS_cond (t:=false) (by simp[Act.eval,Array.replicate]) ?_;simp only[Bool.false_eq_true,if_false];refine wpS_of_wp (wp_skip ?_)
 cases c
 simp_all [bodyPostS,results,Tryz.results89]
theorem qGR (B:Nat) (e:Int) (s0 s2:Bool) (A1 A3:Option Addr) (l1 l3 k1 k3:Nat) (b:Value) (tp tq:TypeId) (w:World) (hb:w.heap[B]? =some (.cells #[.bool s0,.slice A1 l1 k1,.bool s2,.slice A3 l3 k3] tp)) (hq:w.heap[B+1]? =some (.cells #[b] tq)):
  CallsD Tryz.prog 89 #[.pointer (some ⟨B,0,none⟩),.pointer (some ⟨B+1,0,none⟩)] (.panicking [{v:= .iface 101 (.agg #[.int .i64 e]),recovered:=false}]) w λE u' w'=>E= .returned (.tuple #[])/\u'= .panicking [{v:= .iface 101 (.agg #[.int .i64 e]),recovered:=true}]∧
   w'.heap[B]? =some (.cells #[.bool false,.slice none 0 0,.bool false,.slice none 0 0] tp)/\w'.cell? ⟨B+1,0,none⟩=some (.int .i64 e)/\∀w0,Le w0 w->w0.heap.size<=B->Le w0 w':=by
 refine callsD_of_wpS Tryz.func89 rfl λc₀ cs y=>?_;apply wpS_seq;apply wpS_region;simp[wpOpsS,go_sem,recoverD,y,Tryz.ntmps89,Exit.thenS];apply wpS_seq;apply wpS_region;simp[wpOpsS,go_sem,recoverD,y,Tryz.ntmps89,Exit.thenS];refine wpS_cond (t:=true) (by simp[Act.eval,Array.replicate]) ?_;simp only[if_true];refine wpS_of_wp ?_;have ag:∀W:World,(Instr.typeAssert (Value.iface 101 (Value.agg #[Value.int IntKind.i64 e])) 20 101 true).run Tryz.prog W= .ok (.tuple #[.agg #[.int .i64 e],.bool true]) W:=λ_=>by kernel_rfl
 have n:∀a b c d e f g h:Value,#[a,b]++((((((Array.replicate 18 undef).setIfInBounds 4 c).setIfInBounds 0 d).setIfInBounds 5 e).setIfInBounds 6 f))=#[a,b,d,undef,undef,undef,c,e,f,undef,undef,undef,undef,undef,undef,undef,undef,undef,undef,undef]:=λ_ _ _ _ _ _ _ _=>by first |kernel_rfl|simp[Array.replicate_succ]
 rw[n _ _ _ _ _ _ undef undef];go_wp2;obtain⟨j,C,m⟩:=qAj (Le.refl ((w.alloc (.cells #[.int .i64 e] 101)).alloc (.cells #[.bool false,.slice none 0 0,.bool false,.slice none 0 0] 27)));generalize hW:(w.alloc (.cells #[.int .i64 e] 101)).alloc (.cells #[.bool false,.slice none 0 0,.bool false,.slice none 0 0] 27)=W at*;have i:=(Below.block j B (gsl hb)).trans hb;have l:=(Below.block j (B+1) (gsl hq)).trans hq;have aa:=(gsl hb);have af:=(gsl hq);obtain⟨F,G,H,I⟩:=qAI i;have⟨Q,R,S,T⟩:=frz4 i;have c2:=qAG l;have f2:=fz0 l 0;have c3:=qAG C;obtain⟨J,L,M,N⟩:=qAI m;have n1:¬w.heap.size=B:=by omega
 have n2:¬w.heap.size=B+1:=by omega
 have n3:¬B=w.heap.size:=by omega
 have n4:¬B+1=w.heap.size:=by omega
 have n5:¬B+1=B:=by omega
 have n6:¬w.heap.size+1=B:=by omega
 have n7:¬w.heap.size+1=B+1:=by omega
 have n8:¬B=w.heap.size+1:=by omega
 have⟨ab,q,ad,D,ac,ae,o,x⟩:=hyd8 hW j C m hb hq i l;have ah:=hyd1 y;clear y l i hq hb m C j hW;go_region;have U:=qBP o.out (u0:= .bool false) (u1:= .slice none 0 0) (u2:= .bool false) (u3:= .slice none 0 0);have k:B+1≠B:=by omega
 have X:((((W.setCell ⟨B,0,none⟩ (.bool false)).setCell ⟨B,1,none⟩ (.slice none 0 0)).setCell ⟨B,2,none⟩ (.bool false)).setCell ⟨B,3,none⟩ (.slice none 0 0)).heap[B+1]? =some (.cells #[b] tq):=((Below.heap_setCell _ _ _ _ k).trans ((Below.heap_setCell _ _ _ _ k).trans ((Below.heap_setCell _ _ _ _ k).trans (Below.heap_setCell _ _ _ _ k)))).trans x.out;have r:∀w0,Le w0 w->w0.heap.size<=B->Le w0 ((((W.setCell ⟨B,0,none⟩ (.bool false)).setCell ⟨B,1,none⟩ (.slice none 0 0)).setCell ⟨B,2,none⟩ (.bool false)).setCell ⟨B,3,none⟩ (.slice none 0 0)):=λw0 z A=>qBv (Le.trans z q.out) A;generalize ((((W.setCell ⟨B,0,none⟩ (.bool false)).setCell ⟨B,1,none⟩ (.slice none 0 0)).setCell ⟨B,2,none⟩ (.bool false)).setCell ⟨B,3,none⟩ (.slice none 0 0))=V1 at*;have Y:=qAf X (u:= .int .i64 e);have Z:(V1.setCell ⟨B+1,0,none⟩ (.int .i64 e)).heap[B]? =_:=(Below.heap_setCell _ _ _ _ (by show B≠B+1;omega)).trans U
 have s:∀w0,Le w0 w->w0.heap.size<=B->Le w0 (V1.setCell ⟨B+1,0,none⟩ (.int .i64 e)).drew :=λw0 z A=>
  Le.trans ((r w0 z A).setCell (p:=⟨B+1,0,none⟩) (by show w0.heap.size<=B+1;omega) _) Le.drew
 have O:(V1.setCell ⟨B+1,0,none⟩ (.int .i64 e)).drew.heap[B]? =_:=Z;have P:(V1.setCell ⟨B+1,0,none⟩ (.int .i64 e)).drew.cell? ⟨B+1,0,none⟩=_:=qAG Y;generalize (V1.setCell ⟨B+1,0,none⟩ (.int .i64 e)).drew =V at*;show bodyPostS _ _ _ _ _ _ _ _ _;simp[bodyPostS,results,Tryz.results89,go_sem,O,P];exact s
theorem FracL.set {L:Nat->Prop} {W:World} {v u x:Value} {r:Rat} {k:Nat} {t:TypeId} (h:FracL L W v r) (hk:W.heap[k]? =some (.cells #[x] t)) (hx:∀g:Nat,x≠gv .u32 g):FracL L (W.setCell ⟨k,0,none⟩ u) v r:=by
 obtain⟨A,c,B,d,e,b,f⟩:=h;exact⟨A,c,B,d,e,b.box_set hk hx,f.box_set hk hx⟩
theorem qGd (L:Nat->Prop) (r:Rat) (g:FuncId) (cap:Array Value) (w:World) (hg:qAS Tryz.prog g) (hf:∀W,Le w W->Calls Tryz.prog g cap W λe W'=>∃v,e= .returned v/\Le W W'/\FracL L W' v r):
  Calls Tryz.prog 50 #[.func (.func g) #[] cap] w λe w'=>∃v,e= .returned (.tuple #[v,.int .i64 0])/\Le w w'/\FracL L w' v r:=by
 have ab:∀(fn:Fn) (first cap:Array Value) (w:World),(Instr.makeFunc fn first cap).run Tryz.prog w= .ok (.func fn first cap) w:=λ_ _ _ _=>rfl;unfold qAS at hg
 go_enter_defers Tryz.func50,Tryz.ntmps50
 go_wp2_with (fail);refine(hf _ ((qAA _ _).trans (qAA _ _))).mono ?_;rintro e W ⟨v,rfl,i,h⟩;obtain⟨k,m,l,n,rfl,J,M⟩:=h;obtain⟨c,o,hq⟩:=qAj i;obtain⟨N,O,P,Q⟩:=qAI o;have⟨S,T,U,V⟩:=frz4 o;have e2:=qAG hq;have f2:=fz0 hq 0;have aa:=(gsl o);have ac:=(gsl hq);obtain⟨s,D⟩:∃s,rneg r=s:=⟨_,rfl⟩;rw[D];have⟨I,j,d,C,F,G,E⟩:=hyd7 i c o hq J M D;clear D M J hq o c i;go_wp2;have X:=qBP d.out (u0:= .bool s) (u1:= .slice k (dg (rnum r)).length m) (u2:= .bool false) (u3:= .slice l (dg r.den).length n);have b:w.heap.size+1≠w.heap.size:=by omega
 have H:((((W.setCell ⟨w.heap.size,0,none⟩ (.bool s)).setCell ⟨w.heap.size,1,none⟩ (.slice k (dg (rnum r)).length m)).setCell ⟨w.heap.size,2,none⟩ (.bool false)).setCell ⟨w.heap.size,3,none⟩ (.slice l (dg r.den).length n)).heap[w.heap.size+1]? =_:=((Below.heap_setCell _ _ _ _ b).trans ((Below.heap_setCell _ _ _ _ b).trans ((Below.heap_setCell _ _ _ _ b).trans (Below.heap_setCell _ _ _ _ b)))).trans C.out;have t:Le w ((((W.setCell ⟨w.heap.size,0,none⟩ (.bool s)).setCell ⟨w.heap.size,1,none⟩ (.slice k (dg (rnum r)).length m)).setCell ⟨w.heap.size,2,none⟩ (.bool false)).setCell ⟨w.heap.size,3,none⟩ (.slice l (dg r.den).length n)):=qBv j.out (Nat.le_refl _);have h:FracL L ((((W.setCell ⟨w.heap.size,0,none⟩ (.bool s)).setCell ⟨w.heap.size,1,none⟩ (.slice k (dg (rnum r)).length m)).setCell ⟨w.heap.size,2,none⟩ (.bool false)).setCell ⟨w.heap.size,3,none⟩ (.slice l (dg r.den).length n)) (.agg #[.bool s,.slice k (dg (rnum r)).length m,.bool false,.slice l (dg r.den).length n]) r:=⟨_,_,_,_,by rw[E.out],F.out.box4 d.out,G.out.box4 d.out⟩;generalize ((((W.setCell ⟨w.heap.size,0,none⟩ (.bool s)).setCell ⟨w.heap.size,1,none⟩ (.slice k (dg (rnum r)).length m)).setCell ⟨w.heap.size,2,none⟩ (.bool false)).setCell ⟨w.heap.size,3,none⟩ (.slice l (dg r.den).length n))=V1 at*;have Y:=qAf H (u:= .int .i64 0);have Z:(V1.setCell ⟨w.heap.size+1,0,none⟩ (.int .i64 0)).heap[w.heap.size]? =_:=(Below.heap_setCell _ _ _ _ (by show w.heap.size≠w.heap.size+1;omega)).trans X
 have x:Le w (V1.setCell ⟨w.heap.size+1,0,none⟩ (.int .i64 0)):=t.setCell (p:=⟨w.heap.size+1,0,none⟩) (by show w.heap.size<=w.heap.size+1;omega) _;have q:=h.set (u:= .int .i64 0) H (λg=>by unfold gv;simp);obtain⟨y,z,A,B⟩:=qAI Z;have R:=qAG Y;refine leaves_cons (f:=89) (args:=#[.pointer (some ⟨w.heap.size,0,none⟩),.pointer (some ⟨w.heap.size+1,0,none⟩)]) (by simp) (by simp[go_sem]) ?_;refine(qHX _ _ _).mono ?_;rintro e u' ad ⟨rfl,rfl,rfl⟩;simp[Leaves,settle,results,Tryz.results50,go_sem,y,z,A,B,R];exact⟨x,q⟩
theorem qGS (x:Int) (g:FuncId) (cap:Array Value) (w:World) (hg:qAS Tryz.prog g) (hf:∀W,Le w W->Calls Tryz.prog g cap W λe W'=>e= .panicked [{v:= .iface 101 (.agg #[.int .i64 x]),recovered:=false}]/\Le W W'):
  Calls Tryz.prog 50 #[.func (.func g) #[] cap] w λe w'=>e= .returned (.tuple #[.agg #[.bool false,.slice none 0 0,.bool false,.slice none 0 0],.int .i64 x])/\Le w w':=by
 have q:∀(fn:Fn) (first cap:Array Value) (w:World),(Instr.makeFunc fn first cap).run Tryz.prog w= .ok (.func fn first cap) w:=λ_ _ _ _=>rfl;unfold qAS at hg
 go_enter_defers Tryz.func50,Tryz.ntmps50
 go_wp2_with (fail);refine(hf _ ((qAA _ _).trans (qAA _ _))).mono ?_;rintro e W ⟨rfl,b⟩;obtain⟨c,o,hq⟩:=qAj b;have l:=hyd1 b;clear b;go_wp2;refine leaves_cons (f:=89) (args:=#[.pointer (some ⟨w.heap.size,0,none⟩),.pointer (some ⟨w.heap.size+1,0,none⟩)]) (by simp) (by simp[go_sem]) ?_;refine(qGR w.heap.size x _ _ _ _ _ _ _ _ _ _ _ _ o hq).mono ?_;rintro e s r ⟨rfl,rfl,m,n,p⟩;have d:=p w c (Nat.le_refl _);obtain⟨h,i,j,k⟩:=qAI m;simp[Leaves,settle,results,Tryz.results50,go_sem,h,i,j,k,n];exact d
abbrev flt (c:Int):List PanicEntry:=[{v:= .iface 101 (.agg #[.int .i64 c]),recovered:=false}]
def FBox (W:World) (B:Nat) (v:Value) (x:FracA):Prop:=∃A c A' c',v= .agg #[.bool x.sn,.slice A x.gn.length c,.bool x.sd,.slice A' x.gd.length c']/\W.heap[B]? =some (.cells #[.bool x.sn,.slice A x.gn.length c,.bool x.sd,.slice A' x.gd.length c'] 27)/\IsFracA (λ_=>True) W v x
theorem FBox.le {W W':World} {B:Nat} {v:Value} {x:FracA} (h:FBox W B v x) (hb:Le W W'):FBox W' B v x:=by
 obtain⟨A,c,d,f,e,b,g⟩:=h;exact⟨A,c,d,f,e,(hb.block B (gsl b)).trans b,g.le hb⟩
def qFl (L:Nat->Prop) (res:Except Int Rat) (w:World) (e:Ending) (w':World):Prop:=Le w w'/\((∃r v,res= .ok r/\e= .returned v/\FracL L w' v r)∨(∃c,res= .error c/\e= .panicked (flt c)))
end Go.Proofs.YtcoajjdhkhgfdaaGreat

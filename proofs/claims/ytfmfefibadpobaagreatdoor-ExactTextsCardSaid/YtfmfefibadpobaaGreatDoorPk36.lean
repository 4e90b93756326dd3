/- Texts: run at string; Text. -/
import Derived.Test.YtfmfefibadpobaaGreatDoorPk34
import Derived.Test.YtfmfefibadpobaaGreatDoorPk35
namespace Go.Proofs.YtfmfefibadpobaaGreatDoor
set_option maxRecDepth 100000
open Go.RowKit Go.Shelf
set_option linter.unusedVariables false
set_option linter.unusedSimpArgs false
set_option maxRecDepth 10000
theorem qFZ (p q:Addr) (w:World):
  CallsD Tryz.prog 30 #[.pointer (some p),.pointer (some q)] .returning w λe u' w'=>e= .returned (.tuple #[])/\u'= .returning /\w'=w:=by
 refine callsD_of_wpS Tryz.func30 rfl λc d b=>?_;apply wpS_seq;apply wpS_region;simp[wpOpsS,go_sem,recoverD,b,Tryz.ntmps30,Exit.thenS];apply wpS_seq;apply wpS_region;simp[wpOpsS,go_sem,recoverD,b,Tryz.ntmps30,Exit.thenS];refine wpS_cond (t:=false) (by simp[Act.eval,Array.replicate]) ?_;simp only[Bool.false_eq_true,if_false];refine wpS_of_wp (wp_skip ?_)
 cases c
 simp_all [bodyPostS,results,Tryz.results30]
theorem qE9 (B:Nat) (e:Int) (a b:Value) (tp tq:TypeId) (w:World) (hb:w.heap[B]? =some (.cells #[a] tp)) (hq:w.heap[B+1]? =some (.cells #[b] tq)):
  CallsD Tryz.prog 30 #[.pointer (some ⟨B,0,none⟩),.pointer (some ⟨B+1,0,none⟩)] (.panicking [{v:= .iface 69 (.agg #[.int .i64 e]),recovered:=false}]) w λE u' w'=>E= .returned (.tuple #[])/\u'= .panicking [{v:= .iface 69 (.agg #[.int .i64 e]),recovered:=true}]∧
   w'.cell? ⟨B,0,none⟩=some (.string ⟨#[]⟩)/\w'.cell? ⟨B+1,0,none⟩=some (.int .i64 e)/\∀w0,Le w0 w->w0.heap.size<=B->Le w0 w':=by
 refine callsD_of_wpS Tryz.func30 rfl λX U r=>?_;apply wpS_seq;apply wpS_region;simp[wpOpsS,go_sem,recoverD,r,Tryz.ntmps30,Exit.thenS];apply wpS_seq;apply wpS_region;simp[wpOpsS,go_sem,recoverD,r,Tryz.ntmps30,Exit.thenS];refine wpS_cond (t:=true) (by simp[Act.eval,Array.replicate]) ?_;simp only[if_true];refine wpS_of_wp ?_;have P:∀W:World,(Instr.typeAssert (Value.iface 69 (Value.agg #[Value.int IntKind.i64 e])) 20 69 true).run Tryz.prog W= .ok (.tuple #[.agg #[.int .i64 e],.bool true]) W:=λ_=>by kernel_rfl
 have l:∀a b c d e f g h:Value,#[a,b]++((((((Array.replicate 18 undef).setIfInBounds 4 c).setIfInBounds 0 d).setIfInBounds 5 e).setIfInBounds 6 f))=#[a,b,d,undef,undef,undef,c,e,f,undef,undef,undef,undef,undef,undef,undef,undef,undef,undef,undef]:=λ_ _ _ _ _ _ _ _=>by first |kernel_rfl|simp[Array.replicate_succ]
 rw[l _ _ _ _ _ _ undef undef];go_wp2;obtain⟨W,s,j,x⟩:=al1 w (.cells #[.int .i64 e] 69);rw[s];have i:=(Below.block j B (gsl hb)).trans hb;have k:=(Below.block j (B+1) (gsl hq)).trans hq;have I:=(gsl hb);have O:=(gsl hq);have R:=qAB i;have Y:=fz0 i 0;have S:=qAB k;have Z:=fz0 k 0;have T:=qAB x;have n1:¬w.heap.size=B:=by omega
 have n2:¬w.heap.size=B+1:=by omega
 have n3:¬B=w.heap.size:=by omega
 have n4:¬B+1=w.heap.size:=by omega
 have n5:¬B+1=B:=by omega
 have⟨J,n,M,L,N,m,q,Q⟩:=hyd8 s j x hb hq i k r;clear r k i hq hb x j s;go_region;have C:=qAX m.out (u:= .string ⟨#[]⟩);have D:(W.setCell ⟨B,0,none⟩ (.string ⟨#[]⟩)).heap[B+1]? =some (.cells #[b] tq):=(Below.heap_setCell _ _ _ _ (by show B+1≠B;omega)).trans q.out;have F:=qAX D (u:= .int .i64 e);have G:((W.setCell ⟨B,0,none⟩ (.string ⟨#[]⟩)).setCell ⟨B+1,0,none⟩ (.int .i64 e)).heap[B]? =some (.cells #[.string ⟨#[]⟩] tp):=(Below.heap_setCell _ _ _ _ (by show B≠B+1;omega)).trans C
 have o:∀w0,Le w0 w->w0.heap.size<=B->Le w0 ((W.setCell ⟨B,0,none⟩ (.string ⟨#[]⟩)).setCell ⟨B+1,0,none⟩ (.int .i64 e)).drew :=λw0 A H=>
  Le.trans ((Below.setCell (Le.trans A n.out) (p:=⟨B,0,none⟩) H _).setCell (p:=⟨B+1,0,none⟩) (by show w0.heap.size<=B+1;omega) _) Le.drew
 have y:((W.setCell ⟨B,0,none⟩ (.string ⟨#[]⟩)).setCell ⟨B+1,0,none⟩ (.int .i64 e)).drew.cell? ⟨B,0,none⟩=_:=qAB G;have z:((W.setCell ⟨B,0,none⟩ (.string ⟨#[]⟩)).setCell ⟨B+1,0,none⟩ (.int .i64 e)).drew.cell? ⟨B+1,0,none⟩=_:=qAB F;generalize ((W.setCell ⟨B,0,none⟩ (.string ⟨#[]⟩)).setCell ⟨B+1,0,none⟩ (.int .i64 e)).drew =V at*;show bodyPostS _ _ _ _ _ _ _ _ _;simp[bodyPostS,results,Tryz.results30,go_sem,y,z];exact o
theorem qEv (g:FuncId) (cap:Array Value) (z:ByteArray) (w:World) (hg:qAh Tryz.prog g) (hf:∀W,Le w W->Calls Tryz.prog g cap W λe W'=>e= .returned (.string z)/\Le W W'):
  Calls Tryz.prog 11 #[.func (.func g) #[] cap] w λe w'=>e= .returned (.tuple #[.string z,.int .i64 0])/\Le w w':=by
 have v:∀(fn:Fn) (first cap:Array Value) (w:World),(Instr.makeFunc fn first cap).run Tryz.prog w= .ok (.func fn first cap) w:=λ_ _ _ _=>rfl;unfold qAh at hg
 go_enter_defers Tryz.func11,Tryz.ntmps11
 go_wp2_with (fail);refine(hf _ ((qAA _ _).trans (qAA _ _))).mono ?_;rintro e W ⟨rfl,c⟩;obtain⟨b,h,hq⟩:=qA9 c;have A:=qAB h;have C:=fz0 h 0;have B:=qAB hq;have D:=fz0 hq 0;have t:=(gsl h);have x:=(gsl hq);have⟨l,d,j,k⟩:=hyd4 c b h hq;clear hq h b c;go_wp2;have o:=qAX j.out (u:= .string z);have q:(W.setCell ⟨w.heap.size,0,none⟩ (.string z)).heap[w.heap.size+1]? =_:=(Below.heap_setCell _ _ _ _ (by show w.heap.size+1≠w.heap.size;omega)).trans k.out;have r:=qAX q (u:= .int .i64 0);have s:((W.setCell ⟨w.heap.size,0,none⟩ (.string z)).setCell ⟨w.heap.size+1,0,none⟩ (.int .i64 0)).heap[w.heap.size]? =_:=(Below.heap_setCell _ _ _ _ (by show w.heap.size≠w.heap.size+1;omega)).trans o;have i:Le w ((W.setCell ⟨w.heap.size,0,none⟩ (.string z)).setCell ⟨w.heap.size+1,0,none⟩ (.int .i64 0)):=(Below.setCell d.out (p:=⟨w.heap.size,0,none⟩) (Nat.le_refl _) _).setCell (p:=⟨w.heap.size+1,0,none⟩) (by show w.heap.size<=w.heap.size+1;omega) _;have m:=qAB s;have n:=qAB r;refine leaves_cons (f:=30) (args:=#[.pointer (some ⟨w.heap.size,0,none⟩),.pointer (some ⟨w.heap.size+1,0,none⟩)]) (by simp) (by simp[go_sem]) ?_;refine(qFZ _ _ _).mono ?_;rintro e E y ⟨rfl,rfl,rfl⟩;simp[Leaves,settle,results,Tryz.results11,go_sem,m,n];exact i
theorem qEa (g:FuncId) (cap:Array Value) (x:Int) (w:World) (hg:qAh Tryz.prog g) (hf:∀W,Le w W->Calls Tryz.prog g cap W λe W'=>e= .panicked [{v:= .iface 69 (.agg #[.int .i64 x]),recovered:=false}]/\Le W W'):
  Calls Tryz.prog 11 #[.func (.func g) #[] cap] w λe w'=>e= .returned (.tuple #[.string ⟨#[]⟩,.int .i64 x])/\Le w w':=by
 have m:∀(fn:Fn) (first cap:Array Value) (w:World),(Instr.makeFunc fn first cap).run Tryz.prog w= .ok (.func fn first cap) w:=λ_ _ _ _=>rfl;unfold qAh at hg
 go_enter_defers Tryz.func11,Tryz.ntmps11
 go_wp2_with (fail);refine(hf _ ((qAA _ _).trans (qAA _ _))).mono ?_;rintro e W ⟨rfl,b⟩;obtain⟨c,h,hq⟩:=qA9 b;have o:=qAB h;have q:=fz0 h 0;have p:=qAB hq;have r:=fz0 hq 0;have i:=hyd1 b;clear b;go_wp2;refine leaves_cons (f:=30) (args:=#[.pointer (some ⟨w.heap.size,0,none⟩),.pointer (some ⟨w.heap.size+1,0,none⟩)]) (by simp) (by simp[go_sem]) ?_;refine(qE9 w.heap.size x _ _ _ _ _ h hq).mono ?_;rintro e s n ⟨rfl,rfl,j,k,l⟩;have d:=l w c (Nat.le_refl _);simp[Leaves,settle,results,Tryz.results11,go_sem,j,k];exact d
end Go.Proofs.YtfmfefibadpobaaGreatDoor

/- exact: run at api.Frac: the deferred closure, a call that returns, a call that reports an error. -/
import Derived.Test.YtbcbcdgbliheoaaGreatPk32
namespace Go.Proofs.YtbcbcdgbliheoaaGreat
set_option maxRecDepth 100000
open Go.RowKit Go.Shelf
set_option linter.unusedVariables false
set_option linter.unusedSimpArgs false
set_option maxRecDepth 10000
theorem qIU (p q:Addr) (w:World):
  CallsD Tryz.prog 64 #[.pointer (some p),.pointer (some q)] .returning w λe u' w'=>e= .returned (.tuple #[])/\u'= .returning /\w'=w:=by
 refine callsD_of_wpS Tryz.func64 rfl λc d b=>?_;apply wpS_seq;apply wpS_region;simp[wpOpsS,go_sem,recoverD,b,Tryz.ntmps64,Exit.thenS];apply wpS_seq;apply wpS_region;simp[wpOpsS,go_sem,recoverD,b,Tryz.ntmps64,Exit.thenS];refine wpS_cond (t:=false) (by simp[Act.eval,Array.replicate]) ?_;simp only[Bool.false_eq_true,if_false];refine wpS_of_wp (wp_skip ?_)
 cases c
 simp_all [bodyPostS,results,Tryz.results64]
theorem FracL.set {L:Nat->Prop} {W:World} {v u x:Value} {r:Rat} {k:Nat} {t:TypeId} (h:FracL L W v r) (hk:W.heap[k]? =some (.cells #[x] t)) (hx:∀g:Nat,x≠gv .u32 g):FracL L (W.setCell ⟨k,0,none⟩ u) v r:=by
 obtain⟨A,c,B,d,e,b,f⟩:=h;exact⟨A,c,B,d,e,b.box_set hk hx,f.box_set hk hx⟩
theorem qH7 (L:Nat->Prop) (r:Rat) (g:FuncId) (cap:Array Value) (w:World) (hg:qAZ Tryz.prog g) (hf:∀W,Le w W->Calls Tryz.prog g cap W λe W'=>∃v,e= .returned v/\Le W W'/\FracL L W' v r):
  Calls Tryz.prog 38 #[.func (.func g) #[] cap] w λe w'=>∃v,e= .returned (.tuple #[v,.int .i64 0])/\Le w w'/\FracL L w' v r:=by
 have ab:∀(fn:Fn) (first cap:Array Value) (w:World),(Instr.makeFunc fn first cap).run Tryz.prog w= .ok (.func fn first cap) w:=λ_ _ _ _=>rfl;unfold qAZ at hg
 go_enter_defers Tryz.func38,Tryz.ntmps38
 go_wp2_with (fail);refine(hf _ ((qAA _ _).trans (qAA _ _))).mono ?_;rintro e W ⟨v,rfl,i,h⟩;obtain⟨k,m,l,n,rfl,J,M⟩:=h;obtain⟨c,o,hq⟩:=qBJ i;obtain⟨N,O,P,Q⟩:=qAO o;have⟨S,T,U,V⟩:=frz4 o;have e2:=qAC hq;have f2:=fz0 hq 0;have aa:=(gsl o);have ac:=(gsl hq);obtain⟨s,D⟩:∃s,rneg r=s:=⟨_,rfl⟩;rw[D];have⟨I,j,d,C,F,G,E⟩:=hyd7 i c o hq J M D;clear D M J hq o c i;go_wp2;have X:=qBP d.out (u0:= .bool s) (u1:= .slice k (dg (rnum r)).length m) (u2:= .bool false) (u3:= .slice l (dg r.den).length n);have b:w.heap.size+1≠w.heap.size:=by omega
 have H:((((W.setCell ⟨w.heap.size,0,none⟩ (.bool s)).setCell ⟨w.heap.size,1,none⟩ (.slice k (dg (rnum r)).length m)).setCell ⟨w.heap.size,2,none⟩ (.bool false)).setCell ⟨w.heap.size,3,none⟩ (.slice l (dg r.den).length n)).heap[w.heap.size+1]? =_:=((Below.heap_setCell _ _ _ _ b).trans ((Below.heap_setCell _ _ _ _ b).trans ((Below.heap_setCell _ _ _ _ b).trans (Below.heap_setCell _ _ _ _ b)))).trans C.out;have t:Le w ((((W.setCell ⟨w.heap.size,0,none⟩ (.bool s)).setCell ⟨w.heap.size,1,none⟩ (.slice k (dg (rnum r)).length m)).setCell ⟨w.heap.size,2,none⟩ (.bool false)).setCell ⟨w.heap.size,3,none⟩ (.slice l (dg r.den).length n)):=qBs j.out (Nat.le_refl _);have h:FracL L ((((W.setCell ⟨w.heap.size,0,none⟩ (.bool s)).setCell ⟨w.heap.size,1,none⟩ (.slice k (dg (rnum r)).length m)).setCell ⟨w.heap.size,2,none⟩ (.bool false)).setCell ⟨w.heap.size,3,none⟩ (.slice l (dg r.den).length n)) (.agg #[.bool s,.slice k (dg (rnum r)).length m,.bool false,.slice l (dg r.den).length n]) r:=⟨_,_,_,_,by rw[E.out],F.out.box4 d.out,G.out.box4 d.out⟩;generalize ((((W.setCell ⟨w.heap.size,0,none⟩ (.bool s)).setCell ⟨w.heap.size,1,none⟩ (.slice k (dg (rnum r)).length m)).setCell ⟨w.heap.size,2,none⟩ (.bool false)).setCell ⟨w.heap.size,3,none⟩ (.slice l (dg r.den).length n))=V1 at*;have Y:=qA2 H (u:= .int .i64 0);have Z:(V1.setCell ⟨w.heap.size+1,0,none⟩ (.int .i64 0)).heap[w.heap.size]? =_:=(Below.heap_setCell _ _ _ _ (by show w.heap.size≠w.heap.size+1;omega)).trans X
 have x:Le w (V1.setCell ⟨w.heap.size+1,0,none⟩ (.int .i64 0)):=t.setCell (p:=⟨w.heap.size+1,0,none⟩) (by show w.heap.size<=w.heap.size+1;omega) _;have q:=h.set (u:= .int .i64 0) H (λg=>by unfold gv;simp);obtain⟨y,z,A,B⟩:=qAO Z;have R:=qAC Y;refine leaves_cons (f:=64) (args:=#[.pointer (some ⟨w.heap.size,0,none⟩),.pointer (some ⟨w.heap.size+1,0,none⟩)]) (by simp) (by simp[go_sem]) ?_;refine(qIU _ _ _).mono ?_;rintro e u' ad ⟨rfl,rfl,rfl⟩;simp[Leaves,settle,results,Tryz.results38,go_sem,y,z,A,B,R];exact⟨x,q⟩
end Go.Proofs.YtbcbcdgbliheoaaGreat

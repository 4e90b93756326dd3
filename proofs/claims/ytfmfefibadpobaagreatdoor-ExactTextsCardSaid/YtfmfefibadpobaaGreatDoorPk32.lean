/- From a row that lists variables to the walk: the wrap that hands on both the listed condition and the world's shape. -/
import Derived.Test.YtfmfefibadpobaaGreatDoorPk31
import Derived.HandedShaped
import Derived.Lib.LaidTab
import Derived.Lib.LaidU8
import Derived.Shelf.Vars
import Derived.Lay
namespace Go.Proofs.YtfmfefibadpobaaGreatDoor
set_option maxRecDepth 100000
open Go.RowKit Go.Shelf Go.ChangeShapes Go.WideShapes
theorem returns_laid {H:Type} {enc:TypeId×Value->H} {a:Assume} {C:Checked} {os:Os} {f:FuncId} {fn:Func} {s:ChangeSpec} {conds:List PathCond} {apart fresh handsOn again:Bool} {X:World->Array Value->Prop}
  (hX:∀(w w':World) (args:Array Value),w.heap=w'.heap->X w args->X w' args)
  (own:ownKnob C.prog.godebug=none) (started:os.Started) (noInit:C.prog.inits.idxOf? f=none) (hfn:C.prog.funcs[f]? =some fn)
  (witness:∃(w:World) (tape:Tape) (i:Input),w.os=os/\(w.forCall tape i).Shaped C.prog/\i.vars=[]/\Input.okWide C.prog (w.forCall tape i) .any w.heap.size f i∧
   ((s.pre enc C.prog fn conds apart (w.forCall tape i).memory i.args/\X (w.forCall tape i).memory i.args)/\sizedMet enc C.prog fn (OpenSpec.ofChange s) apart (w.forCall tape i).memory i.args)/\a.holds C.prog (lone (Frame.enter C.prog f i.args .normal) [] (w.forCall tape i)))
  (contract:∀(W:World) (base:Nat) (args:Array Value) (ds gs:List (DataW H)) (before:List MemPlace),
   (∀(j:Nat) t v,fn.params[j]? =some t->args[j]? =some v->Value.okWide C.prog W .any base t v)→
   DataW.Whole enc C.prog fn.params.toList s.vars apart W args.toList ds gs before→
   X W args->W.ShapedOpen C.prog→
   Calls C.prog f args W λe W'=>∃v,e= .returned v/\s.post enc C.prog fn apart fresh handsOn again W args v W'):
  ReturnsInHanded a C os f .any (λw args=>(s.pre enc C.prog fn conds apart w args/\X w args)/\sizedMet enc C.prog fn (OpenSpec.ofChange s) apart w args) (s.post enc C.prog fn apart fresh handsOn again):=by
 refine returnsInHanded_of_calls own started noInit witness ?_;intro w tape i _ l _ k c g;obtain⟨_,_,_,h,b,_,_,_,_,d⟩:=k;have e:h=fn:=Option.some.inj (b.symm.trans hfn);subst e;obtain⟨⟨⟨ds,gs,before,p,r⟩,q⟩,x⟩:=c;have m:=DataW.Whole.of_heap (w':=w.forCall tape i) (by rfl) p;refine(contract (w.forCall tape i) w.heap.size i.args ds gs before d m (hX _ _ _ (by rfl) q) l).mono λe W' ⟨v,n,o⟩=>?_;subst n;exact ChangeSpec.post_blind o
theorem txw_of {W:World} {l:List (String×DataW Unit)} {d:DataW Unit} (hL:laidMet Tryz.prog l W) (hm:("internal/strconv.uint64pow10",d)∈l) (hd:d=Lib.tabData .u64 Lib.pow10Tab) (hsh:W.ShapedOpen Tryz.prog):TxW W:=by
 subst hd;obtain⟨m,o,j,h,p,c,f,b,hd⟩:=Lib.laidMet.reads hL hm
 have i:Tryz.prog.globalNamed "internal/strconv.uint64pow10" =some 5:=by kernel_rfl
 obtain rfl:=Option.some.inj (i.symm.trans c);have g:(Tryz.prog.globals[5]?).map (·.type)=some 170:=by kernel_rfl
 obtain rfl:=Option.some.inj (g.symm.trans f);refine⟨?_,?_⟩
 ·unfold Lib.TabIs;rw[b,<-Lib.cells_of_tab (n:=20) (e:=114) (by kernel_rfl) (by kernel_rfl) (by kernel_rfl) (by kernel_rfl) hd]
 ·exact cell_of_shapedOpen_int (t:=3) (k:= .i64) (zero:=#[.int .i64 0]) hsh (of_decide_eq_true (by kernel_rfl)) (by kernel_rfl) (by kernel_rfl) (by kernel_rfl) (by kernel_rfl) (by kernel_rfl)
end Go.Proofs.YtfmfefibadpobaaGreatDoor

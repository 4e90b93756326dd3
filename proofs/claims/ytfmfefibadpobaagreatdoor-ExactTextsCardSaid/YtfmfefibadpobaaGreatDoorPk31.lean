/- Texts: the library's contracts at this program. -/
import Derived.Test.YtfmfefibadpobaaGreatDoorPk30
import Derived.Shelf.Strings.BuilderK
import Derived.Shelf.Strings.Repeat
import Derived.Shelf.Strconv.Itoa3
import Derived.Lib.AppendIntMem
namespace Go.Proofs.YtfmfefibadpobaaGreatDoor
set_option maxRecDepth 100000
open Go.RowKit Go.Shelf
set_option linter.unusedVariables false
set_option linter.unusedSimpArgs false
def TxW (w:World):Prop:=Lib.TabIs Tryz.prog w "internal/strconv.uint64pow10" .u64 Lib.pow10Tab∧∃m:Int,w.cell? ⟨txRen.g 1,0,none⟩=some (.int .i64 m)
theorem qGh {P:Program} {n:String} {g:Nat} {k:IntKind} {zs:List Int} {w w':World} (hg:P.globalNamed n=some g) (h:Lib.TabIs P w n k zs) (hb:Below w.heap.size w w'):Lib.TabIs P w' n k zs:=by
 unfold Lib.TabIs World.var? at h ⊢;rw[hg]at h ⊢;simp only[Option.bind_some]at h ⊢
 have b:g<w.heap.size:=by
  rcases Nat.lt_or_ge g w.heap.size with h'|h'
  ·exact h'
  ·rw[Array.getElem?_eq_none h']at h;cases h
 rw[hb.block g b];exact h
theorem TxW.le {w w':World} (h:TxW w) (k:Le w w'):TxW w':=by
 obtain⟨d,m,b⟩:=h
 have c:txRen.g 1<w.heap.size:=by
  unfold World.cell? at b
  split at b
  ·rename_i hk;exact(gsl hk)
  ·cases b
 exact⟨qGh (g:=5) (by kernel_rfl) d k,m,(Below.cell k (p:=⟨txRen.g 1,0,none⟩) c).trans b⟩
theorem qHL (g:Nat):Lib.itoa (g:Int)=Lib.decDigits g:=by
 unfold Lib.itoa;rw[if_neg (by omega)]
 rfl
theorem qHb (g:Nat) (w:World) (hg:g<B9) (hw:TxW w):Calls Tryz.prog 54 #[.int .i64 (g:Int)] w λe w'=>e= .returned (.string (baL (Lib.decDigits g)))/\Le w w':=by
 have c:=qAD;refine(Any.strconv_Itoa qDi (g:Int) (by omega) (by omega) w hw.1).mono ?_;rintro e w' ⟨rfl,k,b,rfl⟩;rw[qHL];exact⟨rfl,Lib.below_grow w.heap.size w (Nat.le_refl _) k b⟩
theorem qER (b:UInt8):∀c,Lib.repeatL [b] c=List.replicate c b
 | 0=>rfl
 | c+1=>by
  unfold Lib.repeatL;rw[qER b c]
  rfl
theorem qGi (c:Nat) (w:World) (hc:c<=9):Calls Tryz.prog 56 #[.string ⟨#[48]⟩,.int .i64 (c:Int)] w λe w'=>e= .returned (.string (baL (List.replicate c 48)))/\Le w w':=by
 refine(Any.strings_Repeat qEI qC5 ⟨#[48]⟩ c w (by omega) (by show 1*c<=_;omega)).mono ?_;rintro e w' ⟨rfl,h⟩;exact⟨by rw[<-qER];rfl,h⟩
def IsTx (B b:Nat) (l:List UInt8) (w:World):Prop:=Lib.IsBuilderF 93 5 B b (Lib.byteCells l) w
theorem qDm (B b:Nat) (acc l:List UInt8) (w:World) (h:IsTx B b acc w) (hlen:acc.length+l.length<=1000000000) (hB:B<=w.heap.size):
  Calls Tryz.prog 55 #[.pointer (some ⟨b,0,none⟩),.string (baL l)] w λe w'=>(∃v,e= .returned v)/\IsTx B b (acc++l) w'/\Below B w w'/\Lib.OthersKept 5 (some b) w w':=by
 refine(Any.Builder_WriteString_k qEG qC5 B b (Lib.byteCells acc) ⟨l.toArray⟩ w h (by rw[Lib.byteCells_length,qDZ];omega) hB).mono ?_;rintro e w' ⟨rfl,c,d,f⟩;rw[Lib.strCells_toArray,<-Lib.byteCells_append]at c;exact⟨⟨_,rfl⟩,.inr c,d,f⟩
theorem qGj (B b:Nat) (l:List UInt8) (w:World) (h:IsTx B b l w) (hB:B<=w.heap.size):
  Calls Tryz.prog 57 #[.pointer (some ⟨b,0,none⟩)] w λe w'=>e= .returned (.string (baL l))/\Below B w w'/\Lib.OthersKept 5 (some b) w w':=
 (Any.Builder_String_any_k qEH qC5 B b l w h hB).mono λe w' ⟨h1,h2,h3,h4⟩=>⟨h1,h3,h4⟩
end Go.Proofs.YtfmfefibadpobaaGreatDoor

/- What patterns answer in the examples of PatternExamples, reckoned. -/
import Derived.Test.YtbcbcdgbliheoaaGreatPk18
import Derived.Test.YtbcbcdgbliheoaaGreatPk19
import Derived.Test.YtbcbcdgbliheoaaGreatPk20
import Derived.Test.YtbcbcdgbliheoaaGreatPk42
import Derived.Test.YtbcbcdgbliheoaaGreatPk49
namespace Go.Proofs.YtbcbcdgbliheoaaGreat
set_option maxRecDepth 100000
open Go.RowKit
set_option linter.unusedVariables false
set_option linter.unusedSimpArgs false
def qAG:Prog:=⟨[0,3,0,0,3,0],[0],100,2,10,[1]⟩
def qAm:Prog:=⟨[0,3,0,0,3,0],[0],100,2,10,[2]⟩
def qKM:Prog:=⟨[0,3,0,0,3,0],[0],100,2,10,[6]⟩
def qGG:Prog:=⟨[0,1,2,1],[0],0,1,0,[0,2]⟩
def qCe:Prog:=⟨[0,1,2,1],[0],0,1,0,[2]⟩
def qM5:Prog:=⟨[],[],0,0,0,[]⟩
theorem qNb:qAJ qAG=0:=by kernel_rfl
theorem qNc:qAJ qCe=0:=by kernel_rfl
theorem qOb:qAJ qGG=0:=by kernel_rfl
theorem qOc:qAJ qKM=40:=by kernel_rfl
theorem qOd:qAJ qM5=30:=by kernel_rfl
theorem qOe:cutE qAG 0=0:=by kernel_rfl
theorem qOf:onOk 0 (cutL qAG 0)=[100,106,100,100,106,100]:=by kernel_rfl
theorem qOg:cutE qAG 5001=2:=by kernel_rfl
theorem qOh:(qBG 0 (qA1 qAG):Int)=1:=by kernel_rfl
theorem qOi:(qBG 0 (qBT qAG):Int)=1:=by kernel_rfl
theorem qOj:(qBG 0 (qEx qAG):Int)=4:=by kernel_rfl
theorem qOk:(qBG 0 (qEx qCe):Int)=3:=by kernel_rfl
theorem qOl:(qBG 0 (qAD qCe):Int)=2:=by kernel_rfl
theorem qOm:(qBG 0 (qAD qGG):Int)=4:=by kernel_rfl
theorem qOn:qF3 qAG qAm=0:=by kernel_rfl
theorem qOo:(qBG 0 (qCu qAG qAm):Int)=3:=by kernel_rfl
theorem qOq:(qBG 0 (qEt qAG qAm):Int)=3:=by kernel_rfl
theorem qOr:qF3 qAG qCe=2:=by kernel_rfl
theorem qOs:qC5 qAG qAm 3=0:=by kernel_rfl
theorem qOS:qCl qAG qAm 3=⟨0,0,false,true⟩:=by kernel_rfl
theorem qOt:qC5 qAG qAm 1=0:=by kernel_rfl
theorem qOT:qCl qAG qAm 1=⟨0,2,true,false⟩:=by kernel_rfl
theorem qOu:qC5 qAG qAm 0=6:=by kernel_rfl
theorem qOv:qC5 qAG qAG 4=2:=by kernel_rfl
theorem qOw:fitE [0,0,2,2,0,0,2] 4=0:=by kernel_rfl
theorem qOU:fitL [0,0,2,2,0,0,2] 4=[0,2]:=by kernel_rfl
theorem qOx:fitE [0,1,2,3] 6=0:=by kernel_rfl
theorem qOV:fitL [0,1,2,3] 6=[1]:=by kernel_rfl
theorem qOW:fitL [1] 6=[]:=by kernel_rfl
theorem qOX:idxV [] 0 1=(0,0,.error 2):=by kernel_rfl
theorem qOy:fitE [1] 6=2:=by kernel_rfl
theorem qOz:idxE [96,72,60] 1 7=0:=by kernel_rfl
theorem qOY:idxV [96,72,60] 1 7=(0,14,.ok (((1:Int):Rat) / ((336:Int):Rat))):=by kernel_rfl
theorem qPA:idxE [96,72,60] 5 12=0:=by kernel_rfl
theorem qOZ:idxV [96,72,60] 5 12=(0,40,.ok ((0:Int):Rat)):=by kernel_rfl
theorem qPB:idxE [] 0 1=2:=by kernel_rfl
noncomputable def pxT (a:Int):FracA×FracA:=(qBX (a:Rat),qBX ((0:Int):Rat))
theorem qM6 (z:Int) (h: -1000000<=z/\z<=1000000):Rsz (z:Rat) 40:=by
 have b:=qOE z (by omega) (by omega);exact⟨Nat.le_trans b.1 (by decide),Nat.le_trans b.2 (by decide)⟩
noncomputable def qCr:List ArmA:=[⟨-2,pxT 100⟩,⟨1,pxT 200⟩]
theorem qM7 {l:List ArmA} {j:Nat} {a:Int} {k:Int} (h:l.getD j default=⟨k,pxT a⟩) (ha:0<a/\a<=1000000) (h0:qCN ((a:Rat),((0:Int):Rat))≠0) (hk: -64<=k/\k<=64) (hj:j=0∨(l.getD (j - 1) default).k <k):qCB l j=true:=by
 have c:tval (pxT a)=some ((a:Rat),((0:Int):Rat)):=qIC (qEZ (qM6 a (by omega))) (qEZ (qM6 0 (by omega)));unfold qCB;rw[h];dsimp only;rw[c];have b:¬qCN ((a:Rat),(0:Rat))=0:=by simpa using h0
 simp[hk];exact⟨b,by simpa using hj⟩
theorem qNY:qAt qCr=0:=by
 have c:qCB qCr 0=true:=qM7 (a:=100) (k:= -2) rfl (by decide) (by decide+kernel) (by decide) (.inl rfl);have d:qCB qCr 1=true:=qM7 (a:=200) (k:=1) rfl (by decide) (by decide+kernel) (by decide) (.inr (by show(-2:Int)<1;decide));unfold qAt qBf
 rw[if_neg (by show¬24<2;decide),if_pos (by
  rw[qDQ];intro j f;have b:j<2:=f
  match j,b with
  | 0,_=>exact c
  | 1,_=>exact d)]
theorem qNZ:qBH qCr=3:=by kernel_rfl
theorem qPC (n:Nat) (h:n<=6):qB9 qCr (n:Int)=(([0,1,2,1,4,5,2]:List Int).getD n 0,if n=0 then 2 else 0):=by
 unfold qB9;rw[if_neg (by rw[qNY];decide),qNZ]
 match n,h with
 | 0,_=>rfl
 | 1,_=>rfl
 | 2,_=>rfl
 | 3,_=>rfl
 | 4,_=>rfl
 | 5,_=>rfl
 | 6,_=>rfl
end Go.Proofs.YtbcbcdgbliheoaaGreat

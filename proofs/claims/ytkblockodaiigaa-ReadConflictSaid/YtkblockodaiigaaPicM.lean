/- A valid picture, or one whose readings are few or none. -/
import Derived.Test.YtkblockodaiigaaRdStartR
import Derived.Test.YtkblockodaiigaaReadLaw3
namespace Go.Proofs.Ytkblockodaiigaa
set_option maxRecDepth 100000
set_option linter.unusedVariables false
structure PicM (p : Pic) : Prop where
 heads : 1 ≤ p.hs.length ∧ p.hs.length ≤ 4
 reads : p.rds.length ≤ 60
 head : ∀ h ∈ p.hs, h.ros.length = p.steps ∧ rosOk h.ros = true ∧ rubOk h.rub p.steps = true
 tl : 1 ≤ p.tl
 tle : p.tl ≤ p.th
 th : p.th ≤ 16
 al : -1000 ≤ p.al
 ale : p.al ≤ p.ah
 ah : p.ah ≤ 1000
 span : p.ah - p.al ≤ 40
 rd : ∀ r ∈ p.rds, RdOk p.steps r
theorem PicOk.toM {p : Pic} (h : PicOk p) : PicM p := ⟨h.heads, h.reads.2, h.head, h.tl, h.tle, h.th, h.al, h.ale, h.ah, h.span, h.rd⟩
theorem PicM.sub {p : Pic} (h : PicM p) {l : List Int} (hl : ∀ i ∈ l, 0 ≤ i ∧ i < (p.rds.length : Int)) (h60 : l.length ≤ 60) : PicM (p.with (subR p.rds l)) :=
 ⟨h.heads, by show (subR p.rds l).length ≤ 60; unfold subR; rw [List.length_map]; exact h60, h.head, h.tl, h.tle, h.th, h.al, h.ale, h.ah, h.span, fun r hr => h.rd r (subR_mem hl r hr)⟩
theorem PicM.steps {p : Pic} (h : PicM p) : 3 ≤ p.steps ∧ p.steps ≤ 96 := by
 obtain ⟨h1, h2⟩ := h.heads
 have h0 : 0 < p.hs.length := by omega
 have hm : p.hs.getD 0 default ∈ p.hs := by
  rw [List.getD_eq_getElem?_getD, List.getElem?_eq_getElem h0]
  exact List.getElem_mem h0
 have hr := rosOk_iff.1 (h.head _ hm).2.1
 exact ⟨hr.1, hr.2.1⟩
end Go.Proofs.Ytkblockodaiigaa

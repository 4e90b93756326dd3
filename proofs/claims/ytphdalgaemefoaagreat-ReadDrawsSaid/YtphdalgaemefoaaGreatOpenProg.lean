/- From what a row's opening gives of a program (a struct of six fields) to the predicate that the contracts speak of. -/
import Derived.Test.YtphdalgaemefoaaGreatPatCheck
import Derived.Test.YtphdalgaemefoaaGreatRowKit1
import Derived.Lib.SmallJoins
namespace Go.Proofs.YtphdalgaemefoaaGreat
set_option maxRecDepth 100000
open Go.RowKit Go.ChangeShapes Go.WideShapes Go.Deep
set_option linter.unusedVariables false
theorem open_fields {H : Type} {enc : TypeId × Value → H} {P : Program} {w : World} {base : Nat} {spare : Nat → Bool} {held : Bool} {r : Reach} {b0 : Nat} {t : TypeId} {fs : Array Field} {v : Value} {d : DataW H} {p : List MemPlace}
  (hs : P.underlying t = some (.struct fs)) (hone : oneCellFields P fs = true) (hC : P.cellsOf t = fs.size) (hv : Value.okWide P w r b0 t v) (h : DataW.Trod enc P w base spare held t v d p) :
  ∃ l : List Value, l.length = fs.size ∧ v = .agg l.toArray ∧ ∀ (i : Nat) (f : Field) (u : Value), fs[i]? = some f → l[i]? = some u → ∃ n y, DataW.trod enc P w base spare held n f.type [u] = some y := by
 obtain ⟨cs, rfl, hsz⟩ := okWide_struct hs hv
 obtain ⟨fuel, hf⟩ := h
 obtain ⟨xs, m, _, _, _, hlen, hg⟩ := DataW.trod_struct hs hf
 refine ⟨cs.toList, by rw [Array.length_toList, hsz, hC], rfl, fun i f u hi hu => ?_⟩
 obtain ⟨ho, hk⟩ := hone_of hone i f hi
 have hx := hg i f hi
 rw [ho, hk] at hx
 have hlt := (List.getElem?_eq_some_iff.1 hu).1
 have hone1 : (((Value.agg cs).cells.toList).drop i).take 1 = [u] := by
  have hcs : (Value.agg cs).cells.toList = cs.toList := rfl
  rw [hcs, List.drop_eq_getElem_cons hlt, (List.getElem?_eq_some_iff.1 hu).2]
  rfl
 rw [hone1] at hx
 have hil : i < xs.length := by rw [hlen]; exact (gsl hi)
 exact ⟨m, xs[i], hx.trans (List.getElem?_eq_getElem hil)⟩
section
variable {H : Type} {enc : TypeId × Value → H} {w : World} {n : Nat}
theorem field_ints {v : Value} {y : DataW H × List MemPlace} (h : DataW.trod enc Tryz.prog w 0 (fun _ => true) true n 36 [v] = some y) : ∃ zs, Ints w v zs ∧ ∀ x ∈ zs, (Lit.int .i64 x).wf = true := by
 rcases open_ints Tryz.underlying36 Tryz.underlying3 (by kernel_rfl) h with ⟨hcs, _⟩ | ⟨x, l, c, zs, hcs, _, hl, hm, hz, _, hcell, hwz⟩
 ·obtain rfl : v = .slice none 0 0 := by simpa using hcs
  exact ⟨[], Arr.nil _ _, by simp⟩
 ·obtain rfl : v = .slice (some x) l c := by simpa using hcs
  exact ⟨_, InRow.arr (k := .i64) (.inr ⟨_, rfl, hl, hm, by simpa using hz, hcell, hwz⟩)⟩
theorem field_int {v : Value} {y : DataW H × List MemPlace} (h : DataW.trod enc Tryz.prog w 0 (fun _ => true) true n 3 [v] = some y) : ∃ z, v = .int .i64 z ∧ (Lit.int .i64 z).wf = true := by
 obtain ⟨z, h1, -, h2⟩ := DataW.trod_int Tryz.underlying3 h
 exact ⟨z, by simpa using h1, h2⟩
theorem open_prog {r : Reach} {b0 : Nat} {v : Value} {d : DataW H} {p : List MemPlace} (hv : Value.okWide Tryz.prog w r b0 38 v) (h : DataW.Trod enc Tryz.prog w 0 (fun _ => true) true 38 v d p) :
  ∃ a : Prog, IsProg w v a ∧ a.fits := by
 obtain ⟨l, hl, rfl, hf⟩ := open_fields Tryz.underlying38 (by kernel_rfl) (by kernel_rfl) hv h
 match l, hl with
 | [v0, v1, v2, v3, v4, v5], _ =>
  obtain ⟨_, _, t0⟩ := hf 0 _ v0 rfl rfl
  obtain ⟨_, _, t1⟩ := hf 1 _ v1 rfl rfl
  obtain ⟨_, _, t2⟩ := hf 2 _ v2 rfl rfl
  obtain ⟨_, _, t3⟩ := hf 3 _ v3 rfl rfl
  obtain ⟨_, _, t4⟩ := hf 4 _ v4 rfl rfl
  obtain ⟨_, _, t5⟩ := hf 5 _ v5 rfl rfl
  obtain ⟨z0, i0, f0⟩ := field_ints t0
  obtain ⟨z1, i1, f1⟩ := field_ints t1
  obtain ⟨z2, rfl, f2⟩ := field_int t2
  obtain ⟨z3, rfl, f3⟩ := field_int t3
  obtain ⟨z4, rfl, f4⟩ := field_int t4
  obtain ⟨z5, i5, f5⟩ := field_ints t5
  exact ⟨⟨z0, z1, z2, z3, z4, z5⟩, ⟨v0, v1, v5, rfl, i0, i1, i5⟩, f0, f1, f5, f2, f3, f4⟩
end
end Go.Proofs.YtphdalgaemefoaaGreat

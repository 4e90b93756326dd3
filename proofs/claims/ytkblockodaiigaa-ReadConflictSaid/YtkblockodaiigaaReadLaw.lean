/- What reading finds, plain: pictures, the Starts that fit, in the program's way and in the reference's. -/
import Derived.Test.YtkblockodaiigaaSpanLaw
import Derived.Test.YtkblockodaiigaaRos2
namespace Go.Proofs.Ytkblockodaiigaa
set_option maxRecDepth 100000
set_option linter.unusedVariables false
structure Rd where
 cut : Int
 step : Int
 lo : Int
 hi : Int
deriving DecidableEq
structure Hd where
 ros : List Int
 rub : List Int
structure Pic where
 hs : List Hd
 tl : Int
 th : Int
 al : Int
 ah : Int
 rds : List Rd
instance : Inhabited Hd := ⟨⟨[], []⟩⟩
instance : Inhabited Rd := ⟨⟨0, 0, 0, 0⟩⟩
def Pic.steps (p : Pic) : Nat := (p.hs.getD 0 default).ros.length
def headB (n : Nat) (h : Hd) : Bool := decide (h.ros.length = n) && (rosOk h.ros && rubOk h.rub n)
def rdB (n : Nat) (r : Rd) : Bool := decide (0 ≤ r.cut ∧ r.cut ≤ 11) && (decide (0 ≤ r.step ∧ r.step ≤ (n : Int) - 1) && (decide (-300000 ≤ r.lo) && (decide (r.lo ≤ r.hi) && decide (r.hi ≤ 300000))))
def setB (p : Pic) : Bool := decide (1 ≤ p.tl) && (decide (p.tl ≤ p.th) && (decide (p.th ≤ 16) && (decide (-1000 ≤ p.al) && (decide (p.al ≤ p.ah) && (decide (p.ah ≤ 1000) && decide (p.ah - p.al ≤ 40))))))
def picB (p : Pic) : Bool := decide (1 ≤ p.hs.length ∧ p.hs.length ≤ 4) && (decide (1 ≤ p.rds.length ∧ p.rds.length ≤ 60) && (p.hs.all (headB p.steps) && (setB p && p.rds.all (rdB p.steps))))
def picE (p : Pic) : Int := if picB p then 0 else 90
structure PicOk (p : Pic) : Prop where
 heads : 1 ≤ p.hs.length ∧ p.hs.length ≤ 4
 reads : 1 ≤ p.rds.length ∧ p.rds.length ≤ 60
 head : ∀ h ∈ p.hs, h.ros.length = p.steps ∧ rosOk h.ros = true ∧ rubOk h.rub p.steps = true
 tl : 1 ≤ p.tl
 tle : p.tl ≤ p.th
 th : p.th ≤ 16
 al : -1000 ≤ p.al
 ale : p.al ≤ p.ah
 ah : p.ah ≤ 1000
 span : p.ah - p.al ≤ 40
 rd : ∀ r ∈ p.rds, (0 ≤ r.cut ∧ r.cut ≤ 11) ∧ (0 ≤ r.step ∧ r.step ≤ (p.steps : Int) - 1) ∧ -300000 ≤ r.lo ∧ r.lo ≤ r.hi ∧ r.hi ≤ 300000
theorem picB_iff {p : Pic} : picB p = true ↔ PicOk p := by
 unfold picB setB headB rdB
 simp only [Bool.and_eq_true, decide_eq_true_eq, List.all_eq_true]
 constructor
 ·rintro ⟨h1, h2, h3, ⟨h4, h5, h6, h7, h8, h9, h10⟩, h11⟩
  exact ⟨h1, h2, h3, h4, h5, h6, h7, h8, h9, h10, h11⟩
 ·rintro ⟨h1, h2, h3, h4, h5, h6, h7, h8, h9, h10, h11⟩
  exact ⟨h1, h2, h3, ⟨h4, h5, h6, h7, h8, h9, h10⟩, h11⟩
theorem PicOk.steps {p : Pic} (h : PicOk p) : 3 ≤ p.steps ∧ p.steps ≤ 96 := by
 obtain ⟨h1, h2, -⟩ := h.heads, h.reads
 have h0 : 0 < p.hs.length := by omega
 have hm : p.hs.getD 0 default ∈ p.hs := by
  rw [List.getD_eq_getElem?_getD, List.getElem?_eq_getElem h0]
  exact List.getElem_mem h0
 have hr := rosOk_iff.1 (h.head _ hm).2.1
 exact ⟨hr.1, hr.2.1⟩
def hAt (lift : List Int) (r : Rd) (ph : Nat) : Int := atR lift (r.step - (ph : Int))
def startS (rds : List Rd) (lift : List Int) (throw adv cut : Int) (ph : Nat) : Spn :=
 rds.foldl (fun o r => if r.cut = cut then (max o.1 (r.lo - (cut * adv + throw * hAt lift r ph)), min o.2 (r.hi - (cut * adv + throw * hAt lift r ph))) else o) (0, 10000)
def baseS (rds : List Rd) (lift : List Int) (throw cut : Int) (ph : Nat) : Spn :=
 rds.foldl (fun o r => if r.cut = cut then (max o.1 (r.lo - throw * hAt lift r ph), min o.2 (r.hi - throw * hAt lift r ph)) else o) (-1099511627776, 1099511627776)
theorem fold_span (g : Rd → Int) (cut : Int) (x : Int) : ∀ (rds : List Rd) (o : Spn), ((rds.foldl (fun o r => if r.cut = cut then (max o.1 (r.lo - g r), min o.2 (r.hi - g r)) else o) o).1 ≤ x ∧ x ≤ (rds.foldl (fun o r => if r.cut = cut then (max o.1 (r.lo - g r), min o.2 (r.hi - g r)) else o) o).2) ↔
  (o.1 ≤ x ∧ x ≤ o.2) ∧ ∀ r ∈ rds, r.cut = cut → r.lo ≤ x + g r ∧ x + g r ≤ r.hi
 | [], o => ⟨fun h => ⟨h, fun r hr => (by cases hr)⟩, fun h => h.1⟩
 | r :: rds, o => by
  simp only [List.foldl_cons]
  rw [fold_span g cut x rds]
  by_cases hc : r.cut = cut
  ·rw [if_pos hc]
   simp only
   constructor
   ·rintro ⟨⟨h1, h2⟩, h3⟩
    refine ⟨by omega, fun q hq e => ?_⟩
    rcases List.mem_cons.1 hq with rfl | hq
    ·omega
    ·exact h3 q hq e
   ·rintro ⟨h1, h2⟩
    have := h2 r List.mem_cons_self hc
    exact ⟨by omega, fun q hq e => h2 q (List.mem_cons_of_mem _ hq) e⟩
  ·rw [if_neg hc]
   constructor
   ·rintro ⟨h1, h2⟩
    refine ⟨h1, fun q hq e => ?_⟩
    rcases List.mem_cons.1 hq with rfl | hq
    ·exact absurd e hc
    ·exact h2 q hq e
   ·rintro ⟨h1, h2⟩
    exact ⟨h1, fun q hq e => h2 q (List.mem_cons_of_mem _ hq) e⟩
def FitAt (rds : List Rd) (lift : List Int) (throw adv cut : Int) (ph : Nat) (x : Int) : Prop := ∀ r ∈ rds, r.cut = cut → r.lo ≤ x + (cut * adv + throw * hAt lift r ph) ∧ x + (cut * adv + throw * hAt lift r ph) ≤ r.hi
theorem startS_in {rds : List Rd} {lift : List Int} {throw adv cut : Int} {ph : Nat} {x : Int} : ((startS rds lift throw adv cut ph).1 ≤ x ∧ x ≤ (startS rds lift throw adv cut ph).2) ↔ (0 ≤ x ∧ x ≤ 10000) ∧ FitAt rds lift throw adv cut ph x :=
 fold_span (fun r => cut * adv + throw * hAt lift r ph) cut x rds (0, 10000)
theorem baseS_in {rds : List Rd} {lift : List Int} {throw adv cut : Int} {ph : Nat} {x : Int} (hx : -1000000 ≤ x + cut * adv ∧ x + cut * adv ≤ 1000000) :
  ((baseS rds lift throw cut ph).1 - cut * adv ≤ x ∧ x ≤ (baseS rds lift throw cut ph).2 - cut * adv) ↔ FitAt rds lift throw adv cut ph x := by
 have h : ((baseS rds lift throw cut ph).1 ≤ x + cut * adv ∧ x + cut * adv ≤ (baseS rds lift throw cut ph).2) ↔ ((-1099511627776 : Int) ≤ x + cut * adv ∧ x + cut * adv ≤ 1099511627776) ∧ ∀ r ∈ rds, r.cut = cut → r.lo ≤ x + cut * adv + throw * hAt lift r ph ∧ x + cut * adv + throw * hAt lift r ph ≤ r.hi :=
  fold_span (fun r => throw * hAt lift r ph) cut (x + cut * adv) rds (-1099511627776, 1099511627776)
 constructor
 ·intro q r hr hc
  have := (h.1 ⟨by omega, by omega⟩).2 r hr hc
  omega
 ·intro q
  have := h.2 ⟨⟨by omega, by omega⟩, fun r hr hc => by have := q r hr hc; omega⟩
  omega
def fitL (rds : List Rd) (lift : List Int) (throw adv : Int) : List Spn :=
 (List.range 12).foldl (fun (o : List Spn) (cut : Nat) => bothL o (normL ((List.range lift.length).map fun ph => startS rds lift throw adv (cut : Int) ph))) [(0, 10000)]
def AllFit (rds : List Rd) (lift : List Int) (throw adv : Int) (x : Int) : Prop := ∀ cut : Nat, cut < 12 → ∃ ph, ph < lift.length ∧ FitAt rds lift throw adv cut ph x
theorem inL_map_start {rds : List Rd} {lift : List Int} {throw adv cut : Int} {n : Nat} {x : Int} : inL ((List.range n).map fun ph => startS rds lift throw adv cut ph) x ↔ ∃ ph, ph < n ∧ (0 ≤ x ∧ x ≤ 10000) ∧ FitAt rds lift throw adv cut ph x := by
 unfold inL
 constructor
 ·rintro ⟨s, hs, h⟩
  obtain ⟨ph, hp, rfl⟩ := List.mem_map.1 hs
  exact ⟨ph, List.mem_range.1 hp, startS_in.1 h⟩
 ·rintro ⟨ph, hp, h⟩
  exact ⟨_, List.mem_map.2 ⟨ph, List.mem_range.2 hp, rfl⟩, startS_in.2 h⟩
theorem fit_fold (rds : List Rd) (lift : List Int) (throw adv : Int) : ∀ (l : List Nat) (o : List Spn), Nm o → Nm (l.foldl (fun (o : List Spn) (cut : Nat) => bothL o (normL ((List.range lift.length).map fun ph => startS rds lift throw adv (cut : Int) ph))) o) ∧
  ∀ x, inL (l.foldl (fun (o : List Spn) (cut : Nat) => bothL o (normL ((List.range lift.length).map fun ph => startS rds lift throw adv (cut : Int) ph))) o) x ↔ inL o x ∧ ∀ cut ∈ l, ∃ ph, ph < lift.length ∧ (0 ≤ x ∧ x ≤ 10000) ∧ FitAt rds lift throw adv (cut : Int) ph x
 | [], o, h => ⟨h, fun x => ⟨fun q => ⟨q, fun c hc => (by cases hc)⟩, fun q => q.1⟩⟩
 | c :: l, o, h => by
  obtain ⟨a1, a2⟩ := both_nm o (normL ((List.range lift.length).map fun ph => startS rds lift throw adv (c : Int) ph))
  obtain ⟨b1, b2⟩ := fit_fold rds lift throw adv l _ a1
  refine ⟨b1, fun x => ?_⟩
  simp only [List.foldl_cons]
  rw [b2, a2, (norm_nm _).2, inL_map_start]
  constructor
  ·rintro ⟨⟨q1, q2⟩, q3⟩
   refine ⟨q1, fun k hk => ?_⟩
   rcases List.mem_cons.1 hk with rfl | hk
   ·exact q2
   ·exact q3 k hk
  ·rintro ⟨q1, q2⟩
   exact ⟨⟨q1, q2 c List.mem_cons_self⟩, fun k hk => q2 k (List.mem_cons_of_mem _ hk)⟩
theorem fitL_nm (rds : List Rd) (lift : List Int) (throw adv : Int) : Nm (fitL rds lift throw adv) := (fit_fold rds lift throw adv _ _ (nm_one (by decide))).1
theorem fitL_in {rds : List Rd} {lift : List Int} {throw adv x : Int} : inL (fitL rds lift throw adv) x ↔ (0 ≤ x ∧ x ≤ 10000) ∧ AllFit rds lift throw adv x := by
 unfold fitL
 rw [(fit_fold rds lift throw adv _ _ (nm_one (by decide))).2, inL_cons]
 simp only [inL_nil, or_false]
 constructor
 ·rintro ⟨q1, q2⟩
  refine ⟨q1, fun c hc => ?_⟩
  obtain ⟨ph, h1, -, h2⟩ := q2 c (List.mem_range.2 hc)
  exact ⟨ph, h1, h2⟩
 ·rintro ⟨q1, q2⟩
  refine ⟨q1, fun c hc => ?_⟩
  obtain ⟨ph, h1, h2⟩ := q2 c (List.mem_range.1 hc)
  exact ⟨ph, h1, q1, h2⟩
theorem fitL_of {rds : List Rd} {lift : List Int} {throw adv : Int} {L : List Spn} (hn : Nm L) (h0 : 0 < lift.length) (hadv : -1000 ≤ adv ∧ adv ≤ 1000) (hcut : ∀ r ∈ rds, 0 ≤ r.cut ∧ r.cut ≤ 11)
  (hin : ∀ x, inL L x ↔ (0 ≤ x ∧ x ≤ 10000) ∧ ∀ r ∈ rds, ∃ ph, ph < lift.length ∧ (baseS rds lift throw r.cut ph).1 - r.cut * adv ≤ x ∧ x ≤ (baseS rds lift throw r.cut ph).2 - r.cut * adv) : L = fitL rds lift throw adv := by
 refine nm_ext hn (fitL_nm ..) fun x => ?_
 rw [hin, fitL_in]
 have hb : ∀ c : Int, 0 ≤ c → c ≤ 11 → -11000 ≤ c * adv ∧ c * adv ≤ 11000 := fun c h1 h2 => by
  have a := Int.mul_le_mul_of_nonneg_left hadv.1 h1
  have b := Int.mul_le_mul_of_nonneg_left hadv.2 h1
  omega
 refine and_congr_right fun hx => ⟨fun h c hc => ?_, fun h r hr => ?_⟩
 ·by_cases hex : ∃ r ∈ rds, r.cut = (c : Int)
  ·obtain ⟨r, hr, e⟩ := hex
   obtain ⟨ph, h1, h2⟩ := h r hr
   rw [e] at h2
   have := hb (c : Int) (by omega) (by omega)
   exact ⟨ph, h1, (baseS_in (by omega)).1 h2⟩
  ·exact ⟨0, h0, fun r hr e => absurd ⟨r, hr, e⟩ hex⟩
 ·obtain ⟨c1, c2⟩ := hcut r hr
  obtain ⟨ph, h1, h2⟩ := h r.cut.toNat (by omega)
  rw [Int.toNat_of_nonneg c1] at h2
  have := hb r.cut c1 c2
  exact ⟨ph, h1, (baseS_in (by omega)).2 h2⟩
structure Fnd where
 head : Int
 throw : Int
 adv : Int
 lo : Int
 hi : Int
deriving DecidableEq
def upTo (a b : Int) : List Int := (List.range (b - a + 1).toNat).map fun (k : Nat) => a + (k : Int)
def Pic.lift (p : Pic) (h : Nat) : List Int := liftL (p.hs.getD h default).ros (p.hs.getD h default).rub
def foundA (p : Pic) (h : Nat) (t a : Int) : List Fnd := (fitL p.rds (p.lift h) t a).map fun s => ⟨h, t, a, s.1, s.2⟩
def foundL (p : Pic) : List Fnd := (List.range p.hs.length).flatMap fun h => (upTo p.tl p.th).flatMap fun t => (upTo p.al p.ah).flatMap fun a => foundA p h t a
def findE (p : Pic) : Int := if picB p then (if foundL p = [] then 6 else if 400 < (foundL p).length then 4 else 0) else 90
def findL (p : Pic) : List Fnd := if findE p = 0 then foundL p else []
end Go.Proofs.Ytkblockodaiigaa

/- What an argument's reading gives a walk: slices of integers, slices of structs of integers. -/
import Derived.Test.YtgkahcchekiogaaBase
import Derived.ProofKit
import Derived.OpenShut
import Derived.Deep.Slices
import Derived.Lib.SmallJoins
namespace Go.Proofs.Ytgkahcchekiogaa.Open
open Go.ChangeShapes Go.WideShapes Go.ChangeAt Go.RowKit Go.Deep Base Go.Joins
set_option linter.unusedVariables false

/-- a slice of rows of sz integers each, as it is read -/
def RowsIn (w : World) (a : Option Addr) (n sz : Nat) (f : Nat → Nat → Int) : Prop :=
  n ≤ 9223372036854775807 ∧ (n = 0 ∨ ∃ b off, a = some ⟨b, off, none⟩ ∧ b < w.heap.size ∧ ∀ i, i < n → ∀ j, j < sz → w.cell? ⟨b, off + (i * sz + j), none⟩ = some (.int .i64 (f i j))) ∧
  ∀ i, i < n → ∀ j, j < sz → -9223372036854775808 ≤ f i j ∧ f i j ≤ 9223372036854775807

theorem wf64 {a : Int} (h : (Lit.int .i64 a).wf = true) : -9223372036854775808 ≤ a ∧ a ≤ 9223372036854775807 := by
  simpa [Lit.wf, IntKind.min, IntKind.max, IntKind.signed, IntKind.bits] using h

theorem ints_in {H : Type} {enc : TypeId × Value → H} {P : Program} {w : World} {held : Bool} {t e : TypeId} {fuel : Nat} {cs : List Value} {x : DataW H × List MemPlace}
    (ht : P.underlying t = some (.slice e)) (he : P.underlying e = some (.int .i64)) (hc : P.cellsOf e = 1) (h : DataW.trod enc P w 0 (fun _ => true) held fuel t cs = some x) :
    ∃ (a : Option Addr) (n cap : Nat) (f : Nat → Int), cs = [.slice a n cap] ∧ n ≤ cap ∧ cap ≤ maxLen ∧ RowsIn w a n 1 (fun i _ => f i) := by
  rcases open_ints ht he hc h with ⟨hcs, hx⟩ | ⟨a, len, cap, zs, hcs, _, hl, hm, hz, hx, hcell, hwz⟩
  · exact ⟨none, 0, 0, fun _ => 0, hcs, by omega, by unfold maxLen; omega, by omega, .inl rfl, fun i hi => by omega⟩
  · simp only [if_true] at hz
    refine ⟨some a, len, cap, fun i => zs.getD i 0, hcs, hl, hm, by unfold maxLen at hm; omega, ?_, fun i hi j _ => wf64 (hwz _ ?_)⟩
    · by_cases h0 : len = 0
      · exact .inl h0
      · obtain ⟨b, off, rfl, hh⟩ := ints_at hcell (by omega)
        refine .inr ⟨b, off, rfl, lt_of_cell (hh 0 (by omega)), fun i hi j hj => ?_⟩
        have := hh i (by omega)
        rw [show i * 1 + j = i from by omega]; exact this
    · show zs.getD i 0 ∈ zs
      rw [List.getD_eq_getElem?_getD, List.getElem?_eq_getElem (by omega)]; exact List.getElem_mem _

theorem add_none (b off i : Nat) : (⟨b, off, none⟩ : Addr).add i = ⟨b, off + i, none⟩ := by
  unfold Addr.add; by_cases h : i = 0
  · subst h; simp
  · simp [h]

/-- a struct whose fields are all ints -/
def AllInts (P : Program) (fs : Array Field) : Prop := ∀ (i : Nat) (f : Field), fs[i]? = some f → P.underlying f.type = some (.int .i64) ∧ f.offset = i ∧ P.cellsOf f.type = 1

theorem struct_ints {H : Type} {enc : TypeId × Value → H} {P : Program} {w : World} {held : Bool} {base : Nat} {spare : Nat → Bool} {e : TypeId} {fs : Array Field} {fuel : Nat} {cs : List Value} {x : DataW H × List MemPlace}
    (he : P.underlying e = some (.struct fs)) (hf : AllInts P fs) (hc : P.cellsOf e = fs.size) (h : DataW.trod enc P w base spare held fuel e cs = some x) :
    cs.length = fs.size ∧ ∃ g : Nat → Int, ∀ j, j < fs.size → cs[j]? = some (.int .i64 (g j)) ∧ -9223372036854775808 ≤ g j ∧ g j ≤ 9223372036854775807 := by
  obtain ⟨xs, n, rfl, rfl, hl, hxs, hfs⟩ := DataW.trod_struct he h
  refine ⟨by omega, ?_⟩
  have each : ∀ j, j < fs.size → ∃ v : Int, cs[j]? = some (.int .i64 v) ∧ -9223372036854775808 ≤ v ∧ v ≤ 9223372036854775807 := by
    intro j hj
    obtain ⟨f, hfj⟩ : ∃ f, fs[j]? = some f := ⟨fs[j], by simp [hj]⟩
    obtain ⟨h1, h2, h3⟩ := hf j f hfj
    have h4 := hfs j f hfj
    rw [h2, h3, List.getElem?_eq_getElem (by omega)] at h4
    obtain ⟨v, hv, _, hwf⟩ := DataW.trod_int h1 h4
    refine ⟨v, ?_, wf64 hwf⟩
    have e1 : ((cs.drop j).take 1)[0]? = some (.int .i64 v) := by rw [hv]; rfl
    rw [List.getElem?_take, if_pos (by omega), List.getElem?_drop] at e1
    exact e1
  exact choose_lt (p := fun j v => cs[j]? = some (.int .i64 v) ∧ -9223372036854775808 ≤ v ∧ v ≤ 9223372036854775807) each

theorem rows_in {H : Type} {enc : TypeId × Value → H} {P : Program} {w : World} {held : Bool} {t e : TypeId} {fs : Array Field} {fuel : Nat} {cs : List Value} {x : DataW H × List MemPlace}
    (ht : P.underlying t = some (.slice e)) (he : P.underlying e = some (.struct fs)) (hf : AllInts P fs) (hc : P.cellsOf e = fs.size) (hsz : 0 < fs.size) (h : DataW.trod enc P w 0 (fun _ => true) held fuel t cs = some x) :
    ∃ (a : Option Addr) (n cap : Nat) (f : Nat → Nat → Int), cs = [.slice a n cap] ∧ n ≤ cap ∧ cap ≤ maxLen ∧ RowsIn w a n fs.size f := by
  rcases open_slice ht h with ⟨hcs, hx⟩ | ⟨a, len, cap, m, n, D, Pl, hcs, _, hl, hm, hmm, hx, hel⟩
  · exact ⟨none, 0, 0, fun _ _ => 0, hcs, by omega, by unfold maxLen; omega, by omega, .inl rfl, fun i hi => by omega⟩
  · simp only [if_true] at hmm
    have each : ∀ i, i < len → ∃ g : Nat → Int, ∀ j, j < fs.size → w.cell? ((a.add (i * fs.size)).add j) = some (.int .i64 (g j)) ∧ -9223372036854775808 ≤ g j ∧ g j ≤ 9223372036854775807 := by
      intro i hi
      obtain ⟨cs', h1, h2⟩ := hel i (by omega)
      obtain ⟨h3, g, hg⟩ := struct_ints he hf hc h2
      rw [hc] at h1
      obtain ⟨_, hlen, hcell⟩ := World.cells?_some h1
      exact ⟨g, fun j hj => ⟨(hcell j (by omega)).trans (hg j hj).1, (hg j hj).2⟩⟩
    obtain ⟨f, hf'⟩ := choose_lt each
    refine ⟨some a, len, cap, f, hcs, hl, hm, by unfold maxLen at hm; omega, ?_, fun i hi j hj => (hf' i hi j hj).2⟩
    by_cases h0 : len = 0
    · exact .inl h0
    · obtain ⟨b, off, spot⟩ := a
      have hc0 := (hf' 0 (by omega) 0 hsz).1
      have hspot : spot = none := by simpa [Addr.add] using World.cell?_spot hc0
      subst hspot
      refine .inr ⟨b, off, rfl, ?_, fun i hi j hj => ?_⟩
      · have h9 := lt_of_cell hc0
        rw [add_none, add_none] at h9; exact h9
      · have h9 := (hf' i hi j hj).1
        rw [add_none, add_none, Nat.add_assoc] at h9; exact h9
def isI64 : Option TypeDesc → Bool
  | some (.int .i64) => true
  | _ => false
theorem isI64_eq {u : Option TypeDesc} (h : isI64 u = true) : u = some (.int .i64) := by
  unfold isI64 at h; split at h
  · rfl
  · cases h
def allIntsB (P : Program) (fs : Array Field) : Bool := (List.range fs.size).all fun i => match fs[i]? with
  | some f => isI64 (P.underlying f.type) && f.offset == i && P.cellsOf f.type == 1
  | none => false
theorem allInts_of {P : Program} {fs : Array Field} (h : allIntsB P fs = true) : AllInts P fs := by
  intro i f hf
  have hi : i < fs.size := by
    refine Nat.lt_of_not_le fun hle => ?_
    rw [Array.getElem?_eq_none hle] at hf; cases hf
  have h1 := List.all_eq_true.1 h i (by simpa using hi)
  rw [hf] at h1
  simp only [Bool.and_eq_true, beq_iff_eq] at h1
  exact ⟨isI64_eq h1.1.1, h1.1.2, h1.2⟩

/-- a struct of ints, by value -/
theorem struct_in {H : Type} {enc : TypeId × Value → H} {P : Program} {w : World} {held : Bool} {r : Reach} {b0 : Nat} {t : TypeId} {fs : Array Field} {v : Value} {d : DataW H} {ps : List MemPlace}
    (ht : P.underlying t = some (.struct fs)) (hf : allIntsB P fs = true) (hc : P.cellsOf t = fs.size) (hv : Value.okWide P w r b0 t v) (h : DataW.Trod enc P w 0 (fun _ => true) held t v d ps) :
    ∃ (cs : Array Value) (g : Nat → Int), v = .agg cs ∧ cs.size = fs.size ∧ ∀ j, j < fs.size → cs[j]? = some (.int .i64 (g j)) ∧ -9223372036854775808 ≤ g j ∧ g j ≤ 9223372036854775807 := by
  obtain ⟨cs, rfl, hsz⟩ := okWide_struct ht hv
  obtain ⟨fuel, hfu⟩ := h
  obtain ⟨_, g, hg⟩ := struct_ints ht (allInts_of hf) hc hfu
  exact ⟨cs, g, rfl, by omega, fun j hj => by have h9 := hg j hj; simpa [Value.cells] using h9⟩
theorem struct2_in {H : Type} {enc : TypeId × Value → H} {P : Program} {w : World} {held : Bool} {r : Reach} {b0 : Nat} {t : TypeId} {fs : Array Field} {v : Value} {d : DataW H} {ps : List MemPlace}
    (ht : P.underlying t = some (.struct fs)) (hf : allIntsB P fs = true) (hc : P.cellsOf t = fs.size) (h2 : fs.size = 2) (hv : Value.okWide P w r b0 t v) (h : DataW.Trod enc P w 0 (fun _ => true) held t v d ps) :
    ∃ a b : Int, v = .agg #[.int .i64 a, .int .i64 b] ∧ (-9223372036854775808 ≤ a ∧ a ≤ 9223372036854775807) ∧ (-9223372036854775808 ≤ b ∧ b ≤ 9223372036854775807) := by
  obtain ⟨cs, g, rfl, hsz, hg⟩ := struct_in ht hf hc hv h
  obtain ⟨x, y, rfl⟩ := array2 (hsz.trans h2)
  have g0 := hg 0 (by omega)
  have g1 := hg 1 (by omega)
  simp at g0 g1
  exact ⟨g 0, g 1, by rw [g0.1, g1.1], g0.2, g1.2⟩
end Go.Proofs.Ytgkahcchekiogaa.Open

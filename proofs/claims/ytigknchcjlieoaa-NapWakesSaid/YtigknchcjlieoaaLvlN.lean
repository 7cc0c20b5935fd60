/- Package level: plain laws of what is picked. -/
import Derived.Test.YtigknchcjlieoaaLvlM
namespace Go.Proofs.Ytigknchcjlieoaa.LvlN
open Go.RowKit Go.Shelf Base Kit Conf PowA PowB PowC PowR WideB Alt RefA LvlA LvlB LvlC LvlD LvlE LvlF LvlG LvlH LvlI LvlJ LvlK LvlM
set_option linter.unusedVariables false
set_option linter.unusedSimpArgs false

theorem bst_min (c : Nat → Int) (L : Nat → Nat) : ∀ i j, j ≤ i → c (bst c L i) ≤ c (L j)
  | 0, j, h => by obtain rfl : j = 0 := by omega
                  exact Int.le_refl _
  | i + 1, j, h => by
    unfold bst
    by_cases e : j = i + 1
    · subst e; split <;> omega
    · have := bst_min c L i j (by omega)
      split <;> omega
theorem tm_anti {f g c : Int} (hf : 1 ≤ f) (hg : f ≤ g) (h0 : 0 ≤ c) : tm g c ≤ tm f c := by
  have hq := (tm_bd hf h0).1
  have h1 : c * 1000 ≤ tm f c * f := by
    unfold tm
    have := Int.lt_ediv_add_one_mul_self (c * 1000 + (f - 1)) (show 0 < f by omega)
    rw [Int.add_mul, Int.one_mul] at this
    omega
  have h2 : tm f c * f ≤ tm f c * g := Int.mul_le_mul_of_nonneg_left hg hq
  have h3 : tm g c < tm f c + 1 := by
    show (c * 1000 + (g - 1)) / g < _
    refine Int.ediv_lt_of_lt_mul (by omega) ?_
    rw [Int.add_mul, Int.one_mul]
    omega
  omega
theorem lev_next {p : PowC} (h : (powR p).1 = 0) {k : Nat} (hk : k + 1 < p.ln) : p.lf k 0 < p.lf (k + 1) 0 := by
  have := (lvB_bd ((pow_ok h).2.2.1 (k + 1) hk)).1
  rw [lev_ah] at this
  omega
theorem lev_mono {p : PowC} (h : (powR p).1 = 0) (j : Nat) : ∀ {k : Nat}, j ≤ k → k < p.ln → p.lf j 0 ≤ p.lf k 0
  | 0, h1, _ => by obtain rfl : j = 0 := by omega
                   exact Int.le_refl _
  | k + 1, h1, h2 => by
    by_cases e : j = k + 1
    · subst e; exact Int.le_refl _
    · have := lev_mono h j (k := k) (by omega) (by omega)
      have := lev_next h h2
      omega
theorem alw_in {p : PowC} {x : X5} {e : Int} : ∀ {k : Nat} {y : Nat}, y < k → endP p x y ≤ e → y ∈ alw p x e k
  | 0, y, h, _ => by omega
  | k + 1, y, h, h' => by
    unfold alw
    by_cases e1 : y = k
    · subst e1; rw [if_pos h']; simp
    · have := alw_in (k := k) (y := y) (by omega) h'
      split
      · exact List.mem_append_left _ this
      · exact this
theorem alwL_iff {p : PowC} {x : X5} {e : Int} {y : Nat} : y ∈ alwL p x e ↔ MayP p x ∧ y < p.ln ∧ endP p x y ≤ e := by
  refine ⟨alwL_mem, fun ⟨h1, h2, h3⟩ => ?_⟩
  unfold alwL
  rw [if_pos h1]
  exact alw_in h2 h3
theorem getD_mem {L : List Nat} {i : Nat} (h : i < L.length) : L.getD i 0 ∈ L := by
  rw [List.getD_eq_getElem?_getD, List.getElem?_eq_getElem h]
  exact List.getElem_mem h
theorem mem_getD {L : List Nat} {y : Nat} (h : y ∈ L) : ∃ i, i < L.length ∧ L.getD i 0 = y := by
  obtain ⟨i, hi, e⟩ := List.getElem_of_mem h
  exact ⟨i, hi, by rw [List.getD_eq_getElem?_getD, List.getElem?_eq_getElem hi]; exact e⟩
theorem best_none {p : PowC} {x : X5} {e : Int} (h : (alwL p x e).length = 0) : bestR p x e = -1 := by unfold bestR; rw [if_pos h]
theorem best_some {p : PowC} {x : X5} {e : Int} (h : (alwL p x e).length ≠ 0) : ∃ y : Nat, bestR p x e = (y : Int) ∧ y ∈ alwL p x e ∧ ∀ z, z ∈ alwL p x e → costP p x y ≤ costP p x z := by
  unfold bestR
  rw [if_neg h]
  refine ⟨_, rfl, ?_, fun z hz => ?_⟩
  · obtain ⟨j, hj, e1⟩ := bst_in (costP p x) (fun i => (alwL p x e).getD i 0) ((alwL p x e).length - 1)
    rw [e1]
    exact getD_mem (by omega)
  · obtain ⟨i, hi, e1⟩ := mem_getD hz
    have := bst_min (costP p x) (fun i => (alwL p x e).getD i 0) ((alwL p x e).length - 1) i (by omega)
    simp only [e1] at this
    exact this
theorem pick_none {p : PowC} {x : X5} {e : Int} (c : Int) (h : (alwL p x e).length = 0) : pickR p x e c = -1 := by unfold pickR; rw [if_pos (.inr h), best_none h]
theorem pick_some {p : PowC} {x : X5} {e : Int} (c : Int) (h : (alwL p x e).length ≠ 0) : ∃ y : Nat, pickR p x e c = (y : Int) ∧ y ∈ alwL p x e := by
  unfold pickR
  split
  · obtain ⟨y, h1, h2, -⟩ := best_some h
    exact ⟨y, h1, h2⟩
  · exact ⟨_, rfl, getD_mem (Nat.mod_lt _ (by omega))⟩
theorem endP_anti {p : PowC} {x : X5} (may : MayP p x) {j k : Nat} (h : j ≤ k) (hk : k < p.ln) (h1 : (j : Int) ≠ x.lv) (h2 : (k : Int) ≠ x.lv) : endP p x k ≤ endP p x j := by
  unfold endP
  rw [if_neg h1, if_neg h2]
  have b := lev_bd may.1 (show j < p.ln by omega)
  have := tm_anti b.1 (lev_mono may.1 j h hk) may.2.2.2.2.2.2.2.2.1
  omega
/-- what is picked: its end, what it takes, and what the best one takes -/
theorem enough {p : PowC} {x : X5} {e c : Int} :
    (pickR p x e c = -1 ∧ (alwL p x e).length = 0) ∨
    ∃ (y z : Nat), pickR p x e c = (y : Int) ∧ bestR p x e = (z : Int) ∧ endR p x y = (endP p x y, 0) ∧ costR p x y = (costP p x y, 0) ∧ costR p x z = (costP p x z, 0) ∧ endP p x y ≤ e ∧ x.now ≤ endP p x y ∧ costP p x z ≤ costP p x y := by
  by_cases h : (alwL p x e).length = 0
  · exact .inl ⟨pick_none c h, h⟩
  · obtain ⟨y, h1, h2⟩ := pick_some c h
    obtain ⟨z, h3, h4, h5⟩ := best_some h
    obtain ⟨m, hy, hy'⟩ := alwL_mem h2
    obtain ⟨_, hz, hz'⟩ := alwL_mem h4
    refine .inr ⟨y, z, h1, h3, ?_, ?_, ?_, hy', (endP_bd m hy).1, h5 _ h2⟩
    · unfold endR; rw [if_pos ⟨m, by omega, by omega⟩, Int.toNat_natCast]
    · unfold costR; rw [if_pos ⟨m, by omega, by omega⟩, Int.toNat_natCast]
    · unfold costR; rw [if_pos ⟨m, by omega, by omega⟩, Int.toNat_natCast]
end Go.Proofs.Ytigknchcjlieoaa.LvlN

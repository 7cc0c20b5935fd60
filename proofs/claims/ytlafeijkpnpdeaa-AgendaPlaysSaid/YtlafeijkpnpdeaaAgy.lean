/- slices.SortFunc over entries: the contract. -/
import Derived.Test.YtlafeijkpnpdeaaAgx
namespace Go.Proofs.Ytlafeijkpnpdeaa.Agy
open Go.Shelf Go.Sort Go.RowKit Base Kit Alt Held Agp Aga Agb Agc Agd Age Agf Agg Agh Agi Agn Agx
set_option linter.unusedVariables false
set_option linter.unusedSimpArgs false
theorem own_sorted {w : World} {base g n cap m : Nat} {e : TypeId} {size : Nat} {xs ys : List Value} {os : Array Obj} (h : w.ownsRow base e size (.slice (some ⟨g, 0, none⟩) n cap) n xs) (hl : ys.length = xs.length) :
    (grow (putRow id (Go.Sort.ahead w m) g 0 ys.toArray) os).ownsRow base e size (.slice (some ⟨g, 0, none⟩) n cap) n ys ∧ w.grownBy (grow (putRow id (Go.Sort.ahead w m) g 0 ys.toArray) os) (some g) := by
  obtain ⟨h1, h2⟩ := h
  rcases h2 with ⟨h2, _⟩ | ⟨g', cap', cur, hv, hb, hh, hc, hx, hs, ht⟩
  · simp at h2
  · simp only [Value.slice.injEq, Option.some.injEq, Addr.mk.injEq, and_true, true_and] at hv
    obtain ⟨rfl, rfl⟩ := hv
    have hg : g < w.heap.size := (Array.getElem?_eq_some_iff.1 hh).1
    constructor
    · refine ⟨by rw [hl, h1], .inr ⟨g, cap, putCells id 0 ys.toArray cur, rfl, hb, ?_, hc, hx, by simp [putCells, hs], ?_⟩⟩
      · rw [heap_grow_old _ _ (by simpa [putRow, mapBlock] using hg)]
        simp [putRow, mapBlock, Go.Sort.ahead, Array.getElem?_modify, hh, onCells]
      · have hle : ys.length ≤ cur.size := by rw [hl, h1, hs]; exact Nat.mul_le_mul_right _ hc
        rw [show n * size = ys.length by rw [hl, h1]]
        apply List.ext_getElem?
        intro j
        by_cases hj : j < ys.length
        · rw [List.getElem?_take_of_lt hj, Array.getElem?_toList]
          simp [putCells, hj, show j < cur.size by omega]
        · rw [List.getElem?_take_eq_none (by omega), List.getElem?_eq_none (by omega)]
    · refine ⟨rfl, rfl, rfl, by simp [putRow, mapBlock], fun k hk hne => ?_⟩
      rw [heap_grow_old _ _ (by simpa [putRow, mapBlock] using hk)]
      have : g ≠ k := fun e => hne (by rw [e])
      simp [putRow, mapBlock, Go.Sort.ahead, Array.getElem?_modify, this]
theorem ev_len (x : E) : (ev x).length = 3 := rfl
theorem at_arr (L : List E) (i : Nat) : L.toArray[i]! = at_ L i := by
  unfold at_ List.getD
  by_cases h : i < L.length
  · simp [h]
  · simp [List.getElem?_eq_none (show L.length ≤ i by omega)]
    rfl
theorem flat_at (L : List E) (i j : Nat) (h : i < L.length) (hj : j < 3) : (encE L)[i * 3 + j]? = some (ev (at_ L i))[j]! := by
  obtain ⟨a, b, c⟩ := enc_at L i h
  have : j = 0 ∨ j = 1 ∨ j = 2 := by omega
  rcases this with rfl | rfl | rfl
  · exact a
  · exact b
  · exact c
theorem flat_eq (L : List E) : flatK ev 3 L.toArray = (encE L).toArray := by
  apply Array.ext_getElem?
  intro t
  by_cases h : t < L.length * 3
  · have e1 : (flatK ev 3 L.toArray)[t]? = some (ev L.toArray[t / 3]!)[t % 3]! := by
      rw [Array.getElem?_eq_getElem (by simpa using h), ← get_flatK ev 3 L.toArray t (by simpa using h)]
      rw [getElem!_pos (flatK ev 3 L.toArray) t (by simpa using h)]
    rw [e1, at_arr, List.getElem?_toArray, ← flat_at L (t / 3) (t % 3) (by omega) (by omega)]
    rw [show t / 3 * 3 + t % 3 = t by omega]
  · rw [Array.getElem?_eq_none (by simpa using h), List.getElem?_toArray, List.getElem?_eq_none (by rw [encE_len]; omega)]
set_option maxHeartbeats 1000000 in
theorem Sort_any (base g n cap : Nat) (L : List E) (w : World) (hn : L.length = n) (hl : n ≤ 1000) (h : w.ownsRow base 33 3 (.slice (some ⟨g, 0, none⟩) n cap) n (encE L)) :
    Calls Try.prog 35 #[.slice (some ⟨g, 0, none⟩) n cap, .func (.func 26) #[] #[]] w fun e w' => e = .returned (.tuple #[]) ∧ ∃ L' : List E, L'.Perm L ∧ (∀ i j, i < j → j < n → ¬ lt (at_ L' j) (at_ L' i)) ∧ w'.ownsRow base 33 3 (.slice (some ⟨g, 0, none⟩) n cap) n (encE L') ∧ w.grownBy w' (some g) := by
  subst hn
  have eg : ∀ args w, (callFunc 26 args).run Try.prog w = .ok (.enter 26 args) w := enters_of Try.func26 (by kernel_rfl) rfl
  have hH : HoldsK ev 3 w g 0 L.toArray := by
    unfold HoldsK
    rw [flat_eq]
    intro j hj
    have hj2 : j < (encE L).length := by simpa using hj
    refine ⟨?_, h.frozenAt _⟩
    rw [Nat.zero_add, h.cellAt j (by rw [encE_len] at hj2; exact hj2)]
    rw [getElem!_pos _ j hj]
    simp [hj2]
  have hcon := AnyQ.slices_SortFunc sortE 3 Try.isAgg33 Try.sizeOf33 ev (fun _ => rfl) (fun x v hv => by simp [ev] at hv; rcases hv with rfl | rfl | rfl <;> rfl) ordI swo_ord 26 #[] g 0 cap L.toArray w eg (cmp_lays g 0 L.toArray.size w) hH (h.lt g rfl).2 (by simp; omega)
  change Calls Try.prog 35 _ _ _ at hcon
  refine (by simpa using hcon : Calls Try.prog 35 #[.slice (some ⟨g, 0, none⟩) L.length cap, .func (.func 26) #[] #[]] w _).mono ?_
  rintro e w' ⟨he, d', hp, hs, m, os, rfl⟩
  obtain ⟨D, rfl⟩ : ∃ D : List E, d' = D.toArray := ⟨d'.toList, by simp⟩
  have hsz : D.length = L.length := by simpa using hp.1
  have hperm : D.Perm L := by
    have := hp.2.2
    simpa [Array.extract_eq_self_of_le, hsz] using this
  obtain ⟨O, G⟩ := own_sorted (ys := encE D) (m := m) (os := os) h (by rw [encE_len, encE_len, hsz])
  unfold sortWorldK putRowK
  rw [flat_eq]
  refine ⟨he, D, hperm, fun i j hij hj => ?_, O, G⟩
  have := hs i j (Nat.zero_le _) hij (by simpa using hj)
  rw [at_arr, at_arr, ltOf_ord] at this
  simpa using this
end Go.Proofs.Ytlafeijkpnpdeaa.Agy

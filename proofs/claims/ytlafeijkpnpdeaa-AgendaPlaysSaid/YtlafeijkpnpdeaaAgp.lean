/- A heap, and a list in order; plain. -/
set_option linter.unusedVariables false
set_option linter.unusedSimpArgs false
namespace Go.Proofs.Ytlafeijkpnpdeaa.Agp
/-- an entry: when, which, what -/
abbrev E := Int × Int × Int
def e0 : E := (0, 0, 0)
/-- how two entries stand -/
def lt (x y : E) : Prop := x.1 < y.1 ∨ (x.1 = y.1 ∧ x.2.1 < y.2.1)
def le (x y : E) : Prop := x.1 < y.1 ∨ (x.1 = y.1 ∧ x.2.1 ≤ y.2.1)
instance (x y : E) : Decidable (lt x y) := by unfold lt; infer_instance
instance (x y : E) : Decidable (le x y) := by unfold le; infer_instance
theorem le_trans {x y z : E} (h : le x y) (k : le y z) : le x z := by unfold le at *; omega
theorem le_refl (x : E) : le x x := by unfold le; omega
theorem lt_le {x y : E} (h : lt x y) : le x y := by unfold le lt at *; omega
theorem not_le {x y : E} : ¬ le x y ↔ lt y x := by unfold le lt; omega
theorem not_lt {x y : E} : ¬ lt x y ↔ le y x := by unfold le lt; omega
theorem lt_irrefl (x : E) : ¬ lt x x := by unfold lt; omega
theorem lt_trans {x y z : E} (h : lt x y) (k : lt y z) : lt x z := by unfold lt at *; omega
/-- the entry at a place -/
def at_ (h : List E) (i : Nat) : E := h.getD i e0
theorem at_lt {h : List E} {i : Nat} (hi : i < h.length) : at_ h i = h[i] := by simp [at_, List.getD, hi]
def swap (h : List E) (i j : Nat) : List E := (h.set i (at_ h j)).set j (at_ h i)
theorem swap_len (h : List E) (i j : Nat) : (swap h i j).length = h.length := by simp [swap]
theorem at_set {h : List E} {i k : Nat} {x : E} (hi : i < h.length) : at_ (h.set i x) k = if k = i then x else at_ h k := by
  unfold at_ List.getD
  rw [List.getElem?_set]
  by_cases e : i = k
  · subst e; simp [hi]
  · rw [if_neg e, if_neg (fun h => e h.symm)]
theorem at_swap {h : List E} {i j k : Nat} (hi : i < h.length) (hj : j < h.length) : at_ (swap h i j) k = if k = j then at_ h i else if k = i then at_ h j else at_ h k := by
  unfold swap
  rw [at_set (by simpa using hj), at_set hi]
theorem swap_perm {h : List E} {i j : Nat} (hi : i < h.length) (hj : j < h.length) : (swap h i j).Perm h := by
  unfold swap
  rw [at_lt hi, at_lt hj]
  exact List.set_set_perm hi hj
/-- an edge to the entry above -/
def ok (h : List E) (k : Nat) : Prop := le (at_ h ((k - 1) / 2)) (at_ h k)
def Heap (h : List E) : Prop := ∀ k, 1 ≤ k → k < h.length → ok h k
/-- all but what lies above i -/
structure Up (h : List E) (i : Nat) : Prop where
  o : ∀ k, 1 ≤ k → k < h.length → k ≠ i → ok h k
  g : ∀ k, 1 ≤ k → k < h.length → (k - 1) / 2 = i → 1 ≤ i → le (at_ h ((i - 1) / 2)) (at_ h k)
/-- all but what lies below i -/
structure Dn (h : List E) (i : Nat) : Prop where
  o : ∀ k, 1 ≤ k → k < h.length → (k - 1) / 2 ≠ i → ok h k
  g : ∀ k, 1 ≤ k → k < h.length → (k - 1) / 2 = i → 1 ≤ i → le (at_ h ((i - 1) / 2)) (at_ h k)
theorem up_heap {h : List E} {i : Nat} (u : Up h i) (k : i = 0 ∨ h.length ≤ i ∨ ok h i) : Heap h := fun j h1 h2 => by
  by_cases e : j = i
  · subst e
    rcases k with k | k | k
    · omega
    · omega
    · exact k
  · exact u.o j h1 h2 e
theorem heap_dn {h : List E} (k : Heap h) {i : Nat} (hi : i < h.length) : Dn h i := ⟨fun j h1 h2 _ => k j h1 h2, fun j h1 h2 e h3 => le_trans (k i h3 hi) (by have := k j h1 h2; unfold ok at this; rw [e] at this; exact this)⟩
theorem up_swap {h : List E} {i : Nat} (u : Up h i) (hi : i < h.length) (h0 : 0 < i) (n : ¬ ok h i) : Up (swap h i ((i - 1) / 2)) ((i - 1) / 2) := by
  have n' := not_le.1 n
  have hj : (i - 1) / 2 < h.length := by omega
  constructor
  · intro k h1 h2 h3
    rw [swap_len] at h2
    unfold ok
    rw [at_swap hi hj, at_swap hi hj]
    rw [if_neg h3]
    by_cases e : k = i
    · rw [if_pos (by rw [e]), if_pos e]; exact lt_le n'
    · rw [if_neg e]
      by_cases e2 : (k - 1) / 2 = (i - 1) / 2
      · rw [if_pos e2]
        have := u.o k h1 h2 e
        unfold ok at this
        rw [e2] at this
        exact lt_le (by unfold lt le at *; omega)
      · rw [if_neg e2]
        by_cases e3 : (k - 1) / 2 = i
        · rw [if_pos e3]; exact u.g k h1 h2 e3 h0
        · rw [if_neg e3]; exact u.o k h1 h2 e
  · intro k h1 h2 h3 h4
    rw [swap_len] at h2
    have hp := u.o ((i - 1) / 2) h4 hj (by omega)
    unfold ok at hp
    rw [at_swap hi hj, at_swap hi hj, if_neg (show ((i - 1) / 2 - 1) / 2 ≠ (i - 1) / 2 by omega), if_neg (show ((i - 1) / 2 - 1) / 2 ≠ i by omega)]
    rw [if_neg (show k ≠ (i - 1) / 2 by omega)]
    by_cases e : k = i
    · rw [if_pos e]; exact hp
    · rw [if_neg e]
      have := u.o k h1 h2 e
      unfold ok at this
      rw [h3] at this
      exact le_trans hp this
/-- an entry rises -/
def upF (h : List E) (i : Nat) : List E := if hi : i = 0 then h else if le (at_ h ((i - 1) / 2)) (at_ h i) then h else upF (swap h i ((i - 1) / 2)) ((i - 1) / 2)
termination_by i
decreasing_by omega
theorem upF_zero (h : List E) : upF h 0 = h := by rw [upF]; simp
theorem upF_ok {h : List E} {i : Nat} (k : le (at_ h ((i - 1) / 2)) (at_ h i)) : upF h i = h := by rw [upF]; simp [k]
theorem upF_no {h : List E} {i : Nat} (h0 : 0 < i) (k : ¬ le (at_ h ((i - 1) / 2)) (at_ h i)) : upF h i = upF (swap h i ((i - 1) / 2)) ((i - 1) / 2) := by rw [upF, dif_neg (by omega), if_neg k]
theorem upF_len (h : List E) (i : Nat) : (upF h i).length = h.length := by
  induction i using Nat.strongRecOn generalizing h with
  | _ i ih =>
    by_cases h0 : i = 0
    · rw [h0, upF_zero]
    · by_cases k : le (at_ h ((i - 1) / 2)) (at_ h i)
      · rw [upF_ok k]
      · rw [upF_no (by omega) k, ih _ (by omega), swap_len]
theorem upF_perm {h : List E} {i : Nat} (hi : i < h.length) : (upF h i).Perm h := by
  induction i using Nat.strongRecOn generalizing h with
  | _ i ih =>
    by_cases h0 : i = 0
    · rw [h0, upF_zero]
    · by_cases k : le (at_ h ((i - 1) / 2)) (at_ h i)
      · rw [upF_ok k]
      · rw [upF_no (by omega) k]
        exact (ih _ (by omega) (by rw [swap_len]; omega)).trans (swap_perm hi (by omega))
theorem upF_heap {h : List E} {i : Nat} (hi : i < h.length) (u : Up h i) : Heap (upF h i) := by
  induction i using Nat.strongRecOn generalizing h with
  | _ i ih =>
    by_cases h0 : i = 0
    · rw [h0, upF_zero]; exact up_heap u (.inl h0)
    · by_cases k : le (at_ h ((i - 1) / 2)) (at_ h i)
      · rw [upF_ok k]; exact up_heap u (.inr (.inr k))
      · rw [upF_no (by omega) k]
        exact ih _ (by omega) (by rw [swap_len]; omega) (up_swap u hi (by omega) k)
/-- the least of an entry and the two below it -/
def lf1 (h : List E) (i : Nat) : Nat := if 2 * i + 1 < h.length ∧ lt (at_ h (2 * i + 1)) (at_ h i) then 2 * i + 1 else i
def lf (h : List E) (i : Nat) : Nat := if 2 * i + 2 < h.length ∧ lt (at_ h (2 * i + 2)) (at_ h (lf1 h i)) then 2 * i + 2 else lf1 h i
theorem lf_spec (h : List E) (i : Nat) : (lf h i = i ∧ ∀ k, k < h.length → 1 ≤ k → (k - 1) / 2 = i → ¬ lt (at_ h k) (at_ h i)) ∨ (i < lf h i ∧ lf h i < h.length ∧ (lf h i - 1) / 2 = i ∧ lt (at_ h (lf h i)) (at_ h i) ∧ ∀ k, k < h.length → 1 ≤ k → (k - 1) / 2 = i → le (at_ h (lf h i)) (at_ h k)) := by
  have two : ∀ k, 1 ≤ k → (k - 1) / 2 = i → k = 2 * i + 1 ∨ k = 2 * i + 2 := fun k _ _ => by omega
  unfold lf
  by_cases c2 : 2 * i + 2 < h.length ∧ lt (at_ h (2 * i + 2)) (at_ h (lf1 h i))
  · rw [if_pos c2]
    obtain ⟨l2, o2⟩ := c2
    unfold lf1 at o2
    by_cases c1 : 2 * i + 1 < h.length ∧ lt (at_ h (2 * i + 1)) (at_ h i)
    · rw [if_pos c1] at o2
      refine .inr ⟨by omega, l2, by omega, lt_trans o2 c1.2, fun k h1 h2 h3 => ?_⟩
      rcases two k h2 h3 with rfl | rfl
      · exact lt_le o2
      · exact le_refl _
    · rw [if_neg c1] at o2
      refine .inr ⟨by omega, l2, by omega, o2, fun k h1 h2 h3 => ?_⟩
      rcases two k h2 h3 with rfl | rfl
      · have : le (at_ h i) (at_ h (2 * i + 1)) := not_lt.1 (fun z => c1 ⟨h1, z⟩)
        exact le_trans (lt_le o2) this
      · exact le_refl _
  · rw [if_neg c2]
    unfold lf1 at *
    by_cases c1 : 2 * i + 1 < h.length ∧ lt (at_ h (2 * i + 1)) (at_ h i)
    · rw [if_pos c1] at c2 ⊢
      refine .inr ⟨by omega, c1.1, by omega, c1.2, fun k h1 h2 h3 => ?_⟩
      rcases two k h2 h3 with rfl | rfl
      · exact le_refl _
      · exact not_lt.1 (fun z => c2 ⟨h1, z⟩)
    · rw [if_neg c1] at c2 ⊢
      refine .inl ⟨rfl, fun k h1 h2 h3 => ?_⟩
      rcases two k h2 h3 with rfl | rfl
      · exact fun z => c1 ⟨h1, z⟩
      · exact fun z => c2 ⟨h1, z⟩
theorem dn_swap {h : List E} {i k : Nat} (d : Dn h i) (hi : i < h.length) (h1 : i < k) (h2 : k < h.length) (h3 : (k - 1) / 2 = i) (h4 : lt (at_ h k) (at_ h i)) (h5 : ∀ j, j < h.length → 1 ≤ j → (j - 1) / 2 = i → le (at_ h k) (at_ h j)) : Dn (swap h i k) k := by
  constructor
  · intro j j1 j2 j3
    rw [swap_len] at j2
    unfold ok
    rw [at_swap hi h2, at_swap hi h2, if_neg j3]
    by_cases e : j = k
    · rw [if_pos e, if_pos (by rw [e]; exact h3)]; exact lt_le h4
    · rw [if_neg e]
      by_cases e2 : (j - 1) / 2 = i
      · rw [if_pos e2, if_neg (show j ≠ i by omega)]; exact h5 j j2 j1 e2
      · rw [if_neg e2]
        by_cases e3 : j = i
        · rw [if_pos e3]
          subst e3
          exact d.g k (by omega) h2 h3 j1
        · rw [if_neg e3]; exact d.o j j1 j2 e2
  · intro j j1 j2 j3 j4
    rw [swap_len] at j2
    rw [at_swap hi h2, at_swap hi h2, if_neg (show (k - 1) / 2 ≠ k by omega), if_pos h3, if_neg (show j ≠ k by omega), if_neg (show j ≠ i by omega)]
    have := d.o j j1 j2 (by omega)
    unfold ok at this
    rw [j3] at this
    exact this
/-- an entry sinks -/
def dnF (h : List E) (i : Nat) : List E := if hi : i < h.length then (if hk : lf h i = i then h else dnF (swap h i (lf h i)) (lf h i)) else h
termination_by h.length - i
decreasing_by
  rw [swap_len]
  rcases lf_spec h i with ⟨e, -⟩ | ⟨h1, h2, -⟩
  · exact absurd e hk
  · omega
theorem dnF_out {h : List E} {i : Nat} (hi : h.length ≤ i) : dnF h i = h := by rw [dnF, dif_neg (by omega)]
theorem dnF_end {h : List E} {i : Nat} (k : lf h i = i) : dnF h i = h := by rw [dnF]; split <;> simp [k]
theorem dnF_on {h : List E} {i : Nat} (hi : i < h.length) (k : lf h i ≠ i) : dnF h i = dnF (swap h i (lf h i)) (lf h i) := by rw [dnF, dif_pos hi, dif_neg k]
theorem dnF_all (P : List E → List E → Prop) (hr : ∀ h, P h h) (hs : ∀ h i k g, i < h.length → k < h.length → P (swap h i k) g → P h g) : ∀ n (h : List E) i, h.length - i ≤ n → P h (dnF h i)
  | 0, h, i, hn => by rw [dnF_out (by omega)]; exact hr h
  | n + 1, h, i, hn => by
    by_cases hi : i < h.length
    · rcases lf_spec h i with ⟨e, -⟩ | ⟨h1, h2, -⟩
      · rw [dnF_end e]; exact hr h
      · rw [dnF_on hi (by omega)]
        exact hs h i _ _ hi h2 (dnF_all P hr hs n _ _ (by rw [swap_len]; omega))
    · rw [dnF_out (by omega)]; exact hr h
theorem dnF_len (h : List E) (i : Nat) : (dnF h i).length = h.length :=
  dnF_all (fun h g => g.length = h.length) (fun _ => rfl) (fun h i k g _ _ e => by rw [e, swap_len]) _ h i (Nat.le_refl _)
theorem dnF_perm (h : List E) (i : Nat) : (dnF h i).Perm h :=
  dnF_all (fun h g => g.Perm h) (fun _ => .refl _) (fun h i k g hi hk e => e.trans (swap_perm hi hk)) _ h i (Nat.le_refl _)
theorem dnF_heap : ∀ n (h : List E) i, h.length - i ≤ n → Dn h i → i < h.length → Heap (dnF h i)
  | 0, h, i, hn, d, hi => by omega
  | n + 1, h, i, hn, d, hi => by
    rcases lf_spec h i with ⟨e, k⟩ | ⟨h1, h2, h3, h4, h5⟩
    · rw [dnF_end e]
      intro j j1 j2
      by_cases e2 : (j - 1) / 2 = i
      · unfold ok; rw [e2]; exact not_lt.1 (k j j2 j1 e2)
      · exact d.o j j1 j2 e2
    · rw [dnF_on hi (by omega)]
      exact dnF_heap n _ _ (by rw [swap_len]; omega) (dn_swap d hi h1 h2 h3 h4 h5) (by rw [swap_len]; exact h2)
/-- an entry is taken out -/
def outF (h : List E) (i : Nat) : List E := dnF (upF ((h.set i (at_ h (h.length - 1))).dropLast) (min i (h.length - 1 - 1))) i
theorem at_drop {h : List E} {k : Nat} (hk : k < h.length - 1) : at_ h.dropLast k = at_ h k := by
  rw [at_lt (by simpa using hk), at_lt (by omega), List.getElem_dropLast]
theorem out_len {h : List E} {i : Nat} (hi : i < h.length) : (outF h i).length = h.length - 1 := by
  unfold outF
  rw [dnF_len, upF_len]
  simp
theorem out_heap {h : List E} {i : Nat} (hp : Heap h) (hi : i < h.length) : Heap (outF h i) := by
  unfold outF
  obtain ⟨g, hg⟩ : ∃ g, (h.set i (at_ h (h.length - 1))).dropLast = g := ⟨_, rfl⟩
  have gl : g.length = h.length - 1 := by rw [← hg]; simp
  have ga : ∀ k, k < h.length - 1 → at_ g k = if k = i then at_ h (h.length - 1) else at_ h k := fun k hk => by
    rw [← hg, at_drop (by simpa using hk), at_set hi]
  rw [hg]
  by_cases he : i = h.length - 1
  · have hh : Heap g := fun k k1 k2 => by
      unfold ok
      rw [ga _ (by omega), ga _ (by omega), if_neg (by omega), if_neg (by omega)]
      exact hp k k1 (by omega)
    have : upF g (min i (h.length - 1 - 1)) = g := by
      rw [show min i (h.length - 1 - 1) = h.length - 1 - 1 by omega]
      by_cases z : h.length - 1 - 1 = 0
      · rw [z, upF_zero]
      · exact upF_ok (hh _ (by omega) (by omega))
    rw [this, dnF_out (by omega)]
    exact hh
  · rw [show min i (h.length - 1 - 1) = i by omega]
    have o1 : ∀ k, 1 ≤ k → k < g.length → k ≠ i → (k - 1) / 2 ≠ i → ok g k := fun k k1 k2 k3 k4 => by
      unfold ok
      rw [ga _ (by omega), ga _ (by omega), if_neg k4, if_neg k3]
      exact hp k k1 (by omega)
    have o2 : ∀ k, 1 ≤ k → k < g.length → (k - 1) / 2 = i → 1 ≤ i → le (at_ g ((i - 1) / 2)) (at_ g k) := fun k k1 k2 k3 k4 => by
      rw [ga _ (by omega), ga _ (by omega), if_neg (by omega), if_neg (by omega)]
      have h1 := hp k k1 (by omega)
      have h2 := hp i k4 hi
      unfold ok at h1 h2
      rw [k3] at h1
      exact le_trans h2 h1
    by_cases c : i = 0 ∨ ok g i
    · have : upF g i = g := by
        rcases c with c | c
        · rw [c, upF_zero]
        · exact upF_ok c
      rw [this]
      refine dnF_heap _ _ _ (Nat.le_refl _) ⟨fun k k1 k2 k3 => ?_, o2⟩ (by omega)
      by_cases e : k = i
      · subst e
        rcases c with c | c
        · omega
        · exact c
      · exact o1 k k1 k2 e k3
    · have u : Up g i := ⟨fun k k1 k2 k3 => by
        by_cases e : (k - 1) / 2 = i
        · have a := not_le.1 (show ¬ le (at_ g ((i - 1) / 2)) (at_ g i) from fun z => c (.inr z))
          have b := o2 k k1 k2 e (by omega)
          unfold ok
          rw [e]
          exact le_trans (lt_le a) b
        · exact o1 k k1 k2 k3 e, o2⟩
      have hh := upF_heap (by omega) u
      exact dnF_heap _ _ _ (Nat.le_refl _) (heap_dn hh (by rw [upF_len]; omega)) (by rw [upF_len]; omega)
theorem set_drop_perm {h : List E} {i : Nat} (hi : i < h.length) : ((at_ h i) :: (h.set i (at_ h (h.length - 1))).dropLast).Perm h := by
  have hl : h.length - 1 < h.length := by omega
  have e2 : (swap h i (h.length - 1)) = (h.set i (at_ h (h.length - 1))).dropLast ++ [at_ h i] := by
    have ne : swap h i (h.length - 1) ≠ [] := by intro z; have := congrArg List.length z; rw [swap_len] at this; simp at this; rw [this] at hi; simp at hi
    have h1 := (List.dropLast_concat_getLast ne).symm
    have h2 : (swap h i (h.length - 1)).getLast ne = at_ h i := by
      rw [List.getLast_eq_getElem]
      unfold swap
      simp
    have h3 : (swap h i (h.length - 1)).dropLast = (h.set i (at_ h (h.length - 1))).dropLast := by
      unfold swap
      apply List.ext_getElem
      · simp
      · intro n a b
        simp only [List.getElem_dropLast]
        rw [List.getElem_set_ne]
        simp at a
        omega
    rw [h1, h2, h3]
  have h4 := swap_perm hi hl
  rw [e2] at h4
  exact (List.perm_append_singleton _ _).symm.trans h4
theorem out_perm {h : List E} {i : Nat} (hi : i < h.length) : (at_ h i :: outF h i).Perm h := by
  refine .trans (.cons _ ?_) (set_drop_perm hi)
  unfold outF
  refine (dnF_perm _ _).trans ?_
  obtain ⟨g, hg⟩ : ∃ g, (h.set i (at_ h (h.length - 1))).dropLast = g := ⟨_, rfl⟩
  have gl : g.length = h.length - 1 := by rw [← hg]; simp
  rw [hg]
  by_cases hz : g.length = 0
  · have : min i (h.length - 1 - 1) = 0 := by omega
    rw [this, upF_zero]
  · exact upF_perm (by omega)
/-- an entry is put in -/
theorem add_up {h : List E} {x : E} (hp : Heap h) : Up (h ++ [x]) h.length := by
  have ha : ∀ k, k < h.length → at_ (h ++ [x]) k = at_ h k := fun k hk => by
    rw [at_lt (by simp; omega), at_lt hk, List.getElem_append_left]
  constructor
  · intro k h1 h2 h3
    simp at h2
    unfold ok
    rw [ha _ (by omega), ha _ (by omega)]
    exact hp k h1 (by omega)
  · intro k h1 h2 h3 h4
    simp at h2
    omega
def addF (h : List E) (x : E) : List E := upF (h ++ [x]) h.length
theorem add_heap {h : List E} {x : E} (hp : Heap h) : Heap (addF h x) := upF_heap (by simp) (add_up hp)
theorem add_perm (h : List E) (x : E) : (addF h x).Perm (h ++ [x]) := upF_perm (by simp)
theorem add_len (h : List E) (x : E) : (addF h x).length = h.length + 1 := by unfold addF; rw [upF_len]; simp
theorem root_le {h : List E} (hp : Heap h) : ∀ k, k < h.length → le (at_ h 0) (at_ h k) := by
  intro k
  induction k using Nat.strongRecOn with
  | _ k ih =>
    intro hk
    by_cases h0 : k = 0
    · rw [h0]; exact le_refl _
    · exact le_trans (ih _ (by omega) (by omega)) (hp k (by omega) hk)

/-- in order, each one once -/
def srt (S : List E) : Prop := S.Pairwise lt
def one (S : List E) : Prop := S.Pairwise fun x y => x.2.1 ≠ y.2.1
/-- an agenda: a heap of what the list in order has -/
structure Inv (h S : List E) (last : Int) : Prop where
  hp : Heap h
  pm : h.Perm S
  st : srt S
  id : ∀ e, e ∈ S → 1 ≤ e.2.1 ∧ e.2.1 ≤ last
  one : one S
theorem inv_nil (last : Int) : Inv [] [] last := ⟨fun k _ h => absurd h (by simp), .refl _, .nil, fun e h => (by simp at h), .nil⟩
theorem inv_len {h S : List E} {last : Int} (v : Inv h S last) : h.length = S.length := v.pm.length_eq
theorem inv_head {h S : List E} {last : Int} (v : Inv h S last) (hn : 0 < h.length) : S = at_ h 0 :: S.tail := by
  cases S with
  | nil => have := inv_len v; rw [List.length_nil] at this; omega
  | cons s T =>
    have h1 : at_ h 0 ∈ s :: T := v.pm.mem_iff.1 (by rw [at_lt hn]; exact List.getElem_mem hn)
    have h2 : s ∈ h := v.pm.mem_iff.2 (by simp)
    obtain ⟨k, hk, e⟩ := List.getElem_of_mem h2
    have h3 := root_le v.hp k hk
    rw [at_lt hk, e] at h3
    rcases List.mem_cons.1 h1 with e1 | e1
    · rw [e1]; rfl
    · have h4 := List.rel_of_pairwise_cons v.st e1
      exact absurd h4 (not_lt.2 h3)
theorem inv_pop {h S : List E} {last : Int} (v : Inv h S last) (hn : 0 < h.length) : Inv (outF h 0) S.tail last := by
  have e := inv_head v hn
  have p := (out_perm hn).trans v.pm
  rw [e] at p
  refine ⟨out_heap v.hp hn, p.cons_inv, ?_, fun x hx => v.id x (List.mem_of_mem_tail hx), ?_⟩
  · have := v.st; rw [e] at this; exact (List.pairwise_cons.1 this).2
  · have := v.one; rw [e] at this; exact (List.pairwise_cons.1 this).2
/-- an entry is put in, in order -/
def ins (x : E) (S : List E) : List E := S.takeWhile (fun e => decide (e.1 ≤ x.1)) ++ x :: S.dropWhile (fun e => decide (e.1 ≤ x.1))
theorem ins_perm (x : E) (S : List E) : (ins x S).Perm (S ++ [x]) := by
  unfold ins
  refine List.perm_middle.trans ?_
  rw [List.takeWhile_append_dropWhile]
  exact (List.perm_append_singleton _ _).symm
theorem srt_at {S : List E} (h : srt S) : S.Pairwise fun x y => x.1 ≤ y.1 := h.imp fun {x y} z => by unfold lt at z; omega
theorem ins_cons (x s : E) (S : List E) : ins x (s :: S) = if s.1 ≤ x.1 then s :: ins x S else x :: s :: S := by
  unfold ins
  by_cases c : s.1 ≤ x.1
  · simp [List.takeWhile_cons, List.dropWhile_cons, c]
  · simp [List.takeWhile_cons, List.dropWhile_cons, c]
theorem ins_srt {x : E} : ∀ {S : List E}, srt S → (∀ e, e ∈ S → e.2.1 < x.2.1) → srt (ins x S)
  | [], _, _ => List.pairwise_singleton _ _
  | s :: S, h, h1 => by
    rw [ins_cons]
    obtain ⟨a, b⟩ := List.pairwise_cons.1 h
    by_cases c : s.1 ≤ x.1
    · rw [if_pos c]
      refine List.pairwise_cons.2 ⟨fun e he => ?_, ins_srt b (fun e he => h1 e (by simp [he]))⟩
      rcases List.mem_append.1 ((ins_perm x S).mem_iff.1 he) with he | he
      · exact a e he
      · obtain rfl := List.mem_singleton.1 he
        have := h1 s (by simp)
        unfold lt; omega
    · rw [if_neg c]
      refine List.pairwise_cons.2 ⟨fun e he => ?_, h⟩
      rcases List.mem_cons.1 he with rfl | he
      · unfold lt; omega
      · have := a e he
        unfold lt at *; omega
theorem inv_add {h S : List E} {last : Int} (v : Inv h S last) (h0 : 0 ≤ last) (x : E) (hx : x.2.1 = last + 1) : Inv (addF h x) (ins x S) (last + 1) := by
  have mem : ∀ e, e ∈ ins x S → e ∈ S ∨ e = x := fun e he => by
    rcases List.mem_append.1 ((ins_perm x S).mem_iff.1 he) with he | he
    · exact .inl he
    · exact .inr (List.mem_singleton.1 he)
  refine ⟨add_heap v.hp, ((add_perm h x).trans (v.pm.append_right _)).trans (ins_perm x S).symm, ins_srt v.st (fun e he => by have := v.id e he; omega), fun e he => ?_, ?_⟩
  · rcases mem e he with he | rfl
    · have := v.id e he; omega
    · omega
  · refine ((ins_perm x S).pairwise_iff (fun {a b} h => fun z => h z.symm)).2 ?_
    refine List.pairwise_append.2 ⟨v.one, List.pairwise_singleton _ _, fun a ha b hb => ?_⟩
    obtain rfl := List.mem_singleton.1 hb
    have := v.id a ha
    omega
/-- an entry is dropped -/
def del (id : Int) (S : List E) : List E := S.filter fun e => !decide (e.2.1 = id)
theorem inv_del {h S : List E} {last : Int} (v : Inv h S last) {i : Nat} (hi : i < h.length) : Inv (outF h i) (del (at_ h i).2.1 S) last := by
  have p := (out_perm hi).trans v.pm
  have q : one (at_ h i :: outF h i) := (p.pairwise_iff (fun {a b} h => fun z => h z.symm)).2 v.one
  obtain ⟨q1, q2⟩ := List.pairwise_cons.1 q
  have f := p.filter (fun e => !decide (e.2.1 = (at_ h i).2.1))
  rw [List.filter_cons_of_neg (by simp)] at f
  rw [List.filter_eq_self.2 (fun e he => by have := q1 e he; simp; exact fun z => this z.symm)] at f
  exact ⟨out_heap v.hp hi, f, v.st.filter _, fun e he => v.id e (List.mem_filter.1 he).1, v.one.filter _⟩
theorem del_no {S : List E} {id : Int} (h : ∀ e, e ∈ S → e.2.1 ≠ id) : del id S = S := List.filter_eq_self.2 fun e he => by simp [h e he]
/-- what is due -/
def dueS (now : Int) (S : List E) : List E := S.takeWhile fun e => decide (e.1 ≤ now)
def rstS (now : Int) (S : List E) : List E := S.dropWhile fun e => decide (e.1 ≤ now)
theorem due_pop {h S : List E} {last now : Int} (v : Inv h S last) (hn : 0 < h.length) (hd : (at_ h 0).1 ≤ now) : dueS now S = at_ h 0 :: dueS now S.tail ∧ rstS now S = rstS now S.tail := by
  have e := inv_head v hn
  unfold dueS rstS
  conv => lhs; lhs; rw [e]
  conv => rhs; lhs; rw [e]
  rw [List.takeWhile_cons_of_pos (by simpa using hd), List.dropWhile_cons_of_pos (by simpa using hd)]
  exact ⟨rfl, rfl⟩
theorem due_end {h S : List E} {last now : Int} (v : Inv h S last) (hd : h.length = 0 ∨ now < (at_ h 0).1) : dueS now S = [] ∧ rstS now S = S := by
  by_cases hn : 0 < h.length
  · have hd : now < (at_ h 0).1 := by omega
    have e := inv_head v hn
    unfold dueS rstS
    conv => lhs; lhs; rw [e]
    conv => rhs; lhs; rw [e]
    rw [List.takeWhile_cons_of_neg (by simpa using hd), List.dropWhile_cons_of_neg (by simpa using hd)]
    exact ⟨rfl, e.symm⟩
  · have := inv_len v
    have : S = [] := List.length_eq_zero_iff.1 (by omega)
    rw [this]; exact ⟨rfl, rfl⟩
end Go.Proofs.Ytlafeijkpnpdeaa.Agp

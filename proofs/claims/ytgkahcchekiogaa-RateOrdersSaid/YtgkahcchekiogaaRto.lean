/- Plain: places, rotations, what a stable sort by merges keeps. -/
import Derived.Test.YtgkahcchekiogaaBase
namespace Go.Proofs.Ytgkahcchekiogaa.Rto
abbrev D := Nat → Nat
def ro (a m b t : Nat) : Nat := if a ≤ t ∧ t < b then (if t < a + (b - m) then t + (m - a) else t - (b - m)) else t
def rot (d : D) (a m b : Nat) : D := fun t => d (ro a m b t)
def sw (d : D) (i j : Nat) : D := fun t => if t = i then d j else if t = j then d i else d t
def swr (d : D) (x y n : Nat) : D := fun t => if x ≤ t ∧ t < x + n then d (t - x + y) else if y ≤ t ∧ t < y + n then d (t - y + x) else d t
/-- a permutation of the numbers below n -/
def Pm (d : D) (n : Nat) : Prop := (∀ i, i < n → d i < n) ∧ ∀ i j, i < n → j < n → d i = d j → i = j
/-- of equals the lesser stands first -/
def Stb (ky : Nat → Int) (d : D) (n : Nat) : Prop := ∀ i j, i < j → j < n → ky (d i) = ky (d j) → d i < d j
def Sr (ky : Nat → Int) (d : D) (a b : Nat) : Prop := ∀ i j, a ≤ i → i < j → j < b → ky (d i) ≤ ky (d j)
structure Gdo (ky : Nat → Int) (d : D) (n : Nat) : Prop where
  pm : Pm d n
  st : Stb ky d n
/-- moved within a part -/
structure Mv (d d' : D) (a b : Nat) : Prop where
  out : ∀ t, t < a ∨ b ≤ t → d' t = d t
  inn : ∀ t, a ≤ t → t < b → ∃ s, a ≤ s ∧ s < b ∧ d' t = d s
theorem Mv.refl (d : D) (a b : Nat) : Mv d d a b := ⟨fun _ _ => rfl, fun t h1 h2 => ⟨t, h1, h2, rfl⟩⟩
theorem Mv.trans {d d' d'' : D} {a b : Nat} (h : Mv d d' a b) (k : Mv d' d'' a b) : Mv d d'' a b :=
  ⟨fun t ht => (k.out t ht).trans (h.out t ht), fun t h1 h2 => by
    obtain ⟨s, s1, s2, s3⟩ := k.inn t h1 h2
    obtain ⟨r, r1, r2, r3⟩ := h.inn s s1 s2
    exact ⟨r, r1, r2, s3.trans r3⟩⟩
theorem Mv.mono {d d' : D} {a b a' b' : Nat} (h : Mv d d' a b) (h1 : a' ≤ a) (h2 : b ≤ b') : Mv d d' a' b' :=
  ⟨fun t ht => h.out t (by omega), fun t t1 t2 => by
    by_cases c : a ≤ t ∧ t < b
    · obtain ⟨s, s1, s2, s3⟩ := h.inn t c.1 c.2
      exact ⟨s, by omega, by omega, s3⟩
    · exact ⟨t, t1, t2, h.out t (by omega)⟩⟩
theorem ro_lt {a m b n t : Nat} (h1 : a ≤ m) (h2 : m ≤ b) (h3 : b ≤ n) (ht : t < n) : ro a m b t < n := by
  unfold ro; (repeat' split) <;> omega
theorem ro_inj {a m b s t : Nat} (h1 : a ≤ m) (h2 : m ≤ b) (e : ro a m b s = ro a m b t) : s = t := by
  unfold ro at e; (repeat' split at e) <;> omega
theorem ro_out {a m b t : Nat} (h : t < a ∨ b ≤ t) : ro a m b t = t := by
  unfold ro; rw [if_neg (by omega)]
theorem ro_in {a m b t : Nat} (h1 : a ≤ m) (h2 : m ≤ b) (h : a ≤ t ∧ t < b) : a ≤ ro a m b t ∧ ro a m b t < b := by
  unfold ro; rw [if_pos h]; split <;> omega
theorem ro_pair {a m b s t : Nat} (h1 : a ≤ m) (h2 : m ≤ b) (h : s < t) : ro a m b s < ro a m b t ∨ (m ≤ ro a m b s ∧ ro a m b s < b ∧ a ≤ ro a m b t ∧ ro a m b t < m) := by
  unfold ro; (repeat' split) <;> omega
variable {ky : Nat → Int} {d d' : D} {n a b m i j : Nat}
theorem rot_mv (h1 : a ≤ m) (h2 : m ≤ b) : Mv d (rot d a m b) a b :=
  ⟨fun t ht => by unfold rot; rw [ro_out ht], fun t t1 t2 => ⟨ro a m b t, (ro_in h1 h2 ⟨t1, t2⟩).1, (ro_in h1 h2 ⟨t1, t2⟩).2, rfl⟩⟩
theorem rot_good (h : Gdo ky d n) (h1 : a ≤ m) (h2 : m ≤ b) (h3 : b ≤ n) (hs : ∀ s t, a ≤ s → s < m → m ≤ t → t < b → ky (d t) < ky (d s)) : Gdo ky (rot d a m b) n := by
  refine ⟨⟨fun i hi => h.pm.1 _ (ro_lt h1 h2 h3 hi), fun i j hi hj e => ?_⟩, fun i j hij hj e => ?_⟩
  · exact ro_inj h1 h2 (h.pm.2 _ _ (ro_lt h1 h2 h3 hi) (ro_lt h1 h2 h3 hj) e)
  · unfold rot at *
    rcases ro_pair h1 h2 hij with c | ⟨c1, c2, c3, c4⟩
    · exact h.st _ _ c (ro_lt h1 h2 h3 hj) e
    · have := hs _ _ c3 c4 c1 c2
      omega
/-- one place goes down -/
theorem dn_sr (h : Sr ky d a i) (h1 : a ≤ j) (h2 : j ≤ i) (hs : ∀ t, j ≤ t → t < i → ky (d i) < ky (d t)) (hj : j = a ∨ ky (d (j - 1)) ≤ ky (d i)) : Sr ky (rot d j i (i + 1)) a (i + 1) := by
  have hlow : ∀ s, a ≤ s → s < j → ky (d s) ≤ ky (d i) := fun s s1 s2 => by
    rcases hj with hj | hj
    · omega
    · by_cases c : s = j - 1
      · rw [c]; exact hj
      · exact Int.le_trans (h s (j - 1) s1 (by omega) (by omega)) hj
  intro s t s1 st t2
  unfold rot
  by_cases c : t < j
  · rw [ro_out (by omega), ro_out (by omega)]; exact h s t s1 st (by omega)
  · by_cases c2 : t = j
    · subst c2
      rw [ro_out (by omega), show ro t i (i + 1) t = i by unfold ro; rw [if_pos (by omega), if_pos (by omega)]; omega]
      exact hlow s s1 st
    · rw [show ro j i (i + 1) t = t - 1 by unfold ro; rw [if_pos (by omega), if_neg (by omega)]; omega]
      by_cases c3 : s < j
      · rw [ro_out (by omega)]; exact h s (t - 1) s1 (by omega) (by omega)
      · by_cases c4 : s = j
        · subst c4
          rw [show ro s i (i + 1) s = i by unfold ro; rw [if_pos (by omega), if_pos (by omega)]; omega]
          have := hs (t - 1) (by omega) (by omega)
          omega
        · rw [show ro j i (i + 1) s = s - 1 by unfold ro; rw [if_pos (by omega), if_neg (by omega)]; omega]
          exact h (s - 1) (t - 1) (by omega) (by omega) (by omega)
theorem dn_good (h : Gdo ky d n) (h2 : j ≤ i) (h3 : i < n) (hs : ∀ t, j ≤ t → t < i → ky (d i) < ky (d t)) : Gdo ky (rot d j i (i + 1)) n :=
  rot_good h h2 (by omega) (by omega) (fun s t s1 s2 t1 t2 => by
    obtain rfl : t = i := by omega
    exact hs s s1 s2)
theorem dn_at (h2 : j ≤ i) : rot d j i (i + 1) j = d i := by
  unfold rot; rw [show ro j i (i + 1) j = i by unfold ro; rw [if_pos (by omega), if_pos (by omega)]; omega]
theorem dn_below {t : Nat} (h : t < j) : rot d j i (i + 1) t = d t := by unfold rot; rw [ro_out (by omega)]
theorem dn_step (h : j < i) : sw (rot d (j + 1) i (i + 1)) (j + 1) j = rot d j i (i + 1) := by
  funext t
  unfold sw rot
  by_cases c : t = j + 1
  · rw [if_pos c]; subst c; congr 1; unfold ro; (repeat' split) <;> omega
  · rw [if_neg c]
    by_cases c2 : t = j
    · rw [if_pos c2]; subst c2; congr 1; unfold ro; (repeat' split) <;> omega
    · rw [if_neg c2]; congr 1; unfold ro; (repeat' split) <;> omega
theorem rot_id (d : D) (i : Nat) (h : a ≤ i) : rot d i i b = d := by
  funext t; unfold rot; congr 1; unfold ro; (repeat' split) <;> omega
theorem rot_idr (d : D) (a i : Nat) (h : a ≤ i) : rot d a i i = d := by
  funext t; unfold rot; congr 1; unfold ro; (repeat' split) <;> omega
/-- one place goes up -/
theorem up_sr (h : Sr ky d (a + 1) b) (h1 : a < i) (h2 : i ≤ b) (hs : ∀ t, a < t → t < i → ky (d t) < ky (d a)) (hj : i = b ∨ ky (d a) ≤ ky (d i)) : Sr ky (rot d a (a + 1) i) a b := by
  have hhi : ∀ s, i ≤ s → s < b → ky (d a) ≤ ky (d s) := fun s s1 s2 => by
    rcases hj with hj | hj
    · omega
    · by_cases c : s = i
      · rw [c]; exact hj
      · exact Int.le_trans hj (h i s (by omega) (by omega) (by omega))
  intro s t s1 st t2
  unfold rot
  by_cases c : i ≤ s
  · rw [ro_out (by omega), ro_out (by omega)]; exact h s t (by omega) st t2
  · by_cases c2 : s = i - 1
    · rw [show ro a (a + 1) i s = a by unfold ro; rw [if_pos (by omega), if_neg (by omega)]; omega, ro_out (by omega)]
      exact hhi t (by omega) t2
    · rw [show ro a (a + 1) i s = s + 1 by unfold ro; rw [if_pos (by omega), if_pos (by omega)]; omega]
      by_cases c3 : i ≤ t
      · rw [ro_out (by omega)]; exact h (s + 1) t (by omega) (by omega) (by omega)
      · by_cases c4 : t = i - 1
        · rw [show ro a (a + 1) i t = a by unfold ro; rw [if_pos (by omega), if_neg (by omega)]; omega]
          have := hs (s + 1) (by omega) (by omega)
          omega
        · rw [show ro a (a + 1) i t = t + 1 by unfold ro; rw [if_pos (by omega), if_pos (by omega)]; omega]
          exact h (s + 1) (t + 1) (by omega) (by omega) (by omega)
theorem up_good (h : Gdo ky d n) (h1 : a < i) (h3 : i ≤ n) (hs : ∀ t, a < t → t < i → ky (d t) < ky (d a)) : Gdo ky (rot d a (a + 1) i) n :=
  rot_good h (by omega) (by omega) (by omega) (fun s t s1 s2 t1 t2 => by
    obtain rfl : s = a := by omega
    exact hs t (by omega) t2)
theorem up_step {k : Nat} (h : a ≤ k) : sw (rot d a (a + 1) (k + 1)) k (k + 1) = rot d a (a + 1) (k + 2) := by
  funext t
  unfold sw rot
  by_cases c : t = k
  · rw [if_pos c]; subst c; congr 1; unfold ro; (repeat' split) <;> omega
  · rw [if_neg c]
    by_cases c2 : t = k + 1
    · rw [if_pos c2]; subst c2; congr 1; unfold ro; (repeat' split) <;> omega
    · rw [if_neg c2]; congr 1; unfold ro; (repeat' split) <;> omega
theorem rot_one (d : D) (a : Nat) : rot d a (a + 1) (a + 1) = d := rot_idr d a (a + 1) (by omega)
/-- the blocks' exchange, step by step -/
theorem rot_gt {x y : Nat} (h : y < x) (hx : x ≤ m) (hy : 0 < y) : rot (swr d (m - x) m y) (m - (x - y)) m (m + y) = rot d (m - x) m (m + y) := by
  funext t
  unfold rot swr ro
  (repeat' split) <;> first | omega | (congr 1; omega)
theorem rot_lt {x y : Nat} (h : x < y) (hx : x ≤ m) (hy : 0 < x) : rot (swr d (m - x) (m + y - x) x) (m - x) m (m + (y - x)) = rot d (m - x) m (m + y) := by
  funext t
  unfold rot swr ro
  (repeat' split) <;> first | omega | (congr 1; omega)
theorem rot_eq {x : Nat} (hx : x ≤ m) : swr d (m - x) m x = rot d (m - x) m (m + x) := by
  funext t
  unfold rot swr ro
  (repeat' split) <;> first | omega | (congr 1; omega)
theorem swr_zero (d : D) (x y : Nat) : swr d x y 0 = d := by
  funext t
  unfold swr
  rw [if_neg (by omega), if_neg (by omega)]
theorem swr_step {x y k : Nat} (h : x + k < y) (d : D) : sw (swr d x y k) (x + k) (y + k) = swr d x y (k + 1) := by
  funext t
  unfold sw swr
  (repeat' split) <;> first | omega | rfl | (congr 1; omega)
theorem up_at {k : Nat} (h : a ≤ k) : rot d a (a + 1) (k + 1) k = d a := by
  unfold rot; rw [show ro a (a + 1) (k + 1) k = a by unfold ro; rw [if_pos (by omega), if_neg (by omega)]; omega]
theorem up_above {k t : Nat} (h : k < t) : rot d a (a + 1) (k + 1) t = d t := by unfold rot; rw [ro_out (by omega)]
theorem sw_comm (d : D) (i j : Nat) : sw d i j = sw d j i := by
  funext t
  unfold sw
  (repeat' split) <;> first | rfl | (congr 1; omega)
end Go.Proofs.Ytgkahcchekiogaa.Rto

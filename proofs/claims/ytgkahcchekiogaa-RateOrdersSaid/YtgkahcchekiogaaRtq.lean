/- Plain: the merge; the order is one. -/
import Derived.Test.YtgkahcchekiogaaRto
namespace Go.Proofs.Ytgkahcchekiogaa.Rtq
open Rto
set_option linter.unusedVariables false
variable {ky : Nat → Int} {d d1 d2 d3 : D} {n a b m s e mid : Nat}
/-- what a merge's search found -/
structure Mg (ky : Nat → Int) (d : D) (n a m b s e mid : Nat) : Prop where
  g : Gdo ky d n
  am : a < m
  mb : m < b
  bn : b ≤ n
  l : Sr ky d a m
  r : Sr ky d m b
  hm : mid = (a + b) / 2
  se : s + e = mid + m
  s1 : a ≤ s
  s2 : s ≤ m
  s3 : s ≤ mid
  e1 : m ≤ e
  e2 : e ≤ b
  ii : s = a ∨ e = b ∨ ky (d (s - 1)) ≤ ky (d e)
  iii : s = m ∨ e = m ∨ ky (d (e - 1)) < ky (d s)
theorem Mg.le (h : Mg ky d n a m b s e mid) {t u : Nat} (t1 : a ≤ t) (tu : t ≤ u) (u2 : u < m) : ky (d t) ≤ ky (d u) := by
  by_cases c : t = u
  · rw [c]; omega
  · exact h.l t u t1 (by omega) u2
theorem Mg.le' (h : Mg ky d n a m b s e mid) {t u : Nat} (t1 : m ≤ t) (tu : t ≤ u) (u2 : u < b) : ky (d t) ≤ ky (d u) := by
  by_cases c : t = u
  · rw [c]; omega
  · exact h.r t u t1 (by omega) u2
theorem Mg.sep (h : Mg ky d n a m b s e mid) (u t : Nat) (u1 : s ≤ u) (u2 : u < m) (t1 : m ≤ t) (t2 : t < e) : ky (d t) < ky (d u) := by
  have := h.s1
  have := h.e2
  rcases h.iii with c | c | c
  · omega
  · omega
  · have := h.le' t1 (show t ≤ e - 1 by omega) (by omega)
    have := h.le h.s1 u1 u2
    omega
theorem Mg.far (h : Mg ky d n a m b s e mid) (t u : Nat) (t1 : a ≤ t) (t2 : t < s) (u1 : e ≤ u) (u2 : u < b) : ky (d t) ≤ ky (d u) := by
  have := h.s2
  have := h.e1
  rcases h.ii with c | c | c
  · omega
  · omega
  · have := h.le t1 (show t ≤ s - 1 by omega) (by omega)
    have := h.le' h.e1 u1 u2
    omega
theorem Mg.good (h : Mg ky d n a m b s e mid) : Gdo ky (rot d s m e) n := rot_good h.g h.s2 h.e1 (by have := h.e2; have := h.bn; omega) (fun u t u1 u2 t1 t2 => h.sep u t u1 u2 t1 t2)
theorem Mg.mv (h : Mg ky d n a m b s e mid) : Mv d (rot d s m e) a b := (rot_mv h.s2 h.e1).mono h.s1 h.e2
theorem Mg.lo (h : Mg ky d n a m b s e mid) {t : Nat} (t2 : t < s) : rot d s m e t = d t := by unfold rot; rw [ro_out (by omega)]
theorem Mg.hi (h : Mg ky d n a m b s e mid) {t : Nat} (t2 : e ≤ t) : rot d s m e t = d t := by unfold rot; rw [ro_out (by omega)]
theorem Mg.ml (h : Mg ky d n a m b s e mid) {t : Nat} (t1 : s ≤ t) (t2 : t < mid) : rot d s m e t = d (t + (m - s)) := by
  have := h.se; have := h.s2; have := h.e1; have := h.s3
  unfold rot ro; rw [if_pos (by omega), if_pos (by omega)]
theorem Mg.mr (h : Mg ky d n a m b s e mid) {t : Nat} (t1 : mid ≤ t) (t2 : t < e) : rot d s m e t = d (t - (e - m)) := by
  have := h.se; have := h.s2; have := h.e1; have := h.s3
  unfold rot ro; rw [if_pos (by omega), if_neg (by omega)]
theorem Mg.me (h : Mg ky d n a m b s e mid) : mid ≤ e := by have := h.se; have := h.s2; omega
theorem Mg.sl (h : Mg ky d n a m b s e mid) : Sr ky (rot d s m e) a s := fun t u t1 tu u2 => by
  rw [h.lo (by omega), h.lo u2]; exact h.l t u t1 tu (by have := h.s2; omega)
theorem Mg.sml (h : Mg ky d n a m b s e mid) : Sr ky (rot d s m e) s mid := fun t u t1 tu u2 => by
  have := h.se; have := h.s2; have := h.e2
  rw [h.ml t1 (by omega), h.ml (by omega) u2]; exact h.r _ _ (by omega) (by omega) (by omega)
theorem Mg.smr (h : Mg ky d n a m b s e mid) : Sr ky (rot d s m e) mid e := fun t u t1 tu u2 => by
  have := h.se; have := h.s2; have := h.e2; have := h.s1; have := h.s3; have := h.e1
  rw [h.mr t1 (by omega), h.mr (by omega) u2]; exact h.l _ _ (by omega) (by omega) (by omega)
theorem Mg.shr (h : Mg ky d n a m b s e mid) : Sr ky (rot d s m e) e b := fun t u t1 tu u2 => by
  rw [h.hi t1, h.hi (by omega)]; exact h.r t u (by have := h.e1; omega) tu u2
theorem Mg.lx (h : Mg ky d n a m b s e mid) (hn : ¬ (a < s ∧ s < mid)) : Sr ky (rot d s m e) a mid := by
  have := h.s1; have := h.s3
  by_cases c : a < s
  · obtain rfl : s = mid := by omega
    exact h.sl
  · obtain rfl : a = s := by omega
    exact h.sml
theorem Mg.rx (h : Mg ky d n a m b s e mid) (hn : ¬ (mid < e ∧ e < b)) : Sr ky (rot d s m e) mid b := by
  have := h.me; have := h.e2
  by_cases c : mid < e
  · obtain rfl : e = b := by omega
    exact h.smr
  · obtain rfl : mid = e := by omega
    exact h.shr
theorem Mg.cross (h : Mg ky d n a m b s e mid) (t u : Nat) (t1 : a ≤ t) (t2 : t < mid) (u1 : mid ≤ u) (u2 : u < b) : ky (rot d s m e t) ≤ ky (rot d s m e u) := by
  have := h.se; have := h.s2; have := h.e2; have := h.s1; have := h.s3; have := h.e1
  by_cases c : t < s
  · rw [h.lo c]
    by_cases c2 : u < e
    · rw [h.mr u1 c2]; exact h.l _ _ t1 (by omega) (by omega)
    · rw [h.hi (by omega)]; exact h.far t u t1 c (by omega) u2
  · rw [h.ml (by omega) t2]
    by_cases c2 : u < e
    · rw [h.mr u1 c2]; exact Int.le_of_lt (h.sep _ _ (by omega) (by omega) (by omega) (by omega))
    · rw [h.hi (by omega)]; exact h.r _ _ (by omega) (by omega) (by omega)
theorem sr_out (h : Sr ky d1 a b) (k : ∀ t, a ≤ t → t < b → d2 t = d1 t) : Sr ky d2 a b := fun t u t1 tu u2 => by
  rw [k t t1 (by omega), k u (by omega) u2]; exact h t u t1 tu u2
theorem Mg.fin (h : Mg ky d n a m b s e mid) (k1 : Mv (rot d s m e) d2 a mid) (q1 : Sr ky d2 a mid) (k2 : Mv d2 d3 mid b) (q2 : Sr ky d3 mid b) : Sr ky d3 a b ∧ Mv d d3 a b := by
  have := h.hm; have := h.am; have := h.mb
  refine ⟨fun t u t1 tu u2 => ?_, (h.mv.trans (k1.mono (Nat.le_refl _) (by omega))).trans (k2.mono (by omega) (Nat.le_refl _))⟩
  by_cases c : u < mid
  · rw [k2.out t (by omega), k2.out u (by omega)]; exact q1 t u t1 tu c
  · by_cases c2 : mid ≤ t
    · exact q2 t u c2 tu u2
    · obtain ⟨t', p1, p2, p3⟩ := k1.inn t t1 (by omega)
      obtain ⟨u', r1, r2, r3⟩ := k2.inn u (by omega) u2
      rw [k2.out t (by omega), p3, r3, k1.out u' (by omega)]
      exact h.cross t' u' p1 p2 r1 r2
/-- the whole order -/
def lx (ky : Nat → Int) (k i : Nat) : Bool := decide (ky k < ky i ∨ (ky k = ky i ∧ k < i))
def rk (ky : Nat → Int) (K i : Nat) : Nat := (List.range K).countP fun k => lx ky k i
theorem rk_succ (ky : Nat → Int) (K i : Nat) : rk ky (K + 1) i = rk ky K i + (if lx ky K i = true then 1 else 0) := by
  unfold rk
  rw [List.range_succ, List.countP_append, List.countP_singleton]
theorem rk_le (ky : Nat → Int) (K i : Nat) : rk ky K i ≤ K := by
  have := List.countP_le_length (p := fun k => lx ky k i) (l := List.range K)
  simpa [rk] using this
theorem rk_lt (ky : Nat → Int) {K i : Nat} (h : i < K) : rk ky K i < K := by
  induction K with
  | zero => omega
  | succ K ih =>
    rw [rk_succ]
    by_cases c : i = K
    · subst c
      have := rk_le ky i i
      rw [if_neg (by simp [lx])]; omega
    · have := ih (by omega)
      split <;> omega
theorem lx_sorted (h : Gdo ky d n) (hs : Sr ky d 0 n) {i j : Nat} (hij : i < j) (hj : j < n) : lx ky (d i) (d j) = true := by
  have h1 := hs i j (Nat.zero_le _) hij hj
  by_cases c : ky (d i) = ky (d j)
  · have := h.st i j hij hj c
    simp [lx, c, this]
  · simp only [lx, decide_eq_true_eq]; omega
theorem lx_iff (h : Gdo ky d n) (hs : Sr ky d 0 n) {i j : Nat} (hi : i < n) (hj : j < n) : lx ky (d i) (d j) = decide (i < j) := by
  by_cases c : i < j
  · rw [lx_sorted h hs c hj]; simp [c]
  · by_cases c2 : i = j
    · subst c2; simp [lx]
    · have := lx_sorted h hs (show j < i by omega) hi
      simp only [lx, decide_eq_true_eq] at this
      simp only [lx, c, decide_false, decide_eq_false_iff_not]
      omega
theorem count_lt (n t : Nat) (h : t ≤ n) : (List.range n).countP (fun s => decide (s < t)) = t := by
  induction n with
  | zero => simp; omega
  | succ n ih =>
    rw [List.range_succ, List.countP_append, List.countP_singleton]
    by_cases c : t = n + 1
    · subst c
      have : (List.range n).countP (fun s => decide (s < n + 1)) = n := by
        rw [List.countP_eq_length.2]
        · simp
        · intro a ha; have := List.mem_range.1 ha; simp; omega
      rw [this]; simp
    · rw [ih (by omega)]; simp; omega
theorem perm_of : ∀ {l1 l2 : List Nat}, l1.Nodup → l1 ⊆ l2 → l2.length ≤ l1.length → l1.Perm l2
  | [], l2, _, _, h => by
    have : l2 = [] := List.length_eq_zero_iff.1 (by simpa using h)
    rw [this]
  | a :: l1, l2, hn, hs, h => by
    have ha : a ∈ l2 := hs (by simp)
    obtain ⟨n1, n2⟩ := List.nodup_cons.1 hn
    refine List.Perm.trans (List.Perm.cons a (perm_of n2 (fun x hx => ?_) ?_)) (List.perm_cons_erase ha).symm
    · exact (List.mem_erase_of_ne (fun e => n1 (by rw [← e]; exact hx))).2 (hs (by simp [hx]))
    · rw [List.length_erase_of_mem ha]; simp at h; omega
theorem nodup_map : ∀ (l : List Nat), (∀ i j, i ∈ l → j ∈ l → d i = d j → i = j) → l.Nodup → (l.map d).Nodup
  | [], _, _ => by simp
  | a :: l, hi, hn => by
    obtain ⟨n1, n2⟩ := List.nodup_cons.1 hn
    rw [List.map_cons, List.nodup_cons]
    refine ⟨fun hx => ?_, nodup_map l (fun i j h1 h2 e => hi i j (by simp [h1]) (by simp [h2]) e) n2⟩
    obtain ⟨x, x1, x2⟩ := List.mem_map.1 hx
    have := hi x a (by simp [x1]) (by simp) x2
    exact n1 (by rw [← this]; exact x1)
theorem perm_map (h : Pm d n) : ((List.range n).map d).Perm (List.range n) := by
  refine perm_of (nodup_map _ (fun i j hi hj e => h.2 i j (List.mem_range.1 hi) (List.mem_range.1 hj) e) List.nodup_range) (fun x hx => ?_) (by simp)
  obtain ⟨i, hi, rfl⟩ := List.mem_map.1 hx
  exact List.mem_range.2 (h.1 i (List.mem_range.1 hi))
theorem rk_at (h : Gdo ky d n) (hs : Sr ky d 0 n) {t : Nat} (ht : t < n) : rk ky n (d t) = t := by
  unfold rk
  rw [← (perm_map h.pm).countP_eq, List.countP_map]
  rw [← count_lt n t (by omega)]
  apply List.countP_congr
  intro s hs2
  have := lx_iff h hs (List.mem_range.1 hs2) ht
  simp [this, count_lt n t (by omega)]
end Go.Proofs.Ytgkahcchekiogaa.Rtq

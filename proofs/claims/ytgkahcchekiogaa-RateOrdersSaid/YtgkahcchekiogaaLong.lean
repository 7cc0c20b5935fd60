/- School multiplication and long division to the base 65536 and 2: plain laws. -/
namespace Go.Proofs.Ytgkahcchekiogaa.Long
set_option linter.unusedSimpArgs false

def dg (a : Nat) (j : Nat) : Nat := a / 65536 ^ j % 65536
theorem dg_lt (a j : Nat) : dg a j < 65536 := Nat.mod_lt _ (by omega)
theorem div_succ (a k : Nat) : a / 65536 ^ k / 65536 = a / 65536 ^ (k + 1) := by rw [Nat.div_div_eq_div_mul, Nat.pow_succ]

def val : Nat → (Nat → Nat) → Nat
  | 0, _ => 0
  | n + 1, o => o 0 + 65536 * val n fun j => o (j + 1)
def put (o : Nat → Nat) (i v : Nat) : Nat → Nat := fun j => if j = i then v else o j

theorem val_put : ∀ (n : Nat) (o : Nat → Nat) (i v : Nat), i < n → val n (put o i v) + o i * 65536 ^ i = val n o + v * 65536 ^ i
  | n + 1, o, 0, v, _ => by
    have : (fun j => put o 0 v (j + 1)) = fun j => o (j + 1) := by funext j; simp [put]
    simp only [val, this]
    simp [put]; omega
  | n + 1, o, i + 1, v, h => by
    have ih := val_put n (fun j => o (j + 1)) i v (by omega)
    have : (fun j => put o (i + 1) v (j + 1)) = put (fun j => o (j + 1)) i v := by funext j; simp [put]
    simp only [val, this]
    have e0 : put o (i + 1) v 0 = o 0 := by simp [put]
    rw [e0, Nat.pow_succ, ← Nat.mul_assoc, ← Nat.mul_assoc]
    omega
theorem val_dig : ∀ (n : Nat) (o : Nat → Nat) (i : Nat), (∀ j, j < n → o j < 65536) → i < n → val n o / 65536 ^ i % 65536 = o i
  | n + 1, o, 0, h, _ => by have := h 0 (by omega); simp only [val, Nat.pow_zero, Nat.div_one]; omega
  | n + 1, o, i + 1, h, hi => by
    have ih := val_dig n (fun j => o (j + 1)) i (fun j hj => h (j + 1) (by omega)) (by omega)
    have := h 0 (by omega)
    have e : val (n + 1) o / 65536 = val n fun j => o (j + 1) := by simp only [val]; omega
    rw [Nat.pow_succ, Nat.mul_comm, ← Nat.div_div_eq_div_mul, e]
    exact ih
theorem val_zero : ∀ n, val n (fun _ => 0) = 0
  | 0 => rfl
  | n + 1 => by simp [val, val_zero n]

/-- within row i, ahead of digit k -/
structure In (a b i k : Nat) (o : Nat → Nat) (carry : Nat) : Prop where
  dig : ∀ j, j < 9 → o j < 65536
  car : carry < 65536
  sum : val 9 o + carry * 65536 ^ (i + k) = (a % 65536 ^ i) * b + dg a i * (b % 65536 ^ k) * 65536 ^ i

theorem In.start {a b i : Nat} {o : Nat → Nat} (hd : ∀ j, j < 9 → o j < 65536) (hs : val 9 o = (a % 65536 ^ i) * b) : In a b i 0 o 0 :=
  ⟨hd, by omega, by simp [hs, Nat.mod_one]⟩

theorem mod_succ (b k : Nat) : b % 65536 ^ (k + 1) = b % 65536 ^ k + 65536 ^ k * dg b k := Nat.mod_pow_succ

theorem In.le {a b i k : Nat} {o : Nat → Nat} {carry : Nat} (h : In a b i k o carry) (hk : i + k < 9) : o (i + k) + dg a i * dg b k + carry < 4294967296 := by
  have h1 := h.dig _ hk
  have h2 := h.car
  have h3 : dg a i * dg b k ≤ 65535 * 65535 := Nat.mul_le_mul (by have := dg_lt a i; omega) (by have := dg_lt b k; omega)
  omega

theorem In.next {a b i k : Nat} {o : Nat → Nat} {carry : Nat} (h : In a b i k o carry) (hk : i + k < 9) :
    In a b i (k + 1) (put o (i + k) ((o (i + k) + dg a i * dg b k + carry) % 65536)) ((o (i + k) + dg a i * dg b k + carry) / 65536) := by
  have hle := h.le hk
  generalize hs : o (i + k) + dg a i * dg b k + carry = s at *
  refine ⟨fun j hj => ?_, by omega, ?_⟩
  · unfold put; split
    · omega
    · exact h.dig j hj
  · have e := val_put 9 o (i + k) (s % 65536) hk
    have hsum := h.sum
    rw [mod_succ, Nat.mul_add, Nat.add_mul, ← Nat.add_assoc (a % 65536 ^ i * b), ← hsum]
    have e2 : dg a i * (65536 ^ k * dg b k) * 65536 ^ i = dg a i * dg b k * 65536 ^ (i + k) := by
      rw [Nat.pow_add]; simp only [Nat.mul_assoc, Nat.mul_comm, Nat.mul_left_comm]
    have e3 : s / 65536 * 65536 ^ (i + (k + 1)) = (s / 65536 * 65536) * 65536 ^ (i + k) := by
      rw [← Nat.add_assoc, Nat.pow_succ, Nat.mul_assoc, Nat.mul_comm 65536]
    rw [e2, e3]
    generalize 65536 ^ (i + k) = T at *
    have e4 : s * T = o (i + k) * T + dg a i * dg b k * T + carry * T := by rw [← hs, Nat.add_mul, Nat.add_mul]
    have e5 : s * T = s % 65536 * T + (s / 65536 * 65536) * T := by rw [← Nat.add_mul]; congr 1; omega
    omega

theorem In.done {a b i : Nat} {o : Nat → Nat} {carry : Nat} (h : In a b i 5 o carry) (hb : b < 18446744073709551616) : val 9 o = (a % 65536 ^ (i + 1)) * b := by
  have hsum := h.sum
  have e1 : b % 65536 ^ 5 = b := Nat.mod_eq_of_lt (by omega)
  have e2 : (a % 65536 ^ (i + 1)) * b = (a % 65536 ^ i) * b + dg a i * b * 65536 ^ i := by
    rw [mod_succ, Nat.add_mul]; congr 1; simp only [Nat.mul_assoc, Nat.mul_comm, Nat.mul_left_comm]
  rw [e1, ← e2] at hsum
  have hlt : (a % 65536 ^ (i + 1)) * b < 65536 ^ (i + 5) := by
    have h1 : a % 65536 ^ (i + 1) < 65536 ^ (i + 1) := Nat.mod_lt _ (Nat.pow_pos (by omega))
    have e : (65536 : Nat) ^ (i + 5) = 65536 ^ (i + 1) * 18446744073709551616 := by rw [show i + 5 = (i + 1) + 4 from rfl, Nat.pow_add (n := 4)]
    rw [e]
    exact Nat.mul_lt_mul_of_lt_of_le h1 (by omega) (by omega)
  cases carry with
  | zero => simpa using hsum
  | succ c =>
    rw [Nat.succ_mul] at hsum
    omega

theorem row_done {a b : Nat} {o : Nat → Nat} (h : val 9 o = (a % 65536 ^ 4) * b) (ha : a < 18446744073709551616) (hd : ∀ j, j < 9 → o j < 65536) : ∀ j, j < 9 → o j = dg (a * b) j := by
  intro j hj
  rw [Nat.mod_eq_of_lt (by omega)] at h
  rw [dg, ← h, val_dig 9 o j hd hj]

/-- a digit's bit is the number's -/
theorem bit_dg (N k : Nat) : dg N (k / 16) / 2 ^ (k % 16) % 2 = N / 2 ^ k % 2 := by
  have e : N / 2 ^ k = N / 65536 ^ (k / 16) / 2 ^ (k % 16) := by
    have e1 : (65536 : Nat) ^ (k / 16) = 2 ^ (16 * (k / 16)) := by rw [Nat.pow_mul]
    rw [Nat.div_div_eq_div_mul, e1, ← Nat.pow_add, Nat.div_add_mod]
  rw [e, dg]
  generalize N / 65536 ^ (k / 16) = D
  have hr : k % 16 < 16 := Nat.mod_lt _ (by omega)
  have e2 : (65536 : Nat) = 2 ^ (k % 16) * (2 ^ (15 - k % 16) * 2) := by
    rw [← Nat.pow_succ, ← Nat.pow_add, show k % 16 + (15 - k % 16).succ = 16 from by omega]
  have e3 : D / 2 ^ (k % 16) = D % 65536 / 2 ^ (k % 16) + 2 ^ (15 - k % 16) * 2 * (D / 65536) := by
    conv => lhs; rw [← Nat.mod_add_div D 65536]
    conv => lhs; rw [show D % 65536 + 65536 * (D / 65536) = D % 65536 + 2 ^ (k % 16) * (2 ^ (15 - k % 16) * 2 * (D / 65536)) from by rw [← Nat.mul_assoc, ← e2]]
    rw [Nat.add_mul_div_left _ _ (Nat.two_pow_pos _)]
  rw [e3]
  have : 2 ^ (15 - k % 16) * 2 * (D / 65536) = 2 * (2 ^ (15 - k % 16) * (D / 65536)) := by simp only [Nat.mul_assoc, Nat.mul_comm, Nat.mul_left_comm]
  omega

/-- long division to the base 2: ahead of bit k -/
structure At (N c k : Nat) (q left : Nat) (over : Bool) : Prop where
  l : left = N / 2 ^ k % c
  no : over = false → q = N / 2 ^ k / c ∧ q ≤ 9223372036854775807
  yes : over = true → 9223372036854775807 < N / 2 ^ k / c
  q0 : q ≤ 9223372036854775807

theorem At.start (N c : Nat) (hN : N < 2 ^ 144) : At N c 144 0 0 false :=
  ⟨by rw [Nat.div_eq_of_lt hN]; simp, fun _ => ⟨by rw [Nat.div_eq_of_lt hN]; simp, by omega⟩, (fun h => by cases h), by omega⟩

theorem two_step (N k : Nat) : N / 2 ^ k = 2 * (N / 2 ^ (k + 1)) + N / 2 ^ k % 2 := by
  rw [Nat.pow_succ, ← Nat.div_div_eq_div_mul]; omega

theorem div_step {M c t : Nat} (hc : 0 < c) (ht : t < 2) :
    (2 * M + t) % c = (if c ≤ 2 * (M % c) + t then 2 * (M % c) + t - c else 2 * (M % c) + t) ∧
    (2 * M + t) / c = 2 * (M / c) + (if c ≤ 2 * (M % c) + t then 1 else 0) := by
  have hm := Nat.mod_lt M hc
  have e : 2 * M + t = c * (2 * (M / c)) + (2 * (M % c) + t) := by
    have e0 := Nat.div_add_mod M c
    have e1 : c * (2 * (M / c)) = 2 * (c * (M / c)) := by simp only [Nat.mul_left_comm]
    omega
  rw [e, Nat.mul_add_mod, Nat.mul_add_div hc]
  split
  · rename_i h
    have h1 : (2 * (M % c) + t) = c + (2 * (M % c) + t - c) := by omega
    have h2 : 2 * (M % c) + t - c < c := by omega
    constructor
    · conv => lhs; rw [h1]
      rw [Nat.add_mod_left, Nat.mod_eq_of_lt h2]
    · conv => lhs; rw [h1]
      rw [Nat.add_div_left _ hc, Nat.div_eq_of_lt h2]
  · have hlt : 2 * (M % c) + t < c := by omega
    rw [Nat.mod_eq_of_lt hlt, Nat.div_eq_of_lt hlt]; exact ⟨rfl, rfl⟩

/-- a bit more; 'one': the quotient's bit -/
theorem At.next {N c k q left : Nat} {over : Bool} {one : Nat} (h : At N c (k + 1) q left over) (hc : 0 < c)
    (l2 : Nat) (hl : l2 = 2 * left + N / 2 ^ k % 2) (hone : one = if c ≤ l2 then 1 else 0) :
    At N c k (if (over || decide (4611686018427387903 < q)) = true then q else 2 * q + one) (if c ≤ l2 then l2 - c else l2) (over || decide (4611686018427387903 < q)) := by
  have ht : N / 2 ^ k % 2 < 2 := Nat.mod_lt _ (by omega)
  have s := div_step (M := N / 2 ^ (k + 1)) (t := N / 2 ^ k % 2) hc ht
  rw [← two_step, ← h.l, ← hl] at s
  rw [← hone] at s
  have h1 : one ≤ 1 := by rw [hone]; split <;> omega
  refine ⟨s.1.symm, fun ho => ?_, fun ho => ?_, ?_⟩
  · rw [Bool.or_eq_false_iff, decide_eq_false_iff_not] at ho
    obtain ⟨e, b⟩ := h.no ho.1
    rw [if_neg (by simp [ho.1]; omega)]
    rw [s.2, ← e]
    exact ⟨rfl, by omega⟩
  · rw [s.2]
    cases hov : over with
    | true => have := h.yes hov; omega
    | false =>
      rw [hov, Bool.false_or, decide_eq_true_iff] at ho
      obtain ⟨e, b⟩ := h.no hov
      omega
  · have := h.q0
    split
    · omega
    · rename_i hn
      have : ¬ 4611686018427387903 < q := fun hh => hn (by simp [hh])
      omega

theorem At.next' {N c k q left : Nat} {over : Bool} (h : At N c (k + 1) q left over) (hc : 0 < c) {t l2 one q' left' : Nat} {over' : Bool} (ht : N / 2 ^ k % 2 = t) (hl : l2 = 2 * left + t)
    (h1 : (c ≤ l2 ∧ one = 1 ∧ left' = l2 - c) ∨ (l2 < c ∧ one = 0 ∧ left' = l2))
    (h2 : (over' = true ∧ q' = q ∧ (over = true ∨ 4611686018427387903 < q)) ∨ (over' = false ∧ over = false ∧ q ≤ 4611686018427387903 ∧ q' = 2 * q + one)) : At N c k q' left' over' := by
  have hone : one = if c ≤ l2 then 1 else 0 := by
    rcases h1 with ⟨a, b, _⟩ | ⟨a, b, _⟩
    · rw [if_pos a, b]
    · rw [if_neg (by omega), b]
  have n := h.next hc l2 (by rw [ht]; exact hl) hone
  have hleft : left' = if c ≤ l2 then l2 - c else l2 := by
    rcases h1 with ⟨a, _, b⟩ | ⟨a, _, b⟩
    · rw [if_pos a, b]
    · rw [if_neg (by omega), b]
  rw [← hleft] at n
  rcases h2 with ⟨rfl, rfl, b⟩ | ⟨rfl, rfl, b, rfl⟩
  · have e : (over || decide (4611686018427387903 < q')) = true := by
      rcases b with rfl | b
      · rfl
      · simp [b]
    rw [e] at n; exact n
  · have e : (false || decide (4611686018427387903 < q)) = false := by simp; omega
    rw [e] at n; exact n

/-- rounding up is one more, just if something is left -/
theorem ceil (N c : Nat) (hc : 0 < c) : (N + (c - 1)) / c = if 0 < N % c then N / c + 1 else N / c := by
  have e := Nat.div_add_mod N c
  have hm := Nat.mod_lt N hc
  split
  · rename_i h
    have : N + (c - 1) = c * (N / c + 1) + (N % c - 1) := by rw [Nat.mul_add]; omega
    rw [this, Nat.mul_add_div hc, Nat.div_eq_of_lt (show N % c - 1 < c by omega)]
  · have : N + (c - 1) = c * (N / c) + (c - 1) := by omega
    rw [this, Nat.mul_add_div hc, Nat.div_eq_of_lt (show c - 1 < c by omega), Nat.add_zero]
theorem small (N c : Nat) (hN : N ≤ 9223372036854775807) (hr : 0 < N % c) : N / c ≤ 4611686018427387903 := by
  by_cases h0 : c = 0
  · subst h0; simp
  · by_cases h1 : c = 1
    · subst h1; simp [Nat.mod_one] at hr
    · have : N / c ≤ N / 2 := Nat.div_le_div_left (by omega) (by omega)
      omega

theorem At.left_lt {N c k q left : Nat} {over : Bool} (h : At N c k q left over) (hc : 0 < c) : left < c := by rw [h.l]; exact Nat.mod_lt _ hc
end Go.Proofs.Ytgkahcchekiogaa.Long

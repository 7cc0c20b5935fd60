/- Agenda: what was dropped; plain. -/
import Derived.Test.YtlafeijkpnpdeaaAgj
import Derived.Test.YtlafeijkpnpdeaaAgn
namespace Go.Proofs.Ytlafeijkpnpdeaa.Ago
open Go.RowKit Base Kit RefA Alt Held Agp Aga Agb Agc Agd Age Agf Agg Agh Agi Agj Agn
set_option linter.unusedVariables false
set_option linter.unusedSimpArgs false
theorem mem_sq (f : Nat → Int) : ∀ (n : Nat) (e : E), e ∈ sq f n ↔ ∃ k : Nat, k < n ∧ e = (f k, (k : Int) + 1, (k : Int))
  | 0, e => ⟨fun h => (by simp [sq] at h), fun ⟨k, h, _⟩ => absurd h (Nat.not_lt_zero k)⟩
  | n + 1, e => by
    have ih := mem_sq f n e
    unfold sq
    rw [(ins_perm _ _).mem_iff, List.mem_append, ih, List.mem_singleton]
    constructor
    · rintro (⟨k, h1, h2⟩ | h)
      · exact ⟨k, by omega, h2⟩
      · exact ⟨n, by omega, h⟩
    · rintro ⟨k, h1, h2⟩
      by_cases e2 : k = n
      · subst e2; exact .inr h2
      · exact .inl ⟨k, by omega, h2⟩
/-- what is left, if some are gone -/
structure Gi (f : Nat → Int) (n : Nat) (S : List E) (G : Nat → Bool) : Prop where
  mem : ∀ e, e ∈ S ↔ ∃ k : Nat, k < n ∧ e = (f k, (k : Int) + 1, (k : Int)) ∧ G (k + 1) = false
theorem gi_init (f : Nat → Int) (n : Nat) : Gi f n (sq f n) (fun _ => false) := ⟨fun e => by rw [mem_sq]; exact ⟨fun ⟨k, a, b⟩ => ⟨k, a, b, rfl⟩, fun ⟨k, a, b, _⟩ => ⟨k, a, b⟩⟩⟩
theorem gi_has {f : Nat → Int} {n : Nat} {S : List E} {G : Nat → Bool} (g : Gi f n S G) (i : Nat) : has (i : Int) S = true ↔ 1 ≤ i ∧ i ≤ n ∧ G i = false := by
  rw [has_iff]
  constructor
  · rintro ⟨e, he, h⟩
    obtain ⟨k, a, b, c⟩ := (g.mem e).1 he
    rw [b] at h
    dsimp only at h
    obtain rfl : i = k + 1 := by omega
    exact ⟨by omega, by omega, c⟩
  · rintro ⟨h1, h2, h3⟩
    obtain ⟨k, rfl⟩ : ∃ k, i = k + 1 := ⟨i - 1, by omega⟩
    exact ⟨(f k, (k : Int) + 1, (k : Int)), (g.mem _).2 ⟨k, by omega, rfl, h3⟩, by simp⟩
def upd (G : Nat → Bool) (i : Nat) : Nat → Bool := fun j => if j = i then true else G j
theorem gi_del {f : Nat → Int} {n : Nat} {S : List E} {G : Nat → Bool} (g : Gi f n S G) (i : Nat) : Gi f n (del (i : Int) S) (upd G i) := ⟨fun e => by
  unfold del
  rw [List.mem_filter, g.mem]
  constructor
  · rintro ⟨⟨k, a, b, c⟩, h⟩
    refine ⟨k, a, b, ?_⟩
    rw [b] at h
    simp at h
    unfold upd
    rw [if_neg (by omega)]; exact c
  · rintro ⟨k, a, b, c⟩
    unfold upd at c
    by_cases e2 : k + 1 = i
    · rw [if_pos e2] at c; cases c
    · rw [if_neg e2] at c
      refine ⟨⟨k, a, b, c⟩, ?_⟩
      rw [b]
      simp
      omega⟩
theorem gi_at {f : Nat → Int} {n : Nat} {S : List E} {G : Nat → Bool} (g : Gi f n S G) {k : Nat} (hk : k < S.length) : ∃ K : Nat, K < n ∧ at_ S k = (f K, (K : Int) + 1, (K : Int)) ∧ G (K + 1) = false := (g.mem _).1 (at_mem hk)
/-- what is gone, once the first ones came -/
def gl (G : Nat → Bool) (S : List E) : Nat → Nat → Bool
  | 0 => G
  | k + 1 => upd (gl G S k) (at_ S k).2.1.toNat
theorem gl_mono {G : Nat → Bool} {S : List E} {j : Nat} : ∀ {a b : Nat}, a ≤ b → gl G S a j = true → gl G S b j = true := by
  intro a b h
  induction h with
  | refl => exact id
  | step h ih =>
    intro h2
    unfold gl upd
    split
    · rfl
    · exact ih h2
theorem one_at {S : List E} (h : one S) {i k : Nat} (hi : i < k) (hk : k < S.length) : (at_ S i).2.1 ≠ (at_ S k).2.1 := by
  rw [at_lt (by omega), at_lt hk]
  exact List.pairwise_iff_getElem.1 h i k (by omega) hk hi
theorem srt_lt {S : List E} (h : srt S) {i k : Nat} (hi : i < k) (hk : k < S.length) : lt (at_ S i) (at_ S k) := by
  rw [at_lt (by omega), at_lt hk]
  exact List.pairwise_iff_getElem.1 h i k (by omega) hk hi
theorem gl_false {f : Nat → Int} {n : Nat} {S : List E} {G : Nat → Bool} (g : Gi f n S G) (o : one S) {k K : Nat} (hk : k < S.length) (e : (at_ S k).2.1 = (K : Int) + 1) (hG : G (K + 1) = false) : ∀ t, t ≤ k → gl G S t (K + 1) = false
  | 0, _ => hG
  | t + 1, ht => by
    have ih := gl_false g o hk e hG t (by omega)
    have ne := one_at o (show t < k by omega) hk
    obtain ⟨K2, _, e2, _⟩ := gi_at g (show t < S.length by omega)
    unfold gl upd
    rw [if_neg (by rw [e2] at ne ⊢; dsimp only at ne ⊢; omega)]
    exact ih
theorem gl_true {f : Nat → Int} {n : Nat} {S : List E} {G : Nat → Bool} (g : Gi f n S G) {j : Nat} (h1 : 1 ≤ j) (h2 : j ≤ n) : gl G S S.length j = true := by
  cases hG : G j
  · obtain ⟨k, rfl⟩ : ∃ k, j = k + 1 := ⟨j - 1, by omega⟩
    have hm := (g.mem (f k, (k : Int) + 1, (k : Int))).2 ⟨k, by omega, rfl, hG⟩
    obtain ⟨i, hi, e⟩ := List.getElem_of_mem hm
    have e2 : at_ S i = (f k, (k : Int) + 1, (k : Int)) := by rw [at_lt hi, e]
    refine gl_mono (show i + 1 ≤ S.length by omega) ?_
    unfold gl upd
    rw [if_pos (by rw [e2]; simp)]
  · exact gl_mono (Nat.zero_le _) hG
theorem due_max {f : Nat → Int} {n : Nat} {S : List E} {G : Nat → Bool} (g : Gi f n S G) (hf : ∀ k, k < n → f k ≤ 9223372036854775807) : dueS 9223372036854775807 S = S ∧ rstS 9223372036854775807 S = [] := by
  have h : ∀ e, e ∈ S → e.1 ≤ 9223372036854775807 := fun e he => by
    obtain ⟨k, a, b, _⟩ := (g.mem e).1 he
    rw [b]; exact hf k a
  clear g hf
  unfold dueS rstS
  induction S with
  | nil => exact ⟨rfl, rfl⟩
  | cons s S ih =>
    have h1 := h s (by simp)
    obtain ⟨a, b⟩ := ih (fun e he => h e (by simp [he]))
    rw [List.takeWhile_cons_of_pos (by simpa using h1), List.dropWhile_cons_of_pos (by simpa using h1), a, b]
    exact ⟨rfl, rfl⟩
end Go.Proofs.Ytlafeijkpnpdeaa.Ago

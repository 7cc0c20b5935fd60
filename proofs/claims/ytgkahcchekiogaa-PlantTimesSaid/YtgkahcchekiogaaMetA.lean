/- Walks of package meter. -/
import Derived.Test.YtgkahcchekiogaaAlt
import Derived.Test.YtgkahcchekiogaaWideB
import Derived.Test.YtgkahcchekiogaaRefC
import Derived.Test.YtgkahcchekiogaaPlain
namespace Go.Proofs.Ytgkahcchekiogaa.MetA
open Go.RowKit Base Kit RefA Alt WideA WideB Plain
set_option linter.unusedVariables false
set_option linter.unusedSimpArgs false

/-- who took what, and all time -/
structure MS where
  (run : Nat → Int) (id sl ch tim : Int)
def tot (n : Nat) (s : MS) : Int := s.id + s.sl + s.ch + sumTo s.run n
structure MOk (n : Nat) (s : MS) : Prop where
  hn : n ≤ 8
  run : ∀ i, i < n → 0 ≤ s.run i
  id : 0 ≤ s.id
  sl : 0 ≤ s.sl
  ch : 0 ≤ s.ch
  tim : 0 ≤ s.tim
  tot : tot n s ≤ 4611686018427387904
  tim1 : s.tim ≤ 4611686018427387904
def runAdd (f : Nat → Int) (k p x : Int) : Nat → Int := fun i => if k = 0 ∧ (i : Int) = p then f i + x else f i
theorem runAdd_other {f : Nat → Int} {k p x : Int} (h : k ≠ 0) : runAdd f k p x = f := by funext i; simp [runAdd, h]
theorem runAdd_zero (f : Nat → Int) (q : Nat) (x : Int) : runAdd f 0 q x = fun j => if j = q then f q + x else f j := by
  funext i
  by_cases h : i = q
  · subst h; simp [runAdd]
  · simp [runAdd, h, Int.ofNat_inj]
def add (s : MS) (k p x ns : Int) : MS :=
  { run := runAdd s.run k p x, id := if k = 1 then s.id + x else s.id, sl := if k = 2 then s.sl + x else s.sl, ch := if k = 3 then s.ch + x else s.ch, tim := s.tim + ns }
def bad (n : Nat) (k p pw ns : Int) : Prop := k < 0 ∨ 3 < k ∨ pw < 0 ∨ ns < 0 ∨ (k = 0 ∧ (p < 0 ∨ (n : Int) ≤ p))
instance (n : Nat) (k p pw ns : Int) : Decidable (bad n k p pw ns) := by unfold bad; exact inferInstance
def far (n : Nat) (s : MS) (pw ns : Int) : Prop := (md pw ns 1 false).2 ≠ 0 ∨ 4611686018427387904 - tot n s < (md pw ns 1 false).1 ∨ 4611686018427387904 - s.tim < ns
instance (n : Nat) (s : MS) (pw ns : Int) : Decidable (far n s pw ns) := by unfold far; exact inferInstance
/-- a take -/
def tk (n : Nat) (s : MS) (k p pw ns : Int) : Int × MS :=
  if bad n k p pw ns then (2, s) else if far n s pw ns then (6, s) else (0, add s k p (md pw ns 1 false).1 ns)

theorem sumTo_le {f : Nat → Int} {n : Nat} (h : ∀ i, i < n → 0 ≤ f i) {i : Nat} (hi : i < n) : f i ≤ sumTo f n := by
  have h1 := sumTo_mono (f := f) (k := i + 1) h hi
  have h2 := sumTo_nonneg (f := f) (n := i) (fun j hj => h j (by omega))
  rw [sumTo] at h1; omega
theorem sumTo_add (f : Nat → Int) (x : Int) (q : Nat) : ∀ n, sumTo (fun i => if i = q then f i + x else f i) n = sumTo f n + (if q < n then x else 0)
  | 0 => by simp [sumTo]
  | n + 1 => by
    rw [sumTo, sumTo, sumTo_add f x q n]
    by_cases h : n = q
    · subst h; simp; omega
    · by_cases h2 : q < n
      · simp [h, h2, show q < n + 1 by omega]; omega
      · simp [h, h2, show ¬ q < n + 1 by omega]
theorem tot_add {n : Nat} {s : MS} {k p x ns : Int} (hk : 0 ≤ k) (hk' : k ≤ 3) (hp : k = 0 → 0 ≤ p ∧ p < n) : tot n (add s k p x ns) = tot n s + x := by
  unfold tot add
  dsimp only
  have hc : k = 0 ∨ k = 1 ∨ k = 2 ∨ k = 3 := by omega
  rcases hc with rfl | rfl | rfl | rfl
  · obtain ⟨p0, p1⟩ := hp rfl
    obtain ⟨q, rfl⟩ := Int.eq_ofNat_of_zero_le p0
    have hq : q < n := by omega
    have e : (fun j => if j = q then s.run q + x else s.run j) = fun i => if i = q then s.run i + x else s.run i := by
      funext i; by_cases h : i = q
      · subst h; simp
      · simp [h]
    rw [runAdd_zero, e, sumTo_add]
    simp [hq]; omega
  all_goals
    rw [runAdd_other (by omega)]
    simp; omega
theorem tot_nonneg {n : Nat} {s : MS} (h : MOk n s) : 0 ≤ tot n s := by
  have := sumTo_nonneg h.run; have := h.id; have := h.sl; have := h.ch; unfold tot; omega

/-- a meter in memory -/
structure Mtr (w : World) (m g n cap : Nat) (s : MS) : Prop where
  box : Box w m #[.slice (some ⟨g, 0, none⟩) n cap, .int .i64 s.id, .int .i64 s.sl, .int .i64 s.ch, .int .i64 (tot n s), .int .i64 s.tim, .bool true] 117
  own : w.ownsRow 0 3 1 (.slice (some ⟨g, 0, none⟩) n cap) n (row s.run n)
theorem Mtr.alt {S : Nat → Prop} {w w1 : World} {m g n cap : Nat} {s : MS} (h : Mtr w m g n cap s) (k : Alt S w w1) (h1 : ¬ S m) (h2 : ¬ S g) : Mtr w1 m g n cap s := ⟨box_alt h.box k h1, own_alt h.own k h2⟩
theorem Mtr.below {w w1 : World} {m g n cap : Nat} {s : MS} (h : Mtr w m g n cap s) (k : Below w.heap.size w w1) : Mtr w1 m g n cap s := h.alt (Alt.of_below (S := fun _ => False) k) id id

theorem dead_any (w : World) (m : Nat) (c6 : w.cell? ⟨m, 6, none⟩ = some (.bool true)) :
    Calls Try.prog 68 #[.pointer (some ⟨m, 0, none⟩)] w fun e w' => e = .returned (.bool false) ∧ w = w' := by
  go_enter Try.func68, Try.ntmps68
  go_wp2_with fail
  go_ret
  exact ⟨rfl, rfl⟩
theorem total_any (w : World) (m g n cap : Nat) (s : MS) (h : Hid (Mtr w m g n cap s)) :
    Calls Try.prog 58 #[.pointer (some ⟨m, 0, none⟩)] w fun e w' => e = .returned (.int .i64 (tot n s)) ∧ w = w' := by
  have hb := h.out.box.cell
  obtain ⟨x, hx⟩ : ∃ x, tot n s = x := ⟨_, rfl⟩
  rw [hx] at hb ⊢
  clear hx
  go_enter Try.func58, Try.ntmps58
  go_wp2_with fail
  refine (dead_any _ _ (by rw [hb]; rfl)).mono ?_
  rintro e w' ⟨rfl, rfl⟩
  go_wp2_with fail
  go_ret
  exact ⟨rfl, rfl⟩
theorem time_any (w : World) (m g n cap : Nat) (s : MS) (h : Hid (Mtr w m g n cap s)) :
    Calls Try.prog 20 #[.pointer (some ⟨m, 0, none⟩)] w fun e w' => e = .returned (.int .i64 (s.tim)) ∧ w = w' := by
  have hb := h.out.box.cell
  obtain ⟨x, hx⟩ : ∃ x, s.tim = x := ⟨_, rfl⟩
  rw [hx] at hb ⊢
  clear hx
  go_enter Try.func20, Try.ntmps20
  go_wp2_with fail
  refine (dead_any _ _ (by rw [hb]; rfl)).mono ?_
  rintro e w' ⟨rfl, rfl⟩
  go_wp2_with fail
  go_ret
  exact ⟨rfl, rfl⟩

theorem has_any (w : World) (m g n cap : Nat) (p : Int) (ok : Bool) (hb : w.cell? ⟨m, 0, none⟩ = some (.slice (some ⟨g, 0, none⟩) n cap)) (hok : Hid (decide (0 ≤ p ∧ p < (n : Int)) = ok)) :
    Calls Try.prog 159 #[.pointer (some ⟨m, 0, none⟩), .int .i64 p] w fun e w' => e = .returned (.bool ok) ∧ w = w' := by
  go_enter Try.func159, Try.ntmps159
  go_wp2_with fail
  all_goals go_ret
  all_goals refine ⟨ret_bool ?_, rfl⟩
  all_goals first | (rw [← hok.out]; simp; done) | (rw [← hok.out]; simp; omega) | (rw [← hok.out]; simp [*]; done)

/-- a number is put in: what the meter's block is behind it -/
def PutPost (w : World) (m g n cap : Nat) (r : Value) (k p x id sl ch t tim : Int) (f : Nat → Int) (e : Ending) (w' : World) : Prop :=
  (∃ v, e = .returned v) ∧ Alt (fun i => i = m ∨ i = g) w w' ∧
  Box w' m #[.slice (some ⟨g, 0, none⟩) n cap, .int .i64 (if k = 1 then id + x else id), .int .i64 (if k = 2 then sl + x else sl), .int .i64 (if k = 3 then ch + x else ch), .int .i64 t, .int .i64 tim, .bool true] 117 ∧
  w'.ownsRow 0 3 1 (.slice (some ⟨g, 0, none⟩) n cap) n (row (runAdd f k p x) n)

theorem put_any (w : World) (m g n cap : Nat) (k p x id sl ch t tim : Int) (f : Nat → Int) (hbx : Hid (Box w m #[.slice (some ⟨g, 0, none⟩) n cap, .int .i64 id, .int .i64 sl, .int .i64 ch, .int .i64 t, .int .i64 tim, .bool true] 117))
    (hown : Hid (w.ownsRow 0 3 1 (.slice (some ⟨g, 0, none⟩) n cap) n (row f n))) (hk : 0 ≤ k) (hk' : k ≤ 3) (hp : k = 0 → 0 ≤ p ∧ p < (n : Int)) (hn : n ≤ 8) (hx : 0 ≤ x) (h0 : 0 ≤ id ∧ id + x ≤ 4611686018427387904) (h1 : 0 ≤ sl ∧ sl + x ≤ 4611686018427387904) (h2 : 0 ≤ ch ∧ ch + x ≤ 4611686018427387904)
    (hf : ∀ i, i < n → 0 ≤ f i ∧ f i + x ≤ 4611686018427387904) :
    Calls Try.prog 160 #[.pointer (some ⟨m, 0, none⟩), .int .i64 k, .int .i64 p, .int .i64 x] w (PutPost w m g n cap (.slice (some ⟨g, 0, none⟩) n cap) k p x id sl ch t tim f) := by
  have bc := hbx.out.cell
  have bf := hbx.out.frozen
  obtain ⟨a0, a1⟩ := h0
  obtain ⟨b0, b1⟩ := h1
  obtain ⟨c0, c1⟩ := h2
  have hc : k = 0 ∨ k = 1 ∨ k = 2 ∨ k = 3 := by omega
  rcases hc with rfl | rfl | rfl | rfl
  · obtain ⟨p0, p1⟩ := hp rfl
    obtain ⟨q, rfl⟩ := Int.eq_ofNat_of_zero_le p0
    have q1 : q < n := by omega
    obtain ⟨f0, f1⟩ := hf q q1
    have gc : w.cell? ⟨g, q, none⟩ = some (.int .i64 (f q)) := by rw [hown.out.cellAt q (by omega), row_get f n q q1]
    have gf := hown.out.frozenAt q
    have fin := Lib.hid (hown.out.stored q (.int .i64 (f q + x))).1
    have hne := own_ne hown.out hbx.out (by decide)
    rw [row_set] at fin
    have e := runAdd_zero f q x
    have E := Lib.hid e
    clear e
    generalize f q = y at gc f0 f1 fin E
    go_enter Try.func160, Try.ntmps160
    go_wp2_with fail
    go_end0
    refine ⟨⟨_, rfl⟩, Alt.set _ _ _ (.inr rfl), ?_, ?_⟩
    · exact hbx.out.setOther _ _ (Ne.symm hne)
    · rw [E.out]; exact fin.out
  all_goals
    have hne := own_ne hown.out hbx.out (by decide)
    go_enter Try.func160, Try.ntmps160
    go_wp2_with fail
    go_end0
    refine ⟨⟨_, rfl⟩, Alt.set _ _ _ (.inl rfl), ?_, ?_⟩
    · exact hbx.out.set _ _
    · rw [runAdd_other (by omega)]
      exact own_alt hown.out (Alt.set (S := fun i => i = m) _ _ _ rfl) hne
end Go.Proofs.Ytgkahcchekiogaa.MetA

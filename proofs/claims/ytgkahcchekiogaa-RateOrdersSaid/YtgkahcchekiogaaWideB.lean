/- wide.MulDiv, Mul: products by numbers. -/
import Derived.Test.YtgkahcchekiogaaDiv
import Derived.WalkSmall
import Derived.Test.YtgkahcchekiogaaBase
namespace Go.Proofs.Ytgkahcchekiogaa.WideB
open Go.RowKit WideA Div64 Base
set_option linter.unusedVariables false
set_option linter.unusedSimpArgs false

/-- a product by a number: the number, and the error -/
def mdQ (a b c : Int) (up : Bool) : Int := if up then (a * b + (c - 1)) / c else a * b / c
def md (a b c : Int) (up : Bool) : Int × Int :=
  if a < 0 ∨ b < 0 ∨ c < 1 then (0, 2) else if mdQ a b c up ≤ 9223372036854775807 then (mdQ a b c up, 0) else (0, 6)

theorem run_add (x y : Int) (w : World) (hx : 0 ≤ x) (hy : 0 ≤ y) :
    (callFunc 157 #[.int .u64 x, .int .u64 y, .int .u64 0]).run Try.prog w = .ok (.value (.tuple #[.int .u64 ((x + y) % 18446744073709551616), .int .u64 ((x + y) / 18446744073709551616)])) w := by
  rw [run_callFunc_extern Try.func157 (by kernel_rfl) (by kernel_rfl) (by kernel_rfl) (e := add64Entry) (by kernel_rfl), run_add64 x y 0 hx hy (by omega) (by omega)]
  rw [Int.add_zero]; rfl

theorem more_any (hi lo n : Int) (w : World) (hh : 0 ≤ hi) (hh' : hi ≤ 18446744073709551614) (hl : 0 ≤ lo) (hl' : lo ≤ 18446744073709551615) (hn : 0 ≤ n) (hn' : n ≤ 18446744073709551615) :
    Calls Try.prog 124 #[.agg #[.int .u64 hi, .int .u64 lo], .int .u64 n] w fun e w' => e = .returned (.agg #[.int .u64 (hi + (lo + n) / 18446744073709551616), .int .u64 ((lo + n) % 18446744073709551616)]) ∧ Below w.heap.size w w' := by
  go_enter Try.func124, Try.ntmps124
  have hadd := fun w => run_add lo n w hl hn
  have e1 : IntKind.u64.wrap (hi + (lo + n) / 18446744073709551616) = hi + (lo + n) / 18446744073709551616 := by rw [IntKind.wrap_u64]; omega
  go_wp2
  refine bodyPost_ret (v := .agg #[.int .u64 (hi + (lo + n) / 18446744073709551616), .int .u64 ((lo + n) % 18446744073709551616)]) ?_ rfl ?_
  · simp [results, Try.results124, go_sem]
  · exact ⟨rfl, ((Below.refl _ _).alloc (Nat.le_refl _) _).alloc (by simp) _⟩

theorem by_big (hi lo c : Int) (w : World) (hh : c ≤ hi) :
    Calls Try.prog 125 #[.agg #[.int .u64 hi, .int .u64 lo], .int .u64 c] w fun e w' => e = .returned (.tuple #[.int .u64 0, .bool false]) ∧ Below w.heap.size w w' := by
  go_enter Try.func125, Try.ntmps125
  go_wp2
  go_ret2
  exact ⟨rfl, (Below.refl _ _).alloc (Nat.le_refl _) _⟩

theorem by_any (hi lo c : Int) (w : World) (hh : 0 ≤ hi) (hc : hi < c) (hc' : c ≤ 18446744073709551615) (hl : 0 ≤ lo) (hl' : lo ≤ 18446744073709551615) :
    Calls Try.prog 125 #[.agg #[.int .u64 hi, .int .u64 lo], .int .u64 c] w fun e w' => e = .returned (.tuple #[.int .u64 ((hi * 18446744073709551616 + lo) / c), .bool (decide ((hi * 18446744073709551616 + lo) / c ≤ 9223372036854775807))]) ∧ Below w.heap.size w w' := by
  by_cases h0 : hi = 0
  · subst h0
    have he : (0 * 18446744073709551616 + lo) = lo := by omega
    rw [he]
    go_enter Try.func125, Try.ntmps125
    go_wp2_with (go_at_call 158; refine (div_zero lo c _ hl hl' hc hc').mono ?_; rintro e w' ⟨rfl, n, rfl⟩)
    go_ret2
    exact ⟨rfl, below_drewN ((Below.refl _ _).alloc (Nat.le_refl _) _) _⟩
  · go_enter Try.func125, Try.ntmps125
    go_wp2_with (go_at_call 158; refine (div_any hi lo c _ (by omega) hl hl' hc hc').mono ?_; rintro e w' ⟨r, rfl, rfl⟩)
    go_ret2
    exact ⟨rfl, (Below.refl _ _).alloc (Nat.le_refl _) _⟩


/-- the deferred call: nothing is turned beside OK -/
theorem none_ok (n e : Addr) (u : _) (w : World) (hcell : w.cell? e = some (.int .i64 0)) :
    CallsD Try.prog 122 #[.pointer (some n), .pointer (some e)] u w fun x u' w' => u' = u ∧ (x = .returned (.tuple #[]) ∧ w' = w) := by
  go_enter_d Try.func122, Try.ntmps122
  go_wp2
  go_end0
  exact ⟨rfl, rfl⟩

theorem none_err (n e : Addr) (k v : Int) (u : _) (w : World) (hcell : w.cell? e = some (.int .i64 k)) (hk : (k != 0) = true) (hn : w.cell? n = some (.int .i64 v)) (hf : w.frozen? n = false) :
    CallsD Try.prog 122 #[.pointer (some n), .pointer (some e)] u w fun x u' w' => u' = u ∧ (x = .returned (.tuple #[]) ∧ w' = w.setCell n (.int .i64 0)) := by
  go_enter_d Try.func122, Try.ntmps122
  go_wp2
  go_end0
  exact ⟨rfl, rfl⟩

theorem md_bad (a b c : Int) (up : Bool) (w : World) (h : a < 0 ∨ (0 ≤ a ∧ b < 0) ∨ (0 ≤ a ∧ 0 ≤ b ∧ c < 1)) :
    Calls Try.prog 69 #[.int .i64 a, .int .i64 b, .int .i64 c, .bool up] w fun e w' => e = .returned (.tuple #[.int .i64 0, .int .i64 2]) ∧ Below w.heap.size w w' := by
  rcases h with h | ⟨h1, h⟩ | ⟨h1, h2, h⟩
  all_goals
    go_enter_defers Try.func69, Try.ntmps69
    go_wp2
    refine leaves_cons (f := 122) (args := #[.pointer (some ⟨w.heap.size, 0, none⟩), .pointer (some ⟨w.heap.size + 1, 0, none⟩)]) (by simp) (by simp [go_sem]) ?_
    refine (none_err _ _ 2 0 _ _ (by go_simp) (by decide) (by go_simp) (by go_simp)).mono ?_
    rintro e u' w' ⟨rfl, rfl, rfl⟩
    exact ⟨.tuple #[.int .i64 0, .int .i64 2], by simp [results, Try.results69, go_sem], rfl, (((Below.refl _ _).alloc (Nat.le_refl _) _).alloc (by simp) _).setCell (by simp) _⟩

theorem times_v (a b hi lo : Int) (w : World) (ha : 0 ≤ a) (ha' : a ≤ 9223372036854775807) (hb : 0 ≤ b) (hb' : b ≤ 9223372036854775807) (h1 : a * b / 18446744073709551616 = hi) (h2 : a * b % 18446744073709551616 = lo) :
    Calls Try.prog 123 #[.int .i64 a, .int .i64 b] w fun e w' => e = .returned (.agg #[.int .u64 hi, .int .u64 lo]) ∧ Below w.heap.size w w' := by
  subst h1 h2; exact times_any a b w ha ha' hb hb'
theorem more_v (hi lo n hi2 lo2 : Int) (w : World) (hh : 0 ≤ hi) (hh' : hi ≤ 18446744073709551614) (hl : 0 ≤ lo) (hl' : lo ≤ 18446744073709551615) (hn : 0 ≤ n) (hn' : n ≤ 18446744073709551615)
    (h1 : hi + (lo + n) / 18446744073709551616 = hi2) (h2 : (lo + n) % 18446744073709551616 = lo2) :
    Calls Try.prog 124 #[.agg #[.int .u64 hi, .int .u64 lo], .int .u64 n] w fun e w' => e = .returned (.agg #[.int .u64 hi2, .int .u64 lo2]) ∧ Below w.heap.size w w' := by
  subst h1 h2; exact more_any hi lo n w hh hh' hl hl' hn hn'
/-- what a division tells -/
def ByRes (hi lo c q : Int) (ok : Bool) : Prop := (c ≤ hi ∧ q = 0 ∧ ok = false) ∨ (hi < c ∧ q = (hi * 18446744073709551616 + lo) / c ∧ ok = decide (q ≤ 9223372036854775807))
theorem by_v (hi lo c q : Int) (ok : Bool) (w : World) (hh : 0 ≤ hi) (hc' : c ≤ 18446744073709551615) (hl : 0 ≤ lo) (hl' : lo ≤ 18446744073709551615) (h : ByRes hi lo c q ok) :
    Calls Try.prog 125 #[.agg #[.int .u64 hi, .int .u64 lo], .int .u64 c] w fun e w' => e = .returned (.tuple #[.int .u64 q, .bool ok]) ∧ Below w.heap.size w w' := by
  rcases h with ⟨h, rfl, rfl⟩ | ⟨h, rfl, rfl⟩
  · exact by_big hi lo c w h
  · exact by_any hi lo c w hh h hc' hl hl'

theorem byRes (N c hi lo : Int) (hN : 0 ≤ N) (h1 : 1 ≤ c) (hc : c ≤ 9223372036854775807) (eh : N / 18446744073709551616 = hi) (el : N % 18446744073709551616 = lo) :
    ∃ q ok, ByRes hi lo c q ok ∧ 0 ≤ q ∧ ((ok = true ∧ q = N / c ∧ q ≤ 9223372036854775807) ∨ (ok = false ∧ 9223372036854775807 < N / c)) := by
  by_cases h : c ≤ hi
  · refine ⟨0, false, .inl ⟨h, rfl, rfl⟩, by omega, .inr ⟨rfl, ?_⟩⟩
    have : 9223372036854775808 ≤ N / c := by
      refine Int.le_ediv_of_mul_le (by omega) ?_
      omega
    omega
  · have e : hi * 18446744073709551616 + lo = N := by omega
    have hq : 0 ≤ N / c := Int.ediv_nonneg hN (by omega)
    refine ⟨N / c, decide (N / c ≤ 9223372036854775807), .inr ⟨by omega, by rw [e], rfl⟩, hq, ?_⟩
    by_cases hm : N / c ≤ 9223372036854775807
    · exact .inl ⟨by simp [hm], rfl, hm⟩
    · exact .inr ⟨by simp [hm], by omega⟩

theorem lt1 (n : Nat) : n < n + 1 + 1 := by omega

theorem md_walk (a b c hi lo hi2 lo2 q : Int) (up ok : Bool) (w : World) (ha : 0 ≤ a) (ha' : a ≤ 9223372036854775807) (hb : 0 ≤ b) (hb' : b ≤ 9223372036854775807) (hc : 1 ≤ c) (hc' : c ≤ 9223372036854775807)
    (h1 : Hid (a * b / 18446744073709551616 = hi)) (h2 : Hid (a * b % 18446744073709551616 = lo)) (b1 : 0 ≤ hi) (b2 : hi ≤ 9223372036854775807) (b3 : 0 ≤ lo) (b4 : lo ≤ 18446744073709551615)
    (h3 : Hid (hi + (lo + (if up then c - 1 else 0)) / 18446744073709551616 = hi2)) (h4 : Hid ((lo + (if up then c - 1 else 0)) % 18446744073709551616 = lo2)) (b5 : 0 ≤ hi2) (b6 : 0 ≤ lo2) (b7 : lo2 ≤ 18446744073709551615)
    (h5 : ByRes hi2 lo2 c q ok) (hq0 : 0 ≤ q) (hq : ok = true → q ≤ 9223372036854775807) :
    Calls Try.prog 69 #[.int .i64 a, .int .i64 b, .int .i64 c, .bool up] w fun e w' => e = .returned (.tuple (if ok then #[.int .i64 q, .int .i64 0] else #[.int .i64 0, .int .i64 6])) ∧ Below w.heap.size w w' := by
  have e1 : IntKind.u64.wrap c = c := by rw [IntKind.wrap_u64]; omega
  have e2 : IntKind.u64.wrap (c - 1) = c - 1 := by rw [IntKind.wrap_u64]; omega
  cases up
  · have g1 : hi2 = hi := by have := h3.out; simp at this; omega
    have g2 : lo2 = lo := by have := h4.out; simp at this; omega
    subst g1 g2
    go_enter_defers Try.func69, Try.ntmps69
    go_wp2_with fail
    refine (times_v a b hi2 lo2 _ ha ha' hb hb' h1.out h2.out).mono ?_
    rintro e w1 ⟨rfl, hb1⟩
    obtain ⟨kc, kf⟩ := bcell hb1
    have hz : w.heap.size + 1 < w1.heap.size := by have := hb1.size; simp at this; omega
    go_wp2_with fail
    refine (by_v hi2 lo2 c q ok _ (by omega) (by omega) b3 b4 h5).mono ?_
    rintro e w2 ⟨rfl, hb2⟩
    have cn := (((show Cell _ w.heap.size 0 (.int .i64 0) from ⟨by go_simp, by go_simp⟩ : Cell ((w.alloc (Obj.cells #[Value.int IntKind.i64 0] 3)).alloc (Obj.cells #[Value.int IntKind.i64 0] 45)) _ _ _).below hb1 (by simpa using lt1 _)).alloc _).below hb2 (by simp; omega)
    have ce := (((show Cell _ (w.heap.size + 1) 0 (.int .i64 0) from ⟨by go_simp, by go_simp⟩ : Cell ((w.alloc (Obj.cells #[Value.int IntKind.i64 0] 3)).alloc (Obj.cells #[Value.int IntKind.i64 0] 45)) _ _ _).below hb1 (by simp)).alloc _).below hb2 (by simp; omega)
    obtain ⟨cn, fn⟩ := cn
    obtain ⟨ce, fe⟩ := ce
    have hbw : Below w.heap.size w w2 := (((((Below.refl _ _).alloc (Nat.le_refl _) _).alloc (by simp) _).trans (hb1.mono (by simp; omega))).alloc (by omega) _).trans (hb2.mono (by simp; omega))
    clear kc kf hb1 hb2 e1 e2
    cases ok
    · go_wp2_with fail
      refine leaves_cons (f := 122) (args := #[.pointer (some ⟨w.heap.size, 0, none⟩), .pointer (some ⟨w.heap.size + 1, 0, none⟩)]) (by simp) (by simp [go_sem]) ?_
      refine (none_err _ _ 6 (wrap64 q) _ _ (by go_simp) (by decide) (by go_simp) (by go_simp)).mono ?_
      rintro e u' w' ⟨rfl, rfl, rfl⟩
      exact ⟨.tuple #[.int .i64 0, .int .i64 6], by simp [results, Try.results69, go_sem, cn, ce, fn, fe], rfl, ((hbw.setCell (by simp) _).setCell (by simp) _).setCell (by simp) _⟩
    · have hq := hq rfl
      go_wp2_with fail
      refine leaves_cons (f := 122) (args := #[.pointer (some ⟨w.heap.size, 0, none⟩), .pointer (some ⟨w.heap.size + 1, 0, none⟩)]) (by simp) (by simp [go_sem]) ?_
      refine (none_ok _ _ _ _ (by go_simp)).mono ?_
      rintro e u' w' ⟨rfl, rfl, rfl⟩
      exact ⟨.tuple #[.int .i64 q, .int .i64 0], by simp [results, Try.results69, go_sem, cn, ce, fn, fe], rfl, (hbw.setCell (by simp) _).setCell (by simp) _⟩
  · have g3 : Hid (hi + (lo + (c - 1)) / 18446744073709551616 = hi2) := Lib.hid (by have := h3.out; simpa using this)
    have g4 : Hid ((lo + (c - 1)) % 18446744073709551616 = lo2) := Lib.hid (by have := h4.out; simpa using this)
    go_enter_defers Try.func69, Try.ntmps69
    go_wp2_with fail
    refine (times_v a b hi lo _ ha ha' hb hb' h1.out h2.out).mono ?_
    rintro e w1 ⟨rfl, hb1⟩
    obtain ⟨kc, kf⟩ := bcell hb1
    have hz : w.heap.size + 1 < w1.heap.size := by have := hb1.size; simp at this; omega
    go_wp2_with fail
    refine (more_v hi lo (c - 1) hi2 lo2 _ b1 (by omega) b3 b4 (by omega) (by omega) g3.out g4.out).mono ?_
    rintro e w1b ⟨rfl, hb1b⟩
    have cd := (show Cell _ w1.heap.size 0 (.int .u64 hi) from ⟨by go_simp, by go_simp⟩ : Cell (w1.alloc (Obj.cells #[Value.int IntKind.u64 hi, Value.int IntKind.u64 lo] 185)) _ _ _).below hb1b (by simp)
    have cd2 := (show Cell _ w1.heap.size 1 (.int .u64 lo) from ⟨by go_simp, by go_simp⟩ : Cell (w1.alloc (Obj.cells #[Value.int IntKind.u64 hi, Value.int IntKind.u64 lo] 185)) _ _ _).below hb1b (by simp)
    have hzb : w1.heap.size < w1b.heap.size := by have := hb1b.size; simp at this; omega
    have cn := (((show Cell _ w.heap.size 0 (.int .i64 0) from ⟨by go_simp, by go_simp⟩ : Cell ((w.alloc (Obj.cells #[Value.int IntKind.i64 0] 3)).alloc (Obj.cells #[Value.int IntKind.i64 0] 45)) _ _ _).below hb1 (by simpa using lt1 _)).alloc _).below hb1b (by simp; omega)
    have ce := (((show Cell _ (w.heap.size + 1) 0 (.int .i64 0) from ⟨by go_simp, by go_simp⟩ : Cell ((w.alloc (Obj.cells #[Value.int IntKind.i64 0] 3)).alloc (Obj.cells #[Value.int IntKind.i64 0] 45)) _ _ _).below hb1 (by simp)).alloc _).below hb1b (by simp; omega)
    have hbw1 : Below w.heap.size w w1b := (((((Below.refl _ _).alloc (Nat.le_refl _) _).alloc (by simp) _).trans (hb1.mono (by simp; omega))).alloc (by omega) _).trans (hb1b.mono (by simp; omega))
    clear kc kf hb1 hb1b
    obtain ⟨cd, fd⟩ := cd
    obtain ⟨cd2, fd2⟩ := cd2
    go_wp2_with fail
    refine (by_v hi2 lo2 c q ok _ b5 (by omega) b6 b7 h5).mono ?_
    rintro e w2 ⟨rfl, hb2⟩
    have cn := ((cn.set ⟨w1.heap.size, 0, none⟩ (.int .u64 hi2) (by simp; omega)).set ⟨w1.heap.size, 1, none⟩ (.int .u64 lo2) (by simp; omega)).below hb2 (by simp; omega)
    have ce := ((ce.set ⟨w1.heap.size, 0, none⟩ (.int .u64 hi2) (by simp; omega)).set ⟨w1.heap.size, 1, none⟩ (.int .u64 lo2) (by simp; omega)).below hb2 (by simp; omega)
    obtain ⟨cn, fn⟩ := cn
    obtain ⟨ce, fe⟩ := ce
    have hbw : Below w.heap.size w w2 := ((hbw1.setCell (by simp; omega) _).setCell (by simp; omega) _).trans (hb2.mono (by simp; omega))
    clear cd cd2 fd fd2
    clear hbw1 hb2 e1 e2
    cases ok
    · go_wp2_with fail
      refine leaves_cons (f := 122) (args := #[.pointer (some ⟨w.heap.size, 0, none⟩), .pointer (some ⟨w.heap.size + 1, 0, none⟩)]) (by simp) (by simp [go_sem]) ?_
      refine (none_err _ _ 6 (wrap64 q) _ _ (by go_simp) (by decide) (by go_simp) (by go_simp)).mono ?_
      rintro e u' w' ⟨rfl, rfl, rfl⟩
      exact ⟨.tuple #[.int .i64 0, .int .i64 6], by simp [results, Try.results69, go_sem, cn, ce, fn, fe], rfl, ((hbw.setCell (by simp) _).setCell (by simp) _).setCell (by simp) _⟩
    · have hq := hq rfl
      go_wp2_with fail
      refine leaves_cons (f := 122) (args := #[.pointer (some ⟨w.heap.size, 0, none⟩), .pointer (some ⟨w.heap.size + 1, 0, none⟩)]) (by simp) (by simp [go_sem]) ?_
      refine (none_ok _ _ _ _ (by go_simp)).mono ?_
      rintro e u' w' ⟨rfl, rfl, rfl⟩
      exact ⟨.tuple #[.int .i64 q, .int .i64 0], by simp [results, Try.results69, go_sem, cn, ce, fn, fe], rfl, (hbw.setCell (by simp) _).setCell (by simp) _⟩

/-- EVERY PRODUCT BY A NUMBER. -/
theorem md_any (a b c : Int) (up : Bool) (w : World) (ha : -9223372036854775808 ≤ a) (ha' : a ≤ 9223372036854775807) (hb : -9223372036854775808 ≤ b) (hb' : b ≤ 9223372036854775807) (hc : -9223372036854775808 ≤ c) (hc' : c ≤ 9223372036854775807) :
    Calls Try.prog 69 #[.int .i64 a, .int .i64 b, .int .i64 c, .bool up] w fun e w' => e = .returned (.tuple #[.int .i64 (md a b c up).1, .int .i64 (md a b c up).2]) ∧ Below w.heap.size w w' := by
  by_cases hbad : a < 0 ∨ b < 0 ∨ c < 1
  · have : md a b c up = (0, 2) := by unfold md; rw [if_pos hbad]
    rw [this]
    exact md_bad a b c up w (by omega)
  · have h1 : 0 ≤ a := by omega
    have h2 : 0 ≤ b := by omega
    have h3 : 1 ≤ c := by omega
    have hp0 : 0 ≤ a * b := Int.mul_nonneg h1 h2
    have hp1 : a * b ≤ 9223372036854775807 * 9223372036854775807 := Int.mul_le_mul ha' hb' h2 (by omega)
    have hN : ∃ N, N = a * b + (if up then c - 1 else 0) ∧ a * b ≤ N ∧ N ≤ a * b + 9223372036854775806 := ⟨_, rfl, by split <;> omega, by split <;> omega⟩
    obtain ⟨N, eN, n1, n2⟩ := hN
    obtain ⟨q, ok, r, q0, hq⟩ := byRes N c (N / 18446744073709551616) (N % 18446744073709551616) (by omega) h3 hc' rfl rfl
    have hmq : mdQ a b c up = N / c := by rw [eN]; unfold mdQ; cases up <;> simp
    have hm : md a b c up = if ok then (q, 0) else (0, 6) := by
      unfold md
      rw [if_neg hbad, hmq]
      rcases hq with ⟨rfl, e, hl⟩ | ⟨rfl, hl⟩
      · rw [if_pos (by omega), e]; rfl
      · rw [if_neg (by omega)]; rfl
    have k := md_walk a b c (a * b / 18446744073709551616) (a * b % 18446744073709551616) (N / 18446744073709551616) (N % 18446744073709551616) q up ok w h1 ha' h2 hb' h3 hc' (Lib.hid rfl) (Lib.hid rfl)
      (by omega) (by omega) (by omega) (by omega) (Lib.hid (by rw [eN]; omega)) (Lib.hid (by rw [eN]; omega)) (by omega) (by omega) (by omega) r q0 (by rcases hq with ⟨_, _, hl⟩ | ⟨rfl, _⟩; exact fun _ => hl; exact fun h => by cases h)
    rw [hm]
    refine k.mono fun e w' h => ?_
    obtain ⟨h, hb⟩ := h
    refine ⟨?_, hb⟩
    rw [h]; cases ok <;> rfl

theorem mul_any (a b : Int) (w : World) (ha : -9223372036854775808 ≤ a) (ha' : a ≤ 9223372036854775807) (hb : -9223372036854775808 ≤ b) (hb' : b ≤ 9223372036854775807) :
    Calls Try.prog 113 #[.int .i64 a, .int .i64 b] w fun e w' => e = .returned (.tuple #[.int .i64 (md a b 1 false).1, .int .i64 (md a b 1 false).2]) ∧ Below w.heap.size w w' := by
  go_enter Try.func113, Try.ntmps113
  go_wp2_with (go_at_call 69; refine (md_any a b 1 false _ ha ha' hb hb' (by omega) (by omega)).mono ?_; rintro e w' ⟨rfl, hb⟩)
  go_ret2
  exact ⟨rfl, hb⟩

end Go.Proofs.Ytgkahcchekiogaa.WideB

import Derived.WalkSmall
import Derived.Deep.DeepCutAuto
import Derived.Deep.CutBlock
import Derived.Test.YtlafeijkpnpdeaaGreatDiv
import Derived.Test.YtlafeijkpnpdeaaGreatMg2
import Derived.Test.YtlafeijkpnpdeaaGreatMg3
import Derived.Test.YtlafeijkpnpdeaaGreatMg1

/- wide.MulDiv, Mul: products by numbers. -/
namespace Go.Proofs.YtlafeijkpnpdeaaGreat.WideB
open Go.RowKit WideA Div64 Base
set_option linter.unusedVariables false
set_option linter.unusedSimpArgs false

/-- a product by a number: the number, and the error -/
def mdQ (a b c : Int) (up : Bool) : Int := if up then (a * b + (c - 1)) / c else a * b / c
def md (a b c : Int) (up : Bool) : Int × Int :=
  if a < 0 ∨ b < 0 ∨ c < 1 then (0, 2) else if mdQ a b c up ≤ 9223372036854775807 then (mdQ a b c up, 0) else (0, 6)

theorem run_add (x y : Int) (w : World) (hx : 0 ≤ x) (hy : 0 ≤ y) :
    (callFunc 129 #[.int .u64 x, .int .u64 y, .int .u64 0]).run Tryz.prog w = .ok (.value (.tuple #[.int .u64 ((x + y) % 18446744073709551616), .int .u64 ((x + y) / 18446744073709551616)])) w := by
  rw [run_callFunc_extern Tryz.func129 (by kernel_rfl) (by kernel_rfl) (by kernel_rfl) (e := add64Entry) (by kernel_rfl), run_add64 x y 0 hx hy (by omega) (by omega)]
  rw [Int.add_zero]; rfl

theorem more_any (hi lo n : Int) (w : World) (hh : 0 ≤ hi) (hh' : hi ≤ 18446744073709551614) (hl : 0 ≤ lo) (hl' : lo ≤ 18446744073709551615) (hn : 0 ≤ n) (hn' : n ≤ 18446744073709551615) :
    Calls Tryz.prog 102 #[.agg #[.int .u64 hi, .int .u64 lo], .int .u64 n] w fun e w' => e = .returned (.agg #[.int .u64 (hi + (lo + n) / 18446744073709551616), .int .u64 ((lo + n) % 18446744073709551616)]) ∧ Below w.heap.size w w' := by
  go_enter Tryz.func102, Tryz.ntmps102
  have hadd := fun w => run_add lo n w hl hn
  have e1 : IntKind.u64.wrap (hi + (lo + n) / 18446744073709551616) = hi + (lo + n) / 18446744073709551616 := by rw [IntKind.wrap_u64]; omega
  go_wp2
  refine bodyPost_ret (v := .agg #[.int .u64 (hi + (lo + n) / 18446744073709551616), .int .u64 ((lo + n) % 18446744073709551616)]) ?_ rfl ?_
  · simp [results, Tryz.results102, go_sem]
  · exact ⟨rfl, ((Below.refl _ _).alloc (Nat.le_refl _) _).alloc (by simp) _⟩

theorem by_big (hi lo c : Int) (w : World) (hh : c ≤ hi) :
    Calls Tryz.prog 103 #[.agg #[.int .u64 hi, .int .u64 lo], .int .u64 c] w fun e w' => e = .returned (.tuple #[.int .u64 0, .bool false]) ∧ Below w.heap.size w w' := by
  go_enter Tryz.func103, Tryz.ntmps103
  go_wp2
  go_ret2
  exact ⟨rfl, (Below.refl _ _).alloc (Nat.le_refl _) _⟩

theorem by_any (hi lo c : Int) (w : World) (hh : 0 ≤ hi) (hc : hi < c) (hc' : c ≤ 18446744073709551615) (hl : 0 ≤ lo) (hl' : lo ≤ 18446744073709551615) :
    Calls Tryz.prog 103 #[.agg #[.int .u64 hi, .int .u64 lo], .int .u64 c] w fun e w' => e = .returned (.tuple #[.int .u64 ((hi * 18446744073709551616 + lo) / c), .bool (decide ((hi * 18446744073709551616 + lo) / c ≤ 9223372036854775807))]) ∧ Below w.heap.size w w' := by
  by_cases h0 : hi = 0
  · subst h0
    have he : (0 * 18446744073709551616 + lo) = lo := by omega
    rw [he]
    go_enter Tryz.func103, Tryz.ntmps103
    go_wp2_with (go_at_call 130; refine (div_zero lo c _ hl hl' hc hc').mono ?_; rintro e w' ⟨rfl, n, rfl⟩)
    go_ret2
    exact ⟨rfl, below_drewN ((Below.refl _ _).alloc (Nat.le_refl _) _) _⟩
  · go_enter Tryz.func103, Tryz.ntmps103
    go_wp2_with (go_at_call 130; refine (div_any hi lo c _ (by omega) hl hl' hc hc').mono ?_; rintro e w' ⟨r, rfl, rfl⟩)
    go_ret2
    exact ⟨rfl, (Below.refl _ _).alloc (Nat.le_refl _) _⟩


/-- the deferred call: nothing is turned beside OK -/
theorem none_ok (n e : Addr) (u : _) (w : World) (hcell : w.cell? e = some (.int .i64 0)) :
    CallsD Tryz.prog 97 #[.pointer (some n), .pointer (some e)] u w fun x u' w' => u' = u ∧ (x = .returned (.tuple #[]) ∧ w' = w) := by
  go_enter_d Tryz.func97, Tryz.ntmps97
  go_wp2
  go_end0
  exact ⟨rfl, rfl⟩

theorem none_err (n e : Addr) (k v : Int) (u : _) (w : World) (hcell : w.cell? e = some (.int .i64 k)) (hk : (k != 0) = true) (hn : w.cell? n = some (.int .i64 v)) (hf : w.frozen? n = false) :
    CallsD Tryz.prog 97 #[.pointer (some n), .pointer (some e)] u w fun x u' w' => u' = u ∧ (x = .returned (.tuple #[]) ∧ w' = w.setCell n (.int .i64 0)) := by
  go_enter_d Tryz.func97, Tryz.ntmps97
  go_wp2
  go_end0
  exact ⟨rfl, rfl⟩

theorem md_bad (a b c : Int) (up : Bool) (w : World) (h : a < 0 ∨ (0 ≤ a ∧ b < 0) ∨ (0 ≤ a ∧ 0 ≤ b ∧ c < 1)) :
    Calls Tryz.prog 74 #[.int .i64 a, .int .i64 b, .int .i64 c, .bool up] w fun e w' => e = .returned (.tuple #[.int .i64 0, .int .i64 2]) ∧ Below w.heap.size w w' := by
  rcases h with h | ⟨h1, h⟩ | ⟨h1, h2, h⟩
  all_goals
    go_enter_defers Tryz.func74, Tryz.ntmps74
    go_wp2
    refine leaves_cons (f := 97) (args := #[.pointer (some ⟨w.heap.size, 0, none⟩), .pointer (some ⟨w.heap.size + 1, 0, none⟩)]) (by simp) (by simp [go_sem]) ?_
    refine (none_err _ _ 2 0 _ _ (by go_simp) (by decide) (by go_simp) (by go_simp)).mono ?_
    rintro e u' w' ⟨rfl, rfl, rfl⟩
    exact ⟨.tuple #[.int .i64 0, .int .i64 2], by simp [results, Tryz.results74, go_sem], rfl, (((Below.refl _ _).alloc (Nat.le_refl _) _).alloc (by simp) _).setCell (by simp) _⟩

theorem times_v (a b hi lo : Int) (w : World) (ha : 0 ≤ a) (ha' : a ≤ 9223372036854775807) (hb : 0 ≤ b) (hb' : b ≤ 9223372036854775807) (h1 : a * b / 18446744073709551616 = hi) (h2 : a * b % 18446744073709551616 = lo) :
    Calls Tryz.prog 101 #[.int .i64 a, .int .i64 b] w fun e w' => e = .returned (.agg #[.int .u64 hi, .int .u64 lo]) ∧ Below w.heap.size w w' := by
  subst h1 h2; exact times_any a b w ha ha' hb hb'
theorem more_v (hi lo n hi2 lo2 : Int) (w : World) (hh : 0 ≤ hi) (hh' : hi ≤ 18446744073709551614) (hl : 0 ≤ lo) (hl' : lo ≤ 18446744073709551615) (hn : 0 ≤ n) (hn' : n ≤ 18446744073709551615)
    (h1 : hi + (lo + n) / 18446744073709551616 = hi2) (h2 : (lo + n) % 18446744073709551616 = lo2) :
    Calls Tryz.prog 102 #[.agg #[.int .u64 hi, .int .u64 lo], .int .u64 n] w fun e w' => e = .returned (.agg #[.int .u64 hi2, .int .u64 lo2]) ∧ Below w.heap.size w w' := by
  subst h1 h2; exact more_any hi lo n w hh hh' hl hl' hn hn'
/-- what a division tells -/
def ByRes (hi lo c q : Int) (ok : Bool) : Prop := (c ≤ hi ∧ q = 0 ∧ ok = false) ∨ (hi < c ∧ q = (hi * 18446744073709551616 + lo) / c ∧ ok = decide (q ≤ 9223372036854775807))
theorem by_v (hi lo c q : Int) (ok : Bool) (w : World) (hh : 0 ≤ hi) (hc' : c ≤ 18446744073709551615) (hl : 0 ≤ lo) (hl' : lo ≤ 18446744073709551615) (h : ByRes hi lo c q ok) :
    Calls Tryz.prog 103 #[.agg #[.int .u64 hi, .int .u64 lo], .int .u64 c] w fun e w' => e = .returned (.tuple #[.int .u64 q, .bool ok]) ∧ Below w.heap.size w w' := by
  rcases h with ⟨h, rfl, rfl⟩ | ⟨h, rfl, rfl⟩
  · exact by_big hi lo c w h
  · exact by_any hi lo c w hh h hc' hl hl'

theorem byRes (N c hi lo : Int) (hN : 0 ≤ N) (h1 : 1 ≤ c) (hc : c ≤ 9223372036854775807) (eh : N / 18446744073709551616 = hi) (el : N % 18446744073709551616 = lo) :
    ∃ q ok, ByRes hi lo c q ok ∧ 0 ≤ q ∧ ((ok = true ∧ q = N / c ∧ q ≤ 9223372036854775807) ∨ (ok = false ∧ 9223372036854775807 < N / c)) := by
  by_cases h : c ≤ hi
  · refine ⟨0, false, .inl ⟨h, rfl, rfl⟩, by omega, .inr ⟨rfl, ?_⟩⟩
    have : 9223372036854775808 ≤ N / c := by
      refine Int.le_ediv_of_mul_le (by omega) ?_
      omega
    omega
  · have e : hi * 18446744073709551616 + lo = N := by omega
    have hq : 0 ≤ N / c := Int.ediv_nonneg hN (by omega)
    refine ⟨N / c, decide (N / c ≤ 9223372036854775807), .inr ⟨by omega, by rw [e], rfl⟩, hq, ?_⟩
    by_cases hm : N / c ≤ 9223372036854775807
    · exact .inl ⟨by simp [hm], rfl, hm⟩
    · exact .inr ⟨by simp [hm], by omega⟩

theorem lt1 (n : Nat) : n < n + 1 + 1 := by omega

theorem md_walk (a b c hi lo hi2 lo2 q : Int) (up ok : Bool) (w : World) (ha : 0 ≤ a) (ha' : a ≤ 9223372036854775807) (hb : 0 ≤ b) (hb' : b ≤ 9223372036854775807) (hc : 1 ≤ c) (hc' : c ≤ 9223372036854775807)
    (h1 : Hid (a * b / 18446744073709551616 = hi)) (h2 : Hid (a * b % 18446744073709551616 = lo)) (b1 : 0 ≤ hi) (b2 : hi ≤ 9223372036854775807) (b3 : 0 ≤ lo) (b4 : lo ≤ 18446744073709551615)
    (h3 : Hid (hi + (lo + (if up then c - 1 else 0)) / 18446744073709551616 = hi2)) (h4 : Hid ((lo + (if up then c - 1 else 0)) % 18446744073709551616 = lo2)) (b5 : 0 ≤ hi2) (b6 : 0 ≤ lo2) (b7 : lo2 ≤ 18446744073709551615)
    (h5 : ByRes hi2 lo2 c q ok) (hq0 : 0 ≤ q) (hq : ok = true → q ≤ 9223372036854775807) :
    Calls Tryz.prog 74 #[.int .i64 a, .int .i64 b, .int .i64 c, .bool up] w fun e w' => e = .returned (.tuple (if ok then #[.int .i64 q, .int .i64 0] else #[.int .i64 0, .int .i64 6])) ∧ Below w.heap.size w w' := by
  have e1 : IntKind.u64.wrap c = c := by rw [IntKind.wrap_u64]; omega
  have e2 : IntKind.u64.wrap (c - 1) = c - 1 := by rw [IntKind.wrap_u64]; omega
  cases up
  · have g1 : hi2 = hi := by have := h3.out; simp at this; omega
    have g2 : lo2 = lo := by have := h4.out; simp at this; omega
    subst g1 g2
    go_enter_defers Tryz.func74, Tryz.ntmps74
    go_wp2_with fail
    refine (times_v a b hi2 lo2 _ ha ha' hb hb' h1.out h2.out).mono ?_
    rintro e w1 ⟨rfl, hb1⟩
    obtain ⟨kc, kf⟩ := bcell hb1
    have hz : w.heap.size + 1 < w1.heap.size := by have := hb1.size; simp at this; omega
    go_wp2_with fail
    refine (by_v hi2 lo2 c q ok _ (by omega) (by omega) b3 b4 h5).mono ?_
    rintro e w2 ⟨rfl, hb2⟩
    have cn := (((show Cell _ w.heap.size 0 (.int .i64 0) from ⟨by go_simp, by go_simp⟩ : Cell ((w.alloc (Obj.cells #[Value.int IntKind.i64 0] 3)).alloc (Obj.cells #[Value.int IntKind.i64 0] 45)) _ _ _).below hb1 (by simpa using lt1 _)).alloc _).below hb2 (by simp; omega)
    have ce := (((show Cell _ (w.heap.size + 1) 0 (.int .i64 0) from ⟨by go_simp, by go_simp⟩ : Cell ((w.alloc (Obj.cells #[Value.int IntKind.i64 0] 3)).alloc (Obj.cells #[Value.int IntKind.i64 0] 45)) _ _ _).below hb1 (by simp)).alloc _).below hb2 (by simp; omega)
    obtain ⟨cn, fn⟩ := cn
    obtain ⟨ce, fe⟩ := ce
    have hbw : Below w.heap.size w w2 := (((((Below.refl _ _).alloc (Nat.le_refl _) _).alloc (by simp) _).trans (hb1.mono (by simp; omega))).alloc (by omega) _).trans (hb2.mono (by simp; omega))
    clear kc kf hb1 hb2 e1 e2
    cases ok
    · go_wp2_with fail
      refine leaves_cons (f := 97) (args := #[.pointer (some ⟨w.heap.size, 0, none⟩), .pointer (some ⟨w.heap.size + 1, 0, none⟩)]) (by simp) (by simp [go_sem]) ?_
      refine (none_err _ _ 6 (wrap64 q) _ _ (by go_simp) (by decide) (by go_simp) (by go_simp)).mono ?_
      rintro e u' w' ⟨rfl, rfl, rfl⟩
      exact ⟨.tuple #[.int .i64 0, .int .i64 6], by simp [results, Tryz.results74, go_sem, cn, ce, fn, fe], rfl, ((hbw.setCell (by simp) _).setCell (by simp) _).setCell (by simp) _⟩
    · have hq := hq rfl
      go_wp2_with fail
      refine leaves_cons (f := 97) (args := #[.pointer (some ⟨w.heap.size, 0, none⟩), .pointer (some ⟨w.heap.size + 1, 0, none⟩)]) (by simp) (by simp [go_sem]) ?_
      refine (none_ok _ _ _ _ (by go_simp)).mono ?_
      rintro e u' w' ⟨rfl, rfl, rfl⟩
      exact ⟨.tuple #[.int .i64 q, .int .i64 0], by simp [results, Tryz.results74, go_sem, cn, ce, fn, fe], rfl, (hbw.setCell (by simp) _).setCell (by simp) _⟩
  · have g3 : Hid (hi + (lo + (c - 1)) / 18446744073709551616 = hi2) := Lib.hid (by have := h3.out; simpa using this)
    have g4 : Hid ((lo + (c - 1)) % 18446744073709551616 = lo2) := Lib.hid (by have := h4.out; simpa using this)
    go_enter_defers Tryz.func74, Tryz.ntmps74
    go_wp2_with fail
    refine (times_v a b hi lo _ ha ha' hb hb' h1.out h2.out).mono ?_
    rintro e w1 ⟨rfl, hb1⟩
    obtain ⟨kc, kf⟩ := bcell hb1
    have hz : w.heap.size + 1 < w1.heap.size := by have := hb1.size; simp at this; omega
    go_wp2_with fail
    refine (more_v hi lo (c - 1) hi2 lo2 _ b1 (by omega) b3 b4 (by omega) (by omega) g3.out g4.out).mono ?_
    rintro e w1b ⟨rfl, hb1b⟩
    have cd := (show Cell _ w1.heap.size 0 (.int .u64 hi) from ⟨by go_simp, by go_simp⟩ : Cell (w1.alloc (Obj.cells #[Value.int IntKind.u64 hi, Value.int IntKind.u64 lo] 167)) _ _ _).below hb1b (by simp)
    have cd2 := (show Cell _ w1.heap.size 1 (.int .u64 lo) from ⟨by go_simp, by go_simp⟩ : Cell (w1.alloc (Obj.cells #[Value.int IntKind.u64 hi, Value.int IntKind.u64 lo] 167)) _ _ _).below hb1b (by simp)
    have hzb : w1.heap.size < w1b.heap.size := by have := hb1b.size; simp at this; omega
    have cn := (((show Cell _ w.heap.size 0 (.int .i64 0) from ⟨by go_simp, by go_simp⟩ : Cell ((w.alloc (Obj.cells #[Value.int IntKind.i64 0] 3)).alloc (Obj.cells #[Value.int IntKind.i64 0] 45)) _ _ _).below hb1 (by simpa using lt1 _)).alloc _).below hb1b (by simp; omega)
    have ce := (((show Cell _ (w.heap.size + 1) 0 (.int .i64 0) from ⟨by go_simp, by go_simp⟩ : Cell ((w.alloc (Obj.cells #[Value.int IntKind.i64 0] 3)).alloc (Obj.cells #[Value.int IntKind.i64 0] 45)) _ _ _).below hb1 (by simp)).alloc _).below hb1b (by simp; omega)
    have hbw1 : Below w.heap.size w w1b := (((((Below.refl _ _).alloc (Nat.le_refl _) _).alloc (by simp) _).trans (hb1.mono (by simp; omega))).alloc (by omega) _).trans (hb1b.mono (by simp; omega))
    clear kc kf hb1 hb1b
    obtain ⟨cd, fd⟩ := cd
    obtain ⟨cd2, fd2⟩ := cd2
    go_wp2_with fail
    refine (by_v hi2 lo2 c q ok _ b5 (by omega) b6 b7 h5).mono ?_
    rintro e w2 ⟨rfl, hb2⟩
    have cn := ((cn.set ⟨w1.heap.size, 0, none⟩ (.int .u64 hi2) (by simp; omega)).set ⟨w1.heap.size, 1, none⟩ (.int .u64 lo2) (by simp; omega)).below hb2 (by simp; omega)
    have ce := ((ce.set ⟨w1.heap.size, 0, none⟩ (.int .u64 hi2) (by simp; omega)).set ⟨w1.heap.size, 1, none⟩ (.int .u64 lo2) (by simp; omega)).below hb2 (by simp; omega)
    obtain ⟨cn, fn⟩ := cn
    obtain ⟨ce, fe⟩ := ce
    have hbw : Below w.heap.size w w2 := ((hbw1.setCell (by simp; omega) _).setCell (by simp; omega) _).trans (hb2.mono (by simp; omega))
    clear cd cd2 fd fd2
    clear hbw1 hb2 e1 e2
    cases ok
    · go_wp2_with fail
      refine leaves_cons (f := 97) (args := #[.pointer (some ⟨w.heap.size, 0, none⟩), .pointer (some ⟨w.heap.size + 1, 0, none⟩)]) (by simp) (by simp [go_sem]) ?_
      refine (none_err _ _ 6 (wrap64 q) _ _ (by go_simp) (by decide) (by go_simp) (by go_simp)).mono ?_
      rintro e u' w' ⟨rfl, rfl, rfl⟩
      exact ⟨.tuple #[.int .i64 0, .int .i64 6], by simp [results, Tryz.results74, go_sem, cn, ce, fn, fe], rfl, ((hbw.setCell (by simp) _).setCell (by simp) _).setCell (by simp) _⟩
    · have hq := hq rfl
      go_wp2_with fail
      refine leaves_cons (f := 97) (args := #[.pointer (some ⟨w.heap.size, 0, none⟩), .pointer (some ⟨w.heap.size + 1, 0, none⟩)]) (by simp) (by simp [go_sem]) ?_
      refine (none_ok _ _ _ _ (by go_simp)).mono ?_
      rintro e u' w' ⟨rfl, rfl, rfl⟩
      exact ⟨.tuple #[.int .i64 q, .int .i64 0], by simp [results, Tryz.results74, go_sem, cn, ce, fn, fe], rfl, (hbw.setCell (by simp) _).setCell (by simp) _⟩

/-- EVERY PRODUCT BY A NUMBER. -/
theorem md_any (a b c : Int) (up : Bool) (w : World) (ha : -9223372036854775808 ≤ a) (ha' : a ≤ 9223372036854775807) (hb : -9223372036854775808 ≤ b) (hb' : b ≤ 9223372036854775807) (hc : -9223372036854775808 ≤ c) (hc' : c ≤ 9223372036854775807) :
    Calls Tryz.prog 74 #[.int .i64 a, .int .i64 b, .int .i64 c, .bool up] w fun e w' => e = .returned (.tuple #[.int .i64 (md a b c up).1, .int .i64 (md a b c up).2]) ∧ Below w.heap.size w w' := by
  by_cases hbad : a < 0 ∨ b < 0 ∨ c < 1
  · have : md a b c up = (0, 2) := by unfold md; rw [if_pos hbad]
    rw [this]
    exact md_bad a b c up w (by omega)
  · have h1 : 0 ≤ a := by omega
    have h2 : 0 ≤ b := by omega
    have h3 : 1 ≤ c := by omega
    have hp0 : 0 ≤ a * b := Int.mul_nonneg h1 h2
    have hp1 : a * b ≤ 9223372036854775807 * 9223372036854775807 := Int.mul_le_mul ha' hb' h2 (by omega)
    have hN : ∃ N, N = a * b + (if up then c - 1 else 0) ∧ a * b ≤ N ∧ N ≤ a * b + 9223372036854775806 := ⟨_, rfl, by split <;> omega, by split <;> omega⟩
    obtain ⟨N, eN, n1, n2⟩ := hN
    obtain ⟨q, ok, r, q0, hq⟩ := byRes N c (N / 18446744073709551616) (N % 18446744073709551616) (by omega) h3 hc' rfl rfl
    have hmq : mdQ a b c up = N / c := by rw [eN]; unfold mdQ; cases up <;> simp
    have hm : md a b c up = if ok then (q, 0) else (0, 6) := by
      unfold md
      rw [if_neg hbad, hmq]
      rcases hq with ⟨rfl, e, hl⟩ | ⟨rfl, hl⟩
      · rw [if_pos (by omega), e]; rfl
      · rw [if_neg (by omega)]; rfl
    have k := md_walk a b c (a * b / 18446744073709551616) (a * b % 18446744073709551616) (N / 18446744073709551616) (N % 18446744073709551616) q up ok w h1 ha' h2 hb' h3 hc' (Lib.hid rfl) (Lib.hid rfl)
      (by omega) (by omega) (by omega) (by omega) (Lib.hid (by rw [eN]; omega)) (Lib.hid (by rw [eN]; omega)) (by omega) (by omega) (by omega) r q0 (by rcases hq with ⟨_, _, hl⟩ | ⟨rfl, _⟩; exact fun _ => hl; exact fun h => by cases h)
    rw [hm]
    refine k.mono fun e w' h => ?_
    obtain ⟨h, hb⟩ := h
    refine ⟨?_, hb⟩
    rw [h]; cases ok <;> rfl


end Go.Proofs.YtlafeijkpnpdeaaGreat.WideB

/- Oscillators: the plain numbers. -/
namespace Go.Proofs.YtlafeijkpnpdeaaGreat.OscPlain
set_option linter.unusedVariables false
set_option linter.unusedSimpArgs false
open WideB (md mdQ)

def bad (h p : Int) : Prop := h < 1 ∨ 1000000 < h ∨ p < -999999 ∨ 999999 < p
instance (h p : Int) : Decidable (bad h p) := by unfold bad; exact inferInstance
def chk (h p : Int) : Int := if bad h p then 2 else 0
/-- how much an oscillator runs -/
def dd (h p : Int) : Int := h * (1000000 + p)
theorem dd_bd {h p : Int} (hb : ¬ bad h p) : 1 ≤ dd h p ∧ dd h p ≤ 1999999000000 ∧ 1 ≤ 1000000 + p ∧ 1000000 + p ≤ 1999999 ∧ 1 ≤ h ∧ h ≤ 1000000 := by
  unfold bad at hb
  have h1 : 1 ≤ h := by omega
  have h2 : h ≤ 1000000 := by omega
  have h3 : 1 ≤ 1000000 + p := by omega
  have h4 : 1000000 + p ≤ 1999999 := by omega
  have a : 1 * (1000000 + p) ≤ h * (1000000 + p) := Int.mul_le_mul_of_nonneg_right h1 (by omega)
  have b : h * (1000000 + p) ≤ 1000000 * (1000000 + p) := Int.mul_le_mul_of_nonneg_right h2 (by omega)
  unfold dd
  omega
def el (h p n : Int) : Int × Int := if bad h p ∨ n < 0 ∨ 1000000000000 < n then (0, 2) else md n 1000000000000000 (dd h p) true
def fits (h p n ns : Int) : Bool := (el h p n).2 == 0 && decide ((el h p n).1 ≤ ns)

theorem ceil_le (N D ns : Int) (hD : 0 < D) : (N + (D - 1)) / D ≤ ns ↔ N ≤ ns * D := by
  rw [← Int.lt_add_one_iff, Int.ediv_lt_iff_lt_mul hD, Int.add_mul]
  omega

theorem fits_iff {h p n ns : Int} (hb : ¬ bad h p) (h0 : 0 ≤ n) (h1 : n ≤ 1000000000000) (hns : ns ≤ 9223372036854775807) : fits h p n ns = true ↔ n * 1000000000000000 ≤ ns * dd h p := by
  obtain ⟨d1, d2, _⟩ := dd_bd hb
  have c := ceil_le (n * 1000000000000000) (dd h p) ns (by omega)
  have hnb : ¬ (bad h p ∨ n < 0 ∨ 1000000000000 < n) := fun h => by rcases h with h | h | h; exact hb h; omega; omega
  have hm : md n 1000000000000000 (dd h p) true = if (n * 1000000000000000 + (dd h p - 1)) / dd h p ≤ 9223372036854775807 then ((n * 1000000000000000 + (dd h p - 1)) / dd h p, 0) else (0, 6) := by
    unfold md mdQ; rw [if_neg (by omega)]; rfl
  unfold fits el
  rw [if_neg hnb, hm, ← c]
  split
  · simp
  · simp; omega

theorem el_bd (h p n : Int) : 0 ≤ (el h p n).2 ∧ (el h p n).2 ≤ 6 := by
  unfold el; split
  · simp
  · unfold md; split
    · simp
    · split <;> simp

/-- how many fit -/
def cnt (h p ns : Int) : Int := if 1000000000000 * 1000000000000000 ≤ ns * dd h p then 1000000000000 else ns * dd h p / 1000000000000000
def cn (h p ns : Int) : Int × Int := if bad h p ∨ ns < 0 then (0, 2) else (cnt h p ns, 0)

theorem cnt_bd {h p ns : Int} (hb : ¬ bad h p) (h0 : 0 ≤ ns) : 0 ≤ cnt h p ns ∧ cnt h p ns ≤ 1000000000000 := by
  obtain ⟨d1, d2, _⟩ := dd_bd hb
  have hp : 0 ≤ ns * dd h p := Int.mul_nonneg h0 (by omega)
  unfold cnt; split <;> omega
theorem cnt_iff {h p ns k : Int} (hb : ¬ bad h p) (h0 : 0 ≤ ns) (h1 : k * 1000000000000000 ≤ ns * dd h p) (h2 : k ≤ 1000000000000) (h3 : k < 1000000000000 → ns * dd h p < (k + 1) * 1000000000000000) : k = cnt h p ns := by
  unfold cnt; split <;> omega
theorem cnt_fits {h p ns : Int} (hb : ¬ bad h p) (h0 : 0 ≤ ns) : cnt h p ns * 1000000000000000 ≤ ns * dd h p ∧ (cnt h p ns < 1000000000000 → ns * dd h p < (cnt h p ns + 1) * 1000000000000000) := by
  obtain ⟨d1, d2, _⟩ := dd_bd hb
  have hp : 0 ≤ ns * dd h p := Int.mul_nonneg h0 (by omega)
  unfold cnt; split <;> omega

/-- what a search by halves tells -/
structure Last (f t : Int) (p : Int → Bool) (r : Int) : Prop where
  lo : f - 1 ≤ r
  hi : r ≤ t
  yes : f ≤ r → p r = true
  no : r < t → p (r + 1) = false

theorem last_cnt {h p ns r : Int} (hb : ¬ bad h p) (h0 : 0 ≤ ns) (hns : ns ≤ 9223372036854775807) (hr : Last 0 1000000000000 (fun n => fits h p n ns) r) : r = cnt h p ns := by
  obtain ⟨d1, d2, _⟩ := dd_bd hb
  have hp : 0 ≤ ns * dd h p := Int.mul_nonneg h0 (by omega)
  have hlo := hr.lo; have hhi := hr.hi
  have h1 : 0 ≤ r := by
    refine Int.not_lt.1 fun hlt => ?_
    have e : r = -1 := by omega
    have hn := hr.no (by omega)
    rw [e] at hn
    have := (fits_iff (n := 0) (ns := ns) hb (by omega) (by omega) hns).2 (by omega)
    have hn' : fits h p 0 ns = false := hn
    rw [this] at hn'
    cases hn'
  refine cnt_iff hb h0 ?_ hhi fun hlt => ?_
  · exact (fits_iff hb h1 hhi hns).1 (hr.yes h1)
  · have hn : fits h p (r + 1) ns = false := hr.no hlt
    refine Int.not_le.1 fun hle => ?_
    have := (fits_iff (n := r + 1) (ns := ns) hb (by omega) (by omega) hns).2 hle
    rw [this] at hn
    cases hn

/-- the reference's count -/
theorem md_cnt {h p ns : Int} (hb : ¬ bad h p) (h0 : 0 ≤ ns) :
    cnt h p ns = if (md ns (dd h p) 1000000000000000 false).2 ≠ 0 ∨ 1000000000000 < (md ns (dd h p) 1000000000000000 false).1 then 1000000000000 else (md ns (dd h p) 1000000000000000 false).1 := by
  obtain ⟨d1, d2, _⟩ := dd_bd hb
  have hp : 0 ≤ ns * dd h p := Int.mul_nonneg h0 (by omega)
  have hm : md ns (dd h p) 1000000000000000 false = if ns * dd h p / 1000000000000000 ≤ 9223372036854775807 then (ns * dd h p / 1000000000000000, 0) else (0, 6) := by
    unfold md mdQ; rw [if_neg (by omega)]; rfl
  rw [hm]
  unfold cnt
  by_cases hq : ns * dd h p / 1000000000000000 ≤ 9223372036854775807
  · rw [if_pos hq]
    simp only [ne_eq, not_true_eq_false, false_or]
    split <;> split <;> omega
  · rw [if_neg hq]
    simp only [ne_eq]
    rw [if_pos (by omega), if_pos (by left; decide)]
end Go.Proofs.YtlafeijkpnpdeaaGreat.OscPlain

/- The reference's MulDiv: what the document says of products by numbers. -/
namespace Go.Proofs.YtlafeijkpnpdeaaGreat.RefC
open Go.RowKit Base RefA RefB Long
open WideB (md mdQ)
set_option linter.unusedVariables false
set_option linter.unusedSimpArgs false

theorem mdQ_nat (a b c : Nat) (hc : 0 < c) (up : Bool) : mdQ a b c up = ((if up = true ∧ 0 < a * b % c then a * b / c + 1 else a * b / c : Nat) : Int) := by
  unfold mdQ
  cases up
  · simp
  · have h := ceil (a * b) c hc
    have e : ((a : Int) * b + ((c : Int) - 1)) / c = (((a * b + (c - 1)) / c : Nat) : Int) := by
      rw [Int.natCast_ediv]; congr 1; rw [Int.natCast_add, Int.natCast_mul]; omega
    simp only [if_true, true_and]
    rw [e, h]

theorem md_nat (a b c : Nat) (hc : 0 < c) (up : Bool) (q : Nat) (h : (if up = true ∧ 0 < a * b % c then a * b / c + 1 else a * b / c) = q) : md a b c up = if q ≤ 9223372036854775807 then ((q : Int), 0) else (0, 6) := by
  unfold md
  rw [if_neg (by omega), mdQ_nat a b c hc, h]
  by_cases hq : q ≤ 9223372036854775807
  · rw [if_pos (by omega), if_pos hq]
  · rw [if_neg (by omega), if_neg hq]

theorem bad (a b c : Int) (up : Bool) (w : World) (h : a < 0 ∨ (0 ≤ a ∧ b < 0) ∨ (0 ≤ a ∧ 0 ≤ b ∧ c < 1)) :
    Calls Tryz.prog 34 #[.int .i64 a, .int .i64 b, .int .i64 c, .bool up] w fun e w' => e = .returned (.tuple #[.int .i64 0, .int .i64 2]) ∧ Below w.heap.size w w' := by
  rcases h with h | ⟨h1, h⟩ | ⟨h1, h2, h⟩
  all_goals
    go_enter Tryz.func34, Tryz.ntmps34
    go_wp2
    go_ret2
    exact ⟨rfl, Below.refl _ _⟩

theorem ret2 {k : IntKind} {a b : Int} {y : Value} (h : a = b) : Ending.returned (.tuple #[.int k a, y]) = .returned (.tuple #[.int k b, y]) := by rw [h]

set_option maxHeartbeats 1000000 in
theorem little (a b c q r P : Nat) (n : Int) (up : Bool) (w : World) (ha : a ≤ 9223372036854775807) (hb : b ≤ 9223372036854775807) (hc : 1 ≤ c) (hc' : c ≤ 9223372036854775807)
    (h0 : 1 ≤ a) (hab : (b : Int) ≤ 9223372036854775807 / (a : Int)) (hP : P ≤ 9223372036854775807) (eP : IntKind.i64.wrap ((a : Int) * b) = P) (eP2 : wrap64 ((a : Int) * b) = P) (eq : (P : Int) / c = q) (er : (P : Int) % c = r) (hq : q ≤ 9223372036854775807)
    (hr : 0 < r → q ≤ 4611686018427387903) (hn : Hid (((if up = true ∧ 0 < r then q + 1 else q : Nat) : Int) = n)) :
    Calls Tryz.prog 34 #[.int .i64 a, .int .i64 b, .int .i64 c, .bool up] w fun e w' => e = .returned (.tuple #[.int .i64 n, .int .i64 0]) ∧ Below w.heap.size w w' := by
  have hq2 : IntKind.i64.wrap (q : Int) = q := IntWalk.i64_in _ (by omega)
  have hz : ((a : Int) == 0) = false := by simp; omega
  cases up
  · go_enter Tryz.func34, Tryz.ntmps34
    go_wp2
    go_ret2
    exact ⟨ret2 (by have h := hn.out; simpa using h), Below.refl _ _⟩
  · by_cases hr0 : 0 < r
    · have hr1 := hr hr0
      have hd : decide ((0 : Int) < (r : Int)) = true := by simp; omega
      have hd2 : (0 : Int) < (r : Int) := by omega
      go_enter Tryz.func34, Tryz.ntmps34
      go_wp2
      go_ret2
      exact ⟨ret2 (by have h := hn.out; simp [hr0] at h; omega), Below.refl _ _⟩
    · have hd : decide ((0 : Int) < (r : Int)) = false := by simp; omega
      have hd2 : (r : Int) ≤ 0 := by omega
      go_enter Tryz.func34, Tryz.ntmps34
      go_wp2
      go_ret2
      exact ⟨ret2 (by have h := hn.out; simp [hr0] at h; omega), Below.refl _ _⟩

theorem none_ (b c : Nat) (up : Bool) (w : World) (hb : b ≤ 9223372036854775807) (hc : 1 ≤ c) (hc' : c ≤ 9223372036854775807) :
    Calls Tryz.prog 34 #[.int .i64 (0 : Nat), .int .i64 b, .int .i64 c, .bool up] w fun e w' => e = .returned (.tuple #[.int .i64 0, .int .i64 0]) ∧ Below w.heap.size w w' := by
  have e1 : (0 : Int) / (c : Int) = 0 := by simp
  have e2 : (0 : Int) % (c : Int) = 0 := by simp
  cases up
  all_goals
    go_enter Tryz.func34, Tryz.ntmps34
    go_wp2
    go_ret2
    exact ⟨rfl, Below.refl _ _⟩

set_option maxRecDepth 100000 in
set_option maxHeartbeats 4000000 in
theorem bigX : True := trivial

theorem fin (a b c q left : Nat) (over up : Bool) (hc : 0 < c) (h : At (a * b) c 0 q left over) :
    md a b c up = if over = true then (0, 6) else if up = true ∧ 0 < left then (if q = 9223372036854775807 then (0, 6) else ((q : Int) + 1, 0)) else ((q : Int), 0) := by
  have hm := md_nat a b c hc up _ rfl
  have hl := h.l
  rw [Nat.pow_zero, Nat.div_one] at hl
  rw [hm, ← hl]
  cases over with
  | true =>
    have hy := h.yes rfl
    rw [Nat.pow_zero, Nat.div_one] at hy
    rw [if_neg (by split <;> omega), if_pos rfl]
  | false =>
    obtain ⟨e, hle⟩ := h.no rfl
    rw [Nat.pow_zero, Nat.div_one] at e
    rw [← e, if_neg (show ¬ (false = true) by simp)]
    by_cases hu : up = true ∧ 0 < left
    · rw [if_pos hu, if_pos hu]
      by_cases hq : q = 9223372036854775807
      · rw [if_neg (by omega), if_pos hq]
      · rw [if_pos (by omega), if_neg hq]; simp
    · rw [if_neg hu, if_neg hu, if_pos hle]

set_option maxRecDepth 100000 in
set_option maxHeartbeats 4000000 in
theorem big (a b c : Nat) (up : Bool) (n e2 : Int) (w : World) (ha : a ≤ 9223372036854775807) (hb : b ≤ 9223372036854775807) (hc : 1 ≤ c) (hc' : c ≤ 9223372036854775807)
    (h0 : 1 ≤ a) (hab : 9223372036854775807 / (a : Int) < (b : Int)) (hn : Hid (md a b c up = (n, e2))) :
    Calls Tryz.prog 34 #[.int .i64 a, .int .i64 b, .int .i64 c, .bool up] w fun e w' => e = .returned (.tuple #[.int .i64 n, .int .i64 e2]) ∧ Below w.heap.size w w' := by
  have hz : ((a : Int) == 0) = false := by simp; omega
  have hN144 : a * b < 2 ^ 144 := by
    have h1 : a * b ≤ 9223372036854775807 * 9223372036854775807 := Nat.mul_le_mul ha hb
    exact Nat.lt_of_le_of_lt h1 (by decide)
  have hS := Lib.hid (At.start (a * b) c hN144)
  clear hN144
  go_enter Tryz.func34, Tryz.ntmps34
  go_wp2_with fail
  refine (product_any a b _ ha hb).mono ?_
  rintro e w1 ⟨G, rfl, hown, hbel⟩
  have ho : Hid (∀ j, j < 9 → w1.cell? ⟨G, j, none⟩ = some (.int .i64 (dg (a * b) j))) := fun j hj => by rw [hown.cellAt j (by omega), row_get _ _ _ hj]
  have hdl : Hid (∀ j, j < 9 → dg (a * b) j < 65536) := fun j _ => dg_lt _ _
  have hB := Lib.hid hbel
  clear hown hbel
  go_upto_block 0 with fail
  go_cut [12, 13, 14] (fun q o l wc => ∃ (q' left' : Nat) (over' : Bool), q = .int .i64 q' ∧ o = .bool over' ∧ l = .int .u64 left' ∧ wc = w1 ∧ Hid (At (a * b) c 0 q' left' over'))
  case first =>
    go_wp2_with fail
    go_loopw [12, 13, 14, 15] (fun q o l i wr => ∃ (kk q' left' : Nat) (over' : Bool), kk ≤ 144 ∧ i = .int .i64 ((kk : Int) - 1) ∧ q = .int .i64 q' ∧ o = .bool over' ∧ l = .int .u64 left' ∧ wr = w1 ∧ Hid (At (a * b) c kk q' left' over')) (fun _ _ _ i _ => (intOf i + 1).toNat)
    case atStart => exact ⟨144, 0, 0, false, by omega, rfl, rfl, rfl, rfl, rfl, hS⟩
    case round =>
      clear hS
      obtain ⟨kk, q, left, over, hk, rfl, rfl, rfl, rfl, rfl, hA⟩ := hrel
      have hq0 := hA.out.q0
      have hll := hA.out.left_lt (by omega)
      cases kk with
      | zero =>
        go_wp2_with fail
        go_meet
        exact ⟨q, left, over, rfl, rfl, rfl, rfl, hA⟩
      | succ k =>
        obtain ⟨t, ht⟩ : ∃ t, a * b / 2 ^ k % 2 = t := ⟨_, rfl⟩
        have ht2 : t ≤ 1 := by have : a * b / 2 ^ k % 2 < 2 := Nat.mod_lt _ (by omega)
                               omega
        have HT : Hid (((dg (a * b) (k / 16) / 2 ^ (k % 16) % 2 : Nat) : Int) = (t : Int)) := by
          show ((dg (a * b) (k / 16) / 2 ^ (k % 16) % 2 : Nat) : Int) = (t : Int)
          rw [bit_dg, ht]
        rw [show (((k + 1 : Nat) : Int) - 1) = (k : Int) from by omega]
        by_cases hle : c ≤ 2 * left + t
        · cases over
          · by_cases hbq : 4611686018427387903 < q
            · have hN := Lib.hid (hA.out.next' (by omega) ht rfl (.inl ⟨hle, rfl, rfl⟩) (one := 1) (left' := 2 * left + t - c) (q' := q) (over' := true) (.inl ⟨rfl, rfl, .inr hbq⟩))
              clear ht
              go_wp2_with (go_at_call 59; refine (bit_any G 9 9 (dg (a * b)) k t _ HT (by omega) (by omega) ho hdl).mono ?_; rintro e w' ⟨rfl, rfl⟩)
              all_goals
                go_roundw
                case rel => exact ⟨k, q, 2 * left + t - c, true, by omega, by go_num, by go_num, rfl, by go_num, (by first | rfl | trivial), hN⟩
                case measure => simp [intOf] <;> omega
            · have hN := Lib.hid (hA.out.next' (by omega) ht rfl (.inl ⟨hle, rfl, rfl⟩) (one := 1) (left' := 2 * left + t - c) (q' := 2 * q + 1) (over' := false) (.inr ⟨rfl, rfl, by omega, rfl⟩))
              clear ht
              go_wp2_with (go_at_call 59; refine (bit_any G 9 9 (dg (a * b)) k t _ HT (by omega) (by omega) ho hdl).mono ?_; rintro e w' ⟨rfl, rfl⟩)
              all_goals
                go_roundw
                case rel => exact ⟨k, 2 * q + 1, 2 * left + t - c, false, by omega, by go_num, by go_num, rfl, by go_num, (by first | rfl | trivial), hN⟩
                case measure => simp [intOf] <;> omega
          · have hN := Lib.hid (hA.out.next' (by omega) ht rfl (.inl ⟨hle, rfl, rfl⟩) (one := 1) (left' := 2 * left + t - c) (q' := q) (over' := true) (.inl ⟨rfl, rfl, .inl rfl⟩))
            clear ht
            go_wp2_with (go_at_call 59; refine (bit_any G 9 9 (dg (a * b)) k t _ HT (by omega) (by omega) ho hdl).mono ?_; rintro e w' ⟨rfl, rfl⟩)
            all_goals
              go_roundw
              case rel => exact ⟨k, q, 2 * left + t - c, true, by omega, by go_num, by go_num, rfl, by go_num, (by first | rfl | trivial), hN⟩
              case measure => simp [intOf] <;> omega
        · cases over
          · by_cases hbq : 4611686018427387903 < q
            · have hN := Lib.hid (hA.out.next' (by omega) ht rfl (.inr ⟨by omega, rfl, rfl⟩) (one := 0) (left' := 2 * left + t) (q' := q) (over' := true) (.inl ⟨rfl, rfl, .inr hbq⟩))
              clear ht
              go_wp2_with (go_at_call 59; refine (bit_any G 9 9 (dg (a * b)) k t _ HT (by omega) (by omega) ho hdl).mono ?_; rintro e w' ⟨rfl, rfl⟩)
              all_goals
                go_roundw
                case rel => exact ⟨k, q, 2 * left + t, true, by omega, by go_num, by go_num, rfl, by go_num, (by first | rfl | trivial), hN⟩
                case measure => simp [intOf] <;> omega
            · have hN := Lib.hid (hA.out.next' (by omega) ht rfl (.inr ⟨by omega, rfl, rfl⟩) (one := 0) (left' := 2 * left + t) (q' := 2 * q + 0) (over' := false) (.inr ⟨rfl, rfl, by omega, rfl⟩))
              clear ht
              go_wp2_with (go_at_call 59; refine (bit_any G 9 9 (dg (a * b)) k t _ HT (by omega) (by omega) ho hdl).mono ?_; rintro e w' ⟨rfl, rfl⟩)
              all_goals
                go_roundw
                case rel => exact ⟨k, 2 * q + 0, 2 * left + t, false, by omega, by go_num, by go_num, rfl, by go_num, (by first | rfl | trivial), hN⟩
                case measure => simp [intOf] <;> omega
          · have hN := Lib.hid (hA.out.next' (by omega) ht rfl (.inr ⟨by omega, rfl, rfl⟩) (one := 0) (left' := 2 * left + t) (q' := q) (over' := true) (.inl ⟨rfl, rfl, .inl rfl⟩))
            clear ht
            go_wp2_with (go_at_call 59; refine (bit_any G 9 9 (dg (a * b)) k t _ HT (by omega) (by omega) ho hdl).mono ?_; rintro e w' ⟨rfl, rfl⟩)
            all_goals
              go_roundw
              case rel => exact ⟨k, q, 2 * left + t, true, by omega, by go_num, by go_num, rfl, by go_num, (by first | rfl | trivial), hN⟩
              case measure => simp [intOf] <;> omega
  case rest =>
    obtain ⟨q, left, over, rfl, rfl, rfl, rfl, hA⟩ := hcut
    clear hS
    have hm := fin a b c q left over up (by omega) hA.out
    rw [hn.out] at hm
    have hq0 := hA.out.q0
    have hll := hA.out.left_lt (by omega)
    have HB := hB
    clear hn hA ho hdl hab
    cases over
    · cases up
      · obtain ⟨rfl, rfl⟩ : n = (q : Int) ∧ e2 = 0 := by simpa using hm
        clear hm
        go_wp2_with fail
        go_ret2
        exact ⟨rfl, HB.out⟩
      · by_cases hl : 0 < left
        · have hd : decide ((0 : Int) < (left : Int)) = true := by simp; omega
          by_cases hq : q = 9223372036854775807
          · obtain ⟨rfl, rfl⟩ : n = 0 ∧ e2 = 6 := by simpa [hl, hq] using hm
            have hqb : ((q : Int) == 9223372036854775807) = true := by rw [hq]; rfl
            clear hm hq
            go_wp2_with fail
            go_ret2
            exact ⟨rfl, HB.out⟩
          · obtain ⟨rfl, rfl⟩ : n = (q : Int) + 1 ∧ e2 = 0 := by simpa [hl, hq] using hm
            have hqb : ((q : Int) == 9223372036854775807) = false := by simp; omega
            have hq1 : q ≤ 9223372036854775806 := by omega
            clear hm hq
            go_wp2_with fail
            go_ret2
            exact ⟨rfl, HB.out⟩
        · have hd : decide ((0 : Int) < (left : Int)) = false := by simp; omega
          obtain ⟨rfl, rfl⟩ : n = (q : Int) ∧ e2 = 0 := by simpa [hl] using hm
          have hl2 : left ≤ 0 := by omega
          clear hm
          go_wp2_with fail
          go_ret2
          exact ⟨rfl, HB.out⟩
    · obtain ⟨rfl, rfl⟩ : n = 0 ∧ e2 = 6 := by simpa using hm
      clear hm
      cases up
      · go_wp2_with fail
        go_ret2
        exact ⟨rfl, HB.out⟩
      · by_cases hl : 0 < left
        · have hd : decide ((0 : Int) < (left : Int)) = true := by simp; omega
          go_wp2_with fail
          go_ret2
          exact ⟨rfl, HB.out⟩
        · have hd : decide ((0 : Int) < (left : Int)) = false := by simp; omega
          have hl2 : left ≤ 0 := by omega
          go_wp2_with fail
          go_ret2
          exact ⟨rfl, HB.out⟩

/-- EVERY PRODUCT BY A NUMBER, as the document says it. -/
theorem mdr_any (a b c : Int) (up : Bool) (w : World) (ha : -9223372036854775808 ≤ a) (ha' : a ≤ 9223372036854775807) (hb : -9223372036854775808 ≤ b) (hb' : b ≤ 9223372036854775807) (hc : -9223372036854775808 ≤ c) (hc' : c ≤ 9223372036854775807) :
    Calls Tryz.prog 34 #[.int .i64 a, .int .i64 b, .int .i64 c, .bool up] w fun e w' => e = .returned (.tuple #[.int .i64 (md a b c up).1, .int .i64 (md a b c up).2]) ∧ Below w.heap.size w w' := by
  by_cases hbad : a < 0 ∨ b < 0 ∨ c < 1
  · have : md a b c up = (0, 2) := by unfold md; rw [if_pos hbad]
    rw [this]
    exact bad a b c up w (by omega)
  · obtain ⟨a, rfl⟩ := Int.eq_ofNat_of_zero_le (show 0 ≤ a by omega)
    obtain ⟨b, rfl⟩ := Int.eq_ofNat_of_zero_le (show 0 ≤ b by omega)
    obtain ⟨c, rfl⟩ := Int.eq_ofNat_of_zero_le (show 0 ≤ c by omega)
    have hc1 : 1 ≤ c := by omega
    by_cases h0 : a = 0
    · subst h0
      have hm := md_nat 0 b c hc1 up 0 (by simp)
      rw [hm]
      exact none_ b c up w (by omega) hc1 (by omega)
    · have e1 : (9223372036854775807 : Int) / (a : Int) = ((9223372036854775807 / a : Nat) : Int) := by rw [Int.natCast_ediv]; rfl
      by_cases hab : (b : Int) ≤ 9223372036854775807 / (a : Int)
      · have hP : a * b ≤ 9223372036854775807 := by
          have h1 : b ≤ 9223372036854775807 / a := by omega
          have h2 := Nat.mul_le_mul_left a h1
          have h3 := Nat.mul_div_le 9223372036854775807 a
          omega
        have hm := md_nat a b c hc1 up _ rfl
        have hs := small (a * b) c hP
        have hle : a * b / c ≤ 9223372036854775807 := Nat.le_trans (Nat.div_le_self _ _) hP
        rw [if_pos (by split <;> omega)] at hm
        rw [hm]
        have hcast : (a : Int) * (b : Int) = ((a * b : Nat) : Int) := by rw [Int.natCast_mul]
        exact little a b c (a * b / c) (a * b % c) (a * b) _ up w (by omega) (by omega) hc1 (by omega) (by omega) hab hP (by rw [hcast]; exact IntWalk.i64_in _ (by omega)) (by rw [hcast]; exact IntWalk.wrap64_in _ (by omega))
          (by rw [Int.natCast_ediv]) (by rw [Int.natCast_emod]) hle hs (Lib.hid rfl)
      · exact big a b c up _ _ w (by omega) (by omega) hc1 (by omega) (by omega) (by omega) (Lib.hid rfl)

end Go.Proofs.YtlafeijkpnpdeaaGreat.RefC

/- Walks of package osc. -/
namespace Go.Proofs.YtlafeijkpnpdeaaGreat.OscA
open Go.RowKit Base WideA WideB OscPlain
set_option linter.unusedVariables false
set_option linter.unusedSimpArgs false

/-- an int, with its bounds -/
def I64 (a : Int) : Prop := -9223372036854775808 ≤ a ∧ a ≤ 9223372036854775807

theorem check_any (h p : Int) (w : World) :
    Calls Tryz.prog 124 #[.agg #[.int .i64 h, .int .i64 p]] w fun e w' => e = .returned (.int .i64 (chk h p)) ∧ Below w.heap.size w w' := by
  by_cases hb : bad h p
  · have e : chk h p = 2 := by unfold chk; rw [if_pos hb]
    rw [e]; unfold bad at hb
    rcases (show h < 1 ∨ (1 ≤ h ∧ 1000000 < h) ∨ (1 ≤ h ∧ h ≤ 1000000 ∧ p < -999999) ∨ (1 ≤ h ∧ h ≤ 1000000 ∧ -999999 ≤ p ∧ 999999 < p) by omega) with k | ⟨k1, k2⟩ | ⟨k1, k2, k3⟩ | ⟨k1, k2, k3, k4⟩
    all_goals
      clear hb
      go_enter Tryz.func124, Tryz.ntmps124
      go_wp2
      go_ret
      exact ⟨rfl, (Below.refl _ _).alloc (Nat.le_refl _) _⟩
  · have e : chk h p = 0 := by unfold chk; rw [if_neg hb]
    rw [e]; unfold bad at hb
    obtain ⟨k1, k2, k3, k4⟩ : 1 ≤ h ∧ h ≤ 1000000 ∧ -999999 ≤ p ∧ p ≤ 999999 := by omega
    clear hb
    go_enter Tryz.func124, Tryz.ntmps124
    go_wp2
    go_ret
    exact ⟨rfl, (Below.refl _ _).alloc (Nat.le_refl _) _⟩

theorem checkr_any (h p : Int) (w : World) :
    Calls Tryz.prog 94 #[.agg #[.int .i64 h, .int .i64 p]] w fun e w' => e = .returned (.int .i64 (chk h p)) ∧ Below w.heap.size w w' := by
  by_cases hb : bad h p
  · have e : chk h p = 2 := by unfold chk; rw [if_pos hb]
    rw [e]; unfold bad at hb
    rcases (show h < 1 ∨ (1 ≤ h ∧ 1000000 < h) ∨ (1 ≤ h ∧ h ≤ 1000000 ∧ p < -999999) ∨ (1 ≤ h ∧ h ≤ 1000000 ∧ -999999 ≤ p ∧ 999999 < p) by omega) with k | ⟨k1, k2⟩ | ⟨k1, k2, k3⟩ | ⟨k1, k2, k3, k4⟩
    all_goals
      clear hb
      go_enter Tryz.func94, Tryz.ntmps94
      go_wp2
      go_ret
      exact ⟨rfl, (Below.refl _ _).alloc (Nat.le_refl _) _⟩
  · have e : chk h p = 0 := by unfold chk; rw [if_neg hb]
    rw [e]; unfold bad at hb
    obtain ⟨k1, k2, k3, k4⟩ : 1 ≤ h ∧ h ≤ 1000000 ∧ -999999 ≤ p ∧ p ≤ 999999 := by omega
    clear hb
    go_enter Tryz.func94, Tryz.ntmps94
    go_wp2
    go_ret
    exact ⟨rfl, (Below.refl _ _).alloc (Nat.le_refl _) _⟩

/-- an error beside a zero -/
theorem ret2 {k k' : IntKind} {a b c d : Int} (h : a = b) (h' : c = d) : Ending.returned (.tuple #[.int k a, .int k' c]) = .returned (.tuple #[.int k b, .int k' d]) := by rw [h, h']

theorem elapsed_any (h p n : Int) (x e : Int) (w : World) (hx : Hid (el h p n = (x, e))) (hn : I64 n) :
    Calls Tryz.prog 89 #[.agg #[.int .i64 h, .int .i64 p], .int .i64 n] w fun e' w' => e' = .returned (.tuple #[.int .i64 x, .int .i64 e]) ∧ Below w.heap.size w w' := by
  have C := fun w => check_any h p w
  by_cases hb : bad h p
  · have e1 : chk h p = 2 := by unfold chk; rw [if_pos hb]
    simp only [e1] at C
    obtain ⟨rfl, rfl⟩ : x = 0 ∧ e = 2 := by have := hx.out; rw [el, if_pos (.inl hb)] at this; simpa using this.symm
    have C := Lib.hid C
    clear hb e1
    go_enter Tryz.func89, Tryz.ntmps89
    go_wp2_with fail
    refine (C.out _).mono ?_
    rintro e1 w1 ⟨rfl, hb1⟩
    go_wp2_with fail
    go_ret2
    exact ⟨rfl, ((Below.refl _ _).alloc (Nat.le_refl _) _).trans (hb1.mono (by simp))⟩
  · have e1 : chk h p = 0 := by unfold chk; rw [if_neg hb]
    simp only [e1] at C
    have C := Lib.hid C
    clear e1
    by_cases hr : n < 0 ∨ 1000000000000 < n
    · obtain ⟨rfl, rfl⟩ : x = 0 ∧ e = 2 := by have := hx.out; rw [el, if_pos (.inr hr)] at this; simpa using this.symm
      rcases (show n < 0 ∨ (0 ≤ n ∧ 1000000000000 < n) by omega) with k | ⟨k, k2⟩
      all_goals
        clear hr hb
        go_enter Tryz.func89, Tryz.ntmps89
        go_wp2_with fail
        refine (C.out _).mono ?_
        rintro e1 w1 ⟨rfl, hb1⟩
        go_wp2_with fail
        go_ret2
        exact ⟨rfl, ((Below.refl _ _).alloc (Nat.le_refl _) _).trans (hb1.mono (by simp))⟩
    · obtain ⟨d1, d2, d3, d4, d5, d6⟩ := dd_bd hb
      have M := fun w => md_any n 1000000000000000 (dd h p) true w hn.1 hn.2 (by omega) (by omega) (by omega) (by omega)
      have hx' : md n 1000000000000000 (dd h p) true = (x, e) := by have := hx.out; rw [el, if_neg (by intro h; rcases h with h | h; exact hb h; exact hr h)] at this; exact this
      simp only [hx'] at M
      have M := Lib.hid M
      obtain ⟨d, hd⟩ : ∃ d, dd h p = d := ⟨_, rfl⟩
      rw [hd] at M d1 d2
      have W1 : wrap64 (h * (1000000 + p)) = d := by rw [show h * (1000000 + p) = dd h p from rfl, hd]; exact IntWalk.wrap64_in _ ⟨by omega, by omega⟩
      have W2 : IntKind.i64.wrap (h * (1000000 + p)) = d := by rw [show h * (1000000 + p) = dd h p from rfl, hd]; exact IntWalk.i64_in _ ⟨by omega, by omega⟩
      clear hd hx' hb
      obtain ⟨k1, k2⟩ : 0 ≤ n ∧ n ≤ 1000000000000 := by omega
      clear hr
      go_enter Tryz.func89, Tryz.ntmps89
      go_wp2_with fail
      refine (C.out _).mono ?_
      rintro e1 w1 ⟨rfl, hb1⟩
      have c0 := (show Cell _ w.heap.size 0 (.int .i64 h) from ⟨by go_simp, by go_simp⟩ : Cell (w.alloc (Obj.cells #[Value.int IntKind.i64 h, Value.int IntKind.i64 p] 151)) _ _ _).below hb1 (by simp)
      have c1 := (show Cell _ w.heap.size 1 (.int .i64 p) from ⟨by go_simp, by go_simp⟩ : Cell (w.alloc (Obj.cells #[Value.int IntKind.i64 h, Value.int IntKind.i64 p] 151)) _ _ _).below hb1 (by simp)
      obtain ⟨c0, _⟩ := c0
      obtain ⟨c1, _⟩ := c1
      have hB : Below w.heap.size w w1 := ((Below.refl _ _).alloc (Nat.le_refl _) _).trans (hb1.mono (by simp))
      have HB := Lib.hid hB
      clear hb1 hB
      go_wp2_with fail
      refine (M.out _).mono ?_
      rintro e1 w2 ⟨rfl, hb2⟩
      go_wp2_with fail
      go_ret2
      exact ⟨rfl, HB.out.trans (hb2.mono HB.out.size)⟩

end Go.Proofs.YtlafeijkpnpdeaaGreat.OscA

/- Walks of package osc: the search by halves, and what counts on it. -/
namespace Go.Proofs.YtlafeijkpnpdeaaGreat.OscB
open Go.RowKit Base WideA WideB OscPlain OscA
set_option linter.unusedVariables false
set_option linter.unusedSimpArgs false

theorem elapsedr_any (h p n : Int) (x e : Int) (w : World) (hx : Hid (el h p n = (x, e))) (hn : I64 n) :
    Calls Tryz.prog 62 #[.agg #[.int .i64 h, .int .i64 p], .int .i64 n] w fun e' w' => e' = .returned (.tuple #[.int .i64 x, .int .i64 e]) ∧ Below w.heap.size w w' := by
  have C := fun w => checkr_any h p w
  by_cases hb : bad h p
  · have e1 : chk h p = 2 := by unfold chk; rw [if_pos hb]
    simp only [e1] at C
    obtain ⟨rfl, rfl⟩ : x = 0 ∧ e = 2 := by have := hx.out; rw [el, if_pos (.inl hb)] at this; simpa using this.symm
    have C := Lib.hid C
    clear hb e1
    go_enter Tryz.func62, Tryz.ntmps62
    go_wp2_with fail
    refine (C.out _).mono ?_
    rintro e1 w1 ⟨rfl, hb1⟩
    go_wp2_with fail
    go_ret2
    exact ⟨rfl, ((Below.refl _ _).alloc (Nat.le_refl _) _).trans (hb1.mono (by simp))⟩
  · have e1 : chk h p = 0 := by unfold chk; rw [if_neg hb]
    simp only [e1] at C
    have C := Lib.hid C
    clear e1
    by_cases hr : n < 0 ∨ 1000000000000 < n
    · obtain ⟨rfl, rfl⟩ : x = 0 ∧ e = 2 := by have := hx.out; rw [el, if_pos (.inr hr)] at this; simpa using this.symm
      rcases (show n < 0 ∨ (0 ≤ n ∧ 1000000000000 < n) by omega) with k | ⟨k, k2⟩
      all_goals
        clear hr hb
        go_enter Tryz.func62, Tryz.ntmps62
        go_wp2_with fail
        refine (C.out _).mono ?_
        rintro e1 w1 ⟨rfl, hb1⟩
        go_wp2_with fail
        go_ret2
        exact ⟨rfl, ((Below.refl _ _).alloc (Nat.le_refl _) _).trans (hb1.mono (by simp))⟩
    · obtain ⟨d1, d2, d3, d4, d5, d6⟩ := dd_bd hb
      have M := fun w => RefC.mdr_any n 1000000000000000 (dd h p) true w hn.1 hn.2 (by omega) (by omega) (by omega) (by omega)
      have hx' : md n 1000000000000000 (dd h p) true = (x, e) := by have := hx.out; rw [el, if_neg (by intro h; rcases h with h | h; exact hb h; exact hr h)] at this; exact this
      simp only [hx'] at M
      have M := Lib.hid M
      obtain ⟨d, hd⟩ : ∃ d, dd h p = d := ⟨_, rfl⟩
      rw [hd] at M d1 d2
      have W1 : wrap64 (h * (1000000 + p)) = d := by rw [show h * (1000000 + p) = dd h p from rfl, hd]; exact IntWalk.wrap64_in _ ⟨by omega, by omega⟩
      have W2 : IntKind.i64.wrap (h * (1000000 + p)) = d := by rw [show h * (1000000 + p) = dd h p from rfl, hd]; exact IntWalk.i64_in _ ⟨by omega, by omega⟩
      clear hd hx' hb
      obtain ⟨k1, k2⟩ : 0 ≤ n ∧ n ≤ 1000000000000 := by omega
      clear hr
      go_enter Tryz.func62, Tryz.ntmps62
      go_wp2_with fail
      refine (C.out _).mono ?_
      rintro e1 w1 ⟨rfl, hb1⟩
      have c0 := (show Cell _ w.heap.size 0 (.int .i64 h) from ⟨by go_simp, by go_simp⟩ : Cell (w.alloc (Obj.cells #[Value.int IntKind.i64 h, Value.int IntKind.i64 p] 118)) _ _ _).below hb1 (by simp)
      have c1 := (show Cell _ w.heap.size 1 (.int .i64 p) from ⟨by go_simp, by go_simp⟩ : Cell (w.alloc (Obj.cells #[Value.int IntKind.i64 h, Value.int IntKind.i64 p] 118)) _ _ _).below hb1 (by simp)
      obtain ⟨c0, _⟩ := c0
      obtain ⟨c1, _⟩ := c1
      have hB : Below w.heap.size w w1 := ((Below.refl _ _).alloc (Nat.le_refl _) _).trans (hb1.mono (by simp))
      have HB := Lib.hid hB
      clear hb1 hB
      go_wp2_with fail
      refine (M.out _).mono ?_
      rintro e1 w2 ⟨rfl, hb2⟩
      go_wp2_with fail
      go_ret2
      exact ⟨rfl, HB.out.trans (hb2.mono HB.out.size)⟩


theorem fits_any (h p n ns : Int) (b : Bool) (w : World) (hb : Hid (fits h p n ns = b)) (hn : I64 n) :
    Calls Tryz.prog 140 #[.agg #[.int .i64 h, .int .i64 p], .int .i64 n, .int .i64 ns] w fun e w' => e = .returned (.bool b) ∧ Below w.heap.size w w' := by
  obtain ⟨x, hx⟩ : ∃ x, (el h p n).1 = x := ⟨_, rfl⟩
  obtain ⟨e, he⟩ : ∃ e, (el h p n).2 = e := ⟨_, rfl⟩
  have C := Lib.hid (fun w => elapsed_any h p n x e w (by rw [← hx, ← he]; rfl) hn)
  have hb' : ((e == 0) && decide (x ≤ ns)) = b := by rw [← hx, ← he]; exact hb.out
  clear hb hx he
  by_cases h0 : e = 0
  · subst h0
    have hb2 : decide (x ≤ ns) = b := by simpa using hb'
    subst hb2
    clear hb'
    go_enter Tryz.func140, Tryz.ntmps140
    go_wp2_with fail
    refine (C.out _).mono ?_
    rintro e1 w1 ⟨rfl, hb1⟩
    go_wp2_with fail
    go_ret
    exact ⟨rfl, ((Below.refl _ _).alloc (Nat.le_refl _) _).trans (hb1.mono (by simp))⟩
  · have hz : (e == 0) = false := by simp [h0]
    have : b = false := by rw [← hb', hz]; rfl
    subst this
    clear hb' h0
    go_enter Tryz.func140, Tryz.ntmps140
    go_wp2_with fail
    refine (C.out _).mono ?_
    rintro e1 w1 ⟨rfl, hb1⟩
    go_wp2_with fail
    go_ret
    exact ⟨rfl, ((Below.refl _ _).alloc (Nat.le_refl _) _).trans (hb1.mono (by simp))⟩

/-- WHAT A FUNCTION VALUE THAT ANSWERS A BOOL MUST KEEP: asked of any number between two, in any world over W0, it tells p, and turns nothing below B. -/
def Asks (B : Nat) (W0 : World) (g : FuncId) (caps : Array Value) (f t : Int) (p : Int → Bool) : Prop :=
  ∀ (n : Int) (w : World), f ≤ n → n ≤ t → Below B W0 w → Calls Tryz.prog g (#[.int .i64 n] ++ caps) w fun e w' => e = .returned (.bool (p n)) ∧ Below B w w'

theorem last_any (B : Nat) (W0 w : World) (g : FuncId) (caps : Array Value) (f t : Int) (p : Int → Bool) (ha : Asks B W0 g caps f t p) (hw : Below B W0 w) (henter : ∀ args w, (callFunc g args).run Tryz.prog w = .ok (.enter g args) w) (h1 : -1000000000000000 ≤ f) (h2 : t ≤ 1000000000000000) (h3 : f - 1 ≤ t) :
    Calls Tryz.prog 138 #[.int .i64 f, .int .i64 t, .func (.func g) #[] caps] w fun e w' => (∃ r : Int, e = .returned (.int .i64 r) ∧ Last f t p r) ∧ Below B W0 w' := by
  have HA := Lib.hid ha
  have HW := Lib.hid hw
  clear ha hw
  go_enter Tryz.func138, Tryz.ntmps138
  go_wp2_with fail
  go_step3
  go_wp2_with fail
  go_step3
  go_wp2_with fail
  go_loopw [7, 8] (fun l h wr => ∃ lo hi : Int, l = .int .i64 lo ∧ h = .int .i64 hi ∧ f - 1 ≤ lo ∧ lo ≤ hi ∧ hi ≤ t ∧ Hid (f ≤ lo → p lo = true) ∧ Hid (hi < t → p (hi + 1) = false) ∧ Hid (Below B W0 wr)) (fun l h _ => (intOf h - intOf l).toNat)
  case atStart => exact ⟨f - 1, t, rfl, rfl, by omega, by omega, by omega, (fun h => by omega), (fun h => by omega), HW⟩
  case round =>
    clear HW
    obtain ⟨lo, hi, rfl, rfl, g1, g2, g3, P1, P2, HB⟩ := hrel
    by_cases hlt : lo < hi
    · obtain ⟨m, hm⟩ : ∃ m, lo + (hi - lo + 1) / 2 = m := ⟨_, rfl⟩
      have m1 : lo < m := by omega
      have m2 : m ≤ hi := by omega
      have HM := Lib.hid hm
      clear hm
      go_wp2_with fail
      rw [HM.out]
      refine (HA.out m _ (by omega) (by omega) HB.out).mono ?_
      rintro e w1 ⟨rfl, hb1⟩
      have HB1 := Lib.hid (HB.out.trans hb1)
      clear hb1
      cases hpm : p m
      · have P := Lib.hid hpm
        clear hpm
        go_wp2_with fail
        go_roundw
        case rel => exact ⟨lo, m - 1, rfl, rfl, by omega, by omega, by omega, P1, (fun _ => by rw [show m - 1 + 1 = m from by omega]; exact P.out), HB1⟩
        case measure => simp [intOf]; omega
      · have P := Lib.hid hpm
        clear hpm
        go_wp2_with fail
        go_roundw
        case rel => exact ⟨m, hi, rfl, rfl, by omega, by omega, by omega, (fun _ => P.out), P2, HB1⟩
        case measure => simp [intOf]; omega
    · obtain rfl : lo = hi := by omega
      go_wp2_with fail
      go_goals
      go_ret
      exact ⟨⟨lo, rfl, ⟨g1, g3, P1.out, P2.out⟩⟩, HB.out⟩
end Go.Proofs.YtlafeijkpnpdeaaGreat.OscB

/- wide.Sum: sums that are told with an error. -/
namespace Go.Proofs.YtlafeijkpnpdeaaGreat.WideS
open Go.RowKit WideA WideB Base Plain
set_option linter.unusedVariables false
set_option linter.unusedSimpArgs false

/-- a slice of integers, as it is read -/
def IntsIn (w : World) (a : Option Addr) (n : Nat) (f : Nat → Int) : Prop :=
  n ≤ 9223372036854775807 ∧ (n = 0 ∨ ∃ b off, a = some ⟨b, off, none⟩ ∧ b < w.heap.size ∧ ∀ i, i < n → w.cell? ⟨b, off + i, none⟩ = some (.int .i64 (f i))) ∧ ∀ i, i < n → -9223372036854775808 ≤ f i ∧ f i ≤ 9223372036854775807

set_option maxHeartbeats 1000000 in
theorem sum_walk (b off n cap : Nat) (f : Nat → Int) (w : World) (hn : n ≤ 9223372036854775807) (hb : b < w.heap.size)
    (hc : Hid (∀ i, i < n → w.cell? ⟨b, off + i, none⟩ = some (.int .i64 (f i)))) (hf : Hid (∀ i, i < n → -9223372036854775808 ≤ f i ∧ f i ≤ 9223372036854775807)) :
    Calls Tryz.prog 66 #[.slice (some ⟨b, off, none⟩) n cap] w fun e w' => e = .returned (.tuple #[.int .i64 (sumR f n).1, .int .i64 (sumR f n).2]) ∧ Below w.heap.size w w' := by
  go_enter_defers Tryz.func66, Tryz.ntmps66
  go_wp2
  go_loopw [4, 9] (fun o i wr => ∃ (k : Nat) (s : Int) (over : Bool), k ≤ n ∧ i = .int .i64 k ∧ o = .bool over ∧ Hid (SumAt f k s over) ∧ wr = (w.alloc (.cells #[.int .i64 s] 3)).alloc (.cells #[.int .i64 0] 45)) (fun _ i _ => n - (intOf i).toNat)
  case atStart => exact ⟨0, 0, false, Nat.zero_le _, rfl, rfl, SumAt.zero f, rfl⟩
  case round =>
    obtain ⟨k, s, over, hk, rfl, rfl, H, rfl⟩ := hrel
    have s0 := H.out.n0; have s1 := H.out.n1
    by_cases hlt : k < n
    · have hck := hc.out k hlt
      obtain ⟨f0, f1⟩ := hf.out k hlt
      by_cases hneg : f k < 0
      · have hr := Lib.hid (SumAt.neg (f := f) hlt hneg)
        go_wp2
        refine leaves_cons (f := 97) (args := #[.pointer (some ⟨w.heap.size, 0, none⟩), .pointer (some ⟨w.heap.size + 1, 0, none⟩)]) (by simp) (by simp [go_sem]) ?_
        refine (none_err _ _ 2 s _ _ (by go_simp) (by decide) (by go_simp) (by go_simp)).mono ?_
        rintro e u' w' ⟨rfl, rfl, rfl⟩
        exact ⟨.tuple #[.int .i64 0, .int .i64 2], by simp [results, Tryz.results66, go_sem], by rw [hr.out], ((((Below.refl _ _).alloc (Nat.le_refl _) _).alloc (by simp) _).setCell (by simp) _)⟩
      · cases over
        · by_cases hbig : 9223372036854775807 - s < f k
          · have hH := Lib.hid (H.out.burst (by omega) hbig)
            go_wp2
            go_roundw
            case rel => exact ⟨k + 1, s, true, by omega, by go_num, rfl, hH, rfl⟩
            case measure => simp [intOf]; omega
          · have hH := Lib.hid (H.out.add (by omega) (by omega))
            go_wp2
            go_roundw
            case rel => exact ⟨k + 1, s + f k, false, by omega, by go_num, rfl, hH, rfl⟩
            case measure => simp [intOf]; omega
        · have hH := Lib.hid (H.out.stay (by omega))
          go_wp2
          go_roundw
          case rel => exact ⟨k + 1, s, true, by omega, by go_num, rfl, hH, rfl⟩
          case measure => simp [intOf]; omega
    · obtain rfl : k = n := by omega
      cases over
      · have hr := Lib.hid H.out.done
        go_wp2
        refine leaves_cons (f := 97) (args := #[.pointer (some ⟨w.heap.size, 0, none⟩), .pointer (some ⟨w.heap.size + 1, 0, none⟩)]) (by simp) (by simp [go_sem]) ?_
        refine (none_ok _ _ _ _ (by go_simp)).mono ?_
        rintro e u' w' ⟨rfl, rfl, rfl⟩
        exact ⟨.tuple #[.int .i64 s, .int .i64 0], by simp [results, Tryz.results66, go_sem], by rw [hr.out], ((((Below.refl _ _).alloc (Nat.le_refl _) _).alloc (by simp) _))⟩
      · have hr := Lib.hid H.out.over
        go_wp2
        refine leaves_cons (f := 97) (args := #[.pointer (some ⟨w.heap.size, 0, none⟩), .pointer (some ⟨w.heap.size + 1, 0, none⟩)]) (by simp) (by simp [go_sem]) ?_
        refine (none_err _ _ 6 s _ _ (by go_simp) (by decide) (by go_simp) (by go_simp)).mono ?_
        rintro e u' w' ⟨rfl, rfl, rfl⟩
        exact ⟨.tuple #[.int .i64 0, .int .i64 6], by simp [results, Tryz.results66, go_sem], by rw [hr.out], ((((Below.refl _ _).alloc (Nat.le_refl _) _).alloc (by simp) _).setCell (by simp) _)⟩

theorem sum_zero (a : Option Addr) (cap : Nat) (w : World) :
    Calls Tryz.prog 66 #[.slice a 0 cap] w fun e w' => e = .returned (.tuple #[.int .i64 0, .int .i64 0]) ∧ Below w.heap.size w w' := by
  go_enter_defers Tryz.func66, Tryz.ntmps66
  go_wp2
  refine wp_loop_rounds 1 ?_; rw [rounds_succ]
  go_wp2
  refine leaves_cons (f := 97) (args := #[.pointer (some ⟨w.heap.size, 0, none⟩), .pointer (some ⟨w.heap.size + 1, 0, none⟩)]) (by simp) (by simp [go_sem]) ?_
  refine (none_ok _ _ _ _ (by go_simp)).mono ?_
  rintro e u' w' ⟨rfl, rfl, rfl⟩
  exact ⟨.tuple #[.int .i64 0, .int .i64 0], by simp [results, Tryz.results66, go_sem], rfl, ((((Below.refl _ _).alloc (Nat.le_refl _) _).alloc (by simp) _))⟩

theorem sum_any (a : Option Addr) (n cap : Nat) (f : Nat → Int) (w : World) (h : IntsIn w a n f) :
    Calls Tryz.prog 66 #[.slice a n cap] w fun e w' => e = .returned (.tuple #[.int .i64 (sumR f n).1, .int .i64 (sumR f n).2]) ∧ Below w.heap.size w w' := by
  obtain ⟨hn, rfl | ⟨b, off, rfl, hb, hc⟩, hf⟩ := h
  · exact sum_zero a cap w
  · exact sum_walk b off n cap f w hn hb hc hf
end Go.Proofs.YtlafeijkpnpdeaaGreat.WideS

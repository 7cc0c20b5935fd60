/- A row of places that is being sorted under Order's closure. -/
import Derived.Test.YtgkahcchekiogaaRtg
import Derived.Test.YtgkahcchekiogaaHeld
import Derived.Test.YtgkahcchekiogaaAlt
import Derived.Test.YtgkahcchekiogaaRefA
import Derived.Test.YtgkahcchekiogaaOpen
import Derived.Test.YtgkahcchekiogaaRtq
namespace Go.Proofs.Ytgkahcchekiogaa.Rtj
open Go.RowKit Base Kit WideA WideB Plain RefA Alt Held Rtf Rtg Rto Rtq
set_option linter.unusedVariables false
set_option linter.unusedSimpArgs false
/-- the row -/
structure Sw (w0 w : World) (g n cap : Nat) (d : D) : Prop where
  alt : Alt (fun k => k = g) w0 w
  own : w.ownsRow 0 3 1 (.slice (some ⟨g, 0, none⟩) n cap) n (row (fun i => (d i : Int)) n)
  len : n ≤ 100
theorem own_below' {w w1 : World} {base n size g cap : Nat} {e : TypeId} {xs : List Value} (h : w.ownsRow base e size (.slice (some ⟨g, 0, none⟩) n cap) n xs) (k : Below w.heap.size w w1) : w1.ownsRow base e size (.slice (some ⟨g, 0, none⟩) n cap) n xs :=
  own_alt (S := fun _ => False) h (Alt.of_below k) (fun z => z)
variable {w0 w w1 : World} {g n cap : Nat} {d : D}
theorem sw_next (h : Hid (Sw w0 w g n cap d)) (k : Below w.heap.size w w1) : Hid (Sw w0 w1 g n cap d) :=
  Lib.hid ⟨h.out.alt.trans (Alt.of_below k), own_below' h.out.own k, h.out.len⟩
theorem sw_cell (h : Hid (Sw w0 w g n cap d)) {i : Nat} (hi : i < n) : w.cell? ⟨g, i, none⟩ = some (.int .i64 (d i : Int)) := by
  rw [h.out.own.cellAt i (by omega)]
  exact row_get _ n i hi
theorem sw_row (d : D) {n i j : Nat} (hi : i < n) (hj : j < n) : ((row (fun i => (d i : Int)) n).set i (.int .i64 (d j : Int))).set j (.int .i64 (d i : Int)) = row (fun t => (sw d j i t : Int)) n := by
  rw [row_set, row_set]
  congr 1
  funext t
  unfold sw
  (repeat' split) <;> first | rfl | omega
theorem sw_swap (h : Hid (Sw w0 w g n cap d)) {i j : Nat} (hi : i < n) (hj : j < n) {x y : Int} (hx : (d j : Int) = x) (hy : (d i : Int) = y) : Hid (Sw w0 ((w.setCell ⟨g, i, none⟩ (.int .i64 x)).setCell ⟨g, j, none⟩ (.int .i64 y)) g n cap (sw d j i)) := by
  subst hx hy
  have h1 := (h.out.own.stored i (.int .i64 (d j : Int))).1
  have h2 := (h1.stored j (.int .i64 (d i : Int))).1
  rw [sw_row d hi hj] at h2
  exact Lib.hid ⟨(h.out.alt.trans (Alt.set _ _ _ rfl)).trans (Alt.set _ _ _ rfl), h2, h.out.len⟩
/-- what a process's period says of its place -/
def ky (f : Nat → Nat → Int) (i : Nat) : Int := if 0 < f i 1 then f i 1 else 9223372036854775808
def cm (f : Nat → Nat → Int) (x y : Nat) : Int := bfI (f x 1) (f y 1)
theorem cm_lt (f : Nat → Nat → Int) (x y : Nat) (hx : f x 1 ≤ 9223372036854775807) (hy : f y 1 ≤ 9223372036854775807) : cm f x y < 0 ↔ ky f x < ky f y := by
  unfold cm ky bfI cmpI
  (repeat' split) <;> omega
theorem wr64 (x : Int) (h0 : -9223372036854775808 ≤ x) (h1 : x ≤ 9223372036854775807) : IntKind.i64.wrap x = x := by
  simp [IntKind.wrap, IntKind.bits, IntKind.signed]; omega
/-- what Order's closure tells -/
def Cmp (n : Nat) (f : Nat → Nat → Int) (w0 : World) (g lb : Nat) : Prop :=
  ∀ w', Alt (fun k => k = g) w0 w' → ∀ x y : Nat, x < n → y < n → Calls Try.prog 117 #[.int .i64 (x : Int), .int .i64 (y : Int), .pointer (some ⟨lb, 0, none⟩)] w' fun e w'' => e = .returned (.int .i64 (cm f x y)) ∧ Below w'.heap.size w' w''
/-- sorted within a part -/
def SoP (w0 : World) (g n cap : Nat) (k : Nat → Int) (d : D) (a b : Nat) (e : Ending) (w' : World) : Prop :=
  e = .returned (.tuple #[]) ∧ ∃ d', Hid (Sw w0 w' g n cap d') ∧ Hid (Gdo k d' n ∧ Mv d d' a b ∧ Sr k d' a b)
theorem cmp_of (a : Option Addr) (n c : Nat) (f : Nat → Nat → Int) (lb g : Nat) (w0 : World) (h : Hid (Open.RowsIn w0 a n 3 f)) (hb : Hid (Box w0 lb #[.slice a n c] 67)) (hg : lb ≠ g) (ha : ∀ q off, a = some ⟨q, off, none⟩ → q ≠ g) : Cmp n f w0 g lb := fun w' hw x y hx hy => by
  refine order1_any a n c f x y lb (cm f x y) w' ?_ (Lib.hid (box_alt hb.out hw hg)) hx hy (Lib.hid rfl)
  obtain ⟨q, off, rfl, _⟩ := rows_at h x hx
  exact rows_alt h hw (ha q off rfl)
end Go.Proofs.Ytgkahcchekiogaa.Rtj

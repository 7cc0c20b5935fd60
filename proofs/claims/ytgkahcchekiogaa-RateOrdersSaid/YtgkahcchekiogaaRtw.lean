/- The laws of rate: works. -/
import Derived.Test.YtgkahcchekiogaaRti
import Derived.Test.YtgkahcchekiogaaSame
namespace Go.Proofs.Ytgkahcchekiogaa.Rtw
open Go.RowKit Base Kit WideA WideB Plain Alt Rta Rtb Rtc Rtd Rte Rtf Rtg Rth Rti
set_option linter.unusedVariables false
set_option linter.unusedSimpArgs false
def pf (i j : Nat) : Int := match i, j with
  | 0, 0 => 0
  | 0, 1 => 3
  | 0, _ => 7
  | _, 0 => 0
  | _, 1 => 2
  | _, _ => 5
def of2 (i _j : Nat) : Int := if i = 0 then 1 else 0
theorem rowsI_box {w : World} {b n sz : Nat} {vs : Array Value} {T : TypeId} {f : Nat → Nat → Int} (h : Box w b vs T) (hn : n ≤ 1000) (hc : ∀ i, i < n → ∀ j, j < sz → vs[0 + (i * sz + j)]? = some (.int .i64 (f i j)) ∧ I64 (f i j)) : Open.RowsIn w (some ⟨b, 0, none⟩) n sz f :=
  ⟨by omega, .inr ⟨b, 0, rfl, h.lt, fun i hi j hj => (h.cell _).trans (hc i hi j hj).1⟩, fun i hi j hj => (hc i hi j hj).2⟩
theorem lit {a : Int} (h : decide (-9223372036854775808 ≤ a ∧ a ≤ 9223372036854775807) = true) : I64 a := (of_decide_eq_true h : -9223372036854775808 ≤ a ∧ a ≤ 9223372036854775807)
theorem rows_pf {w : World} {b : Nat} (h : Box w b #[.int .i64 0, .int .i64 3, .int .i64 7, .int .i64 0, .int .i64 2, .int .i64 5] 102) : Open.RowsIn w (some ⟨b, 0, none⟩) 2 3 pf := by
  refine rowsI_box h (by omega) ?_
  intro i hi j hj
  match i, j, hi, hj with
  | 0, 0, _, _ => exact ⟨rfl, lit rfl⟩
  | 0, 1, _, _ => exact ⟨rfl, lit rfl⟩
  | 0, 2, _, _ => exact ⟨rfl, lit rfl⟩
  | 1, 0, _, _ => exact ⟨rfl, lit rfl⟩
  | 1, 1, _, _ => exact ⟨rfl, lit rfl⟩
  | 1, 2, _, _ => exact ⟨rfl, lit rfl⟩
theorem rows_of2 {w : World} {b : Nat} (h : Box w b #[.int .i64 1, .int .i64 0] 3) : Open.RowsIn w (some ⟨b, 0, none⟩) 2 1 of2 := by
  refine rowsI_box h (by omega) ?_
  intro i hi j hj
  match i, j, hi, hj with
  | 0, 0, _, _ => exact ⟨rfl, lit rfl⟩
  | 1, 0, _, _ => exact ⟨rfl, lit rfl⟩
theorem rows_own2 {w : World} {base g cap : Nat} (h : w.ownsRow base 3 1 (.slice (some ⟨g, 0, none⟩) 2 cap) 2 [.int .i64 1, .int .i64 0]) : Open.RowsIn w (some ⟨g, 0, none⟩) 2 1 of2 := by
  have c0 := h.cellAt 0 (by omega)
  have c1 := h.cellAt 1 (by omega)
  refine ⟨by omega, .inr ⟨g, 0, rfl, (h.lt g rfl).2, fun i hi j hj => ?_⟩, fun i hi j hj => ?_⟩
  · match i, j, hi, hj with
    | 0, 0, _, _ => exact c0
    | 1, 0, _, _ => exact c1
  · match i, j, hi, hj with
    | 0, 0, _, _ => exact lit rfl
    | 1, 0, _, _ => exact lit rfl
set_option maxRecDepth 100000 in
set_option maxHeartbeats 4000000 in
theorem works_any (w : World) : Calls Try.prog 44 #[] w fun e w' => e = .returned (.bool true) ∧ Below w.heap.size w w' := by
  have X := Lib.hid (Box.new w #[.int .i64 0, .int .i64 3, .int .i64 7, .int .i64 0, .int .i64 2, .int .i64 5] 102)
  have HB := Lib.hid ((Below.refl w.heap.size w).alloc (Nat.le_refl _) (.cells #[.int .i64 0, .int .i64 3, .int .i64 7, .int .i64 0, .int .i64 2, .int .i64 5] 102))
  have C1 := Lib.hid (fun w' (h : Hid (Open.RowsIn w' (some ⟨w.heap.size, 0, none⟩) 2 3 pf)) => Hyper_any (some ⟨w.heap.size, 0, none⟩) 2 2 pf 6 0 w' h (Lib.hid (by decide +kernel)))
  have C2 := Lib.hid (fun w' (h : Hid (Open.RowsIn w' (some ⟨w.heap.size, 0, none⟩) 2 3 pf)) => Total_any (some ⟨w.heap.size, 0, none⟩) 2 2 pf 29 0 w' h (Lib.hid (by decide +kernel)))
  have C3 := Lib.hid (fun w' (h : Hid (Open.RowsIn w' (some ⟨w.heap.size, 0, none⟩) 2 3 pf)) => order2_any (some ⟨w.heap.size, 0, none⟩) 2 pf w' h (Lib.hid (by decide +kernel)))
  have C4 := Lib.hid (fun w' (h : Hid (Open.RowsIn w' (some ⟨w.heap.size, 0, none⟩) 2 3 pf)) => Wants_any (some ⟨w.heap.size, 0, none⟩) 2 2 pf 3 7 w' h ⟨by omega, by omega⟩ (Lib.hid (by decide +kernel)))
  have C5 := Lib.hid (fun a b c1 c2 w' h1 h2 => Go.Proofs.Ytgkahcchekiogaa.Same.same_walk a b 2 c1 c2 of2 w' h1 h2)
  go_enter Try.func44, Try.ntmps44
  go_wp2_with fail
  generalize w.alloc (.cells #[.int .i64 0, .int .i64 3, .int .i64 7, .int .i64 0, .int .i64 2, .int .i64 5] 102) = W at *
  refine (C1.out _ (Lib.hid (rows_pf X.out))).mono ?_
  rintro e1 w5 ⟨rfl, k5⟩
  have X := Lib.hid (X.out.next k5)
  have HB := below_hid HB k5
  clear k5
  go_wp2_with fail
  refine (C2.out _ (Lib.hid (rows_pf X.out))).mono ?_
  rintro e1 w6 ⟨rfl, k5⟩
  have X := Lib.hid (X.out.next k5)
  have HB := below_hid HB k5
  clear k5
  go_wp2_with fail
  refine (C3.out _ (Lib.hid (rows_pf X.out))).mono ?_
  rintro e1 w7 ⟨g, cap, rfl, own, k5⟩
  have X := Lib.hid (X.out.next k5)
  have HB := below_hid HB k5
  clear k5
  have Y := Lib.hid (Box.new w7 #[.int .i64 1, .int .i64 0] 3)
  have R1 : Hid (Open.RowsIn (w7.alloc (.cells #[.int .i64 1, .int .i64 0] 3)) (some ⟨g, 0, none⟩) 2 1 of2) := Lib.hid (rows_own2 (own.alloc _))
  have X := Lib.hid (X.out.alloc (.cells #[.int .i64 1, .int .i64 0] 3))
  have HB := Lib.hid (HB.out.alloc HB.out.size (.cells #[.int .i64 1, .int .i64 0] 3))
  clear own
  go_wp2_with fail
  refine (C5.out _ _ _ _ _ R1 (Lib.hid (rows_of2 Y.out))).mono ?_
  rintro e1 w8 ⟨rfl, k5⟩
  have X := Lib.hid (X.out.next k5)
  have HB := below_hid HB k5
  clear k5
  go_wp2_with fail
  refine (C4.out _ (Lib.hid (rows_pf X.out))).mono ?_
  rintro e1 w9 ⟨rfl, k5⟩
  have HB := below_hid HB k5
  clear k5
  go_wp2_with fail
  go_ret
  exact ⟨rfl, HB.out⟩
end Go.Proofs.Ytgkahcchekiogaa.Rtw

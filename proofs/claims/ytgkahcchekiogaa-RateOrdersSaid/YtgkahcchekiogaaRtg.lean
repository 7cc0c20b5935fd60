/- Package rate: the closure of Order. -/
import Derived.Test.YtgkahcchekiogaaRtf
namespace Go.Proofs.Ytgkahcchekiogaa.Rtg
open Go.RowKit Base Kit WideA WideB Plain Rta Rtb Rtc Rtd Rte Rtf
set_option linter.unusedVariables false
set_option linter.unusedSimpArgs false
set_option maxRecDepth 100000 in
set_option maxHeartbeats 2000000 in
theorem order1_any (a : Option Addr) (n c : Nat) (f : Nat → Nat → Int) (i k lb : Nat) (r : Int) (w : World) (h : Hid (Open.RowsIn w a n 3 f)) (hb : Hid (Box w lb #[.slice a n c] 67)) (hi : i < n) (hk : k < n) (hr : Hid (bfI (f i 1) (f k 1) = r)) :
    Calls Try.prog 117 #[.int .i64 (i : Int), .int .i64 (k : Int), .pointer (some ⟨lb, 0, none⟩)] w fun e w' => e = .returned (.int .i64 r) ∧ Below w.heap.size w w' := by
  have hn := h.out.1
  obtain ⟨b, off, ea, hlt, c0, c1, c2, i0, i1, i2⟩ := rows_at3 h i hi
  obtain ⟨b', off', ea', hlt', d0, d1, d2, j0, j1, j2⟩ := rows_at3 h k hk
  rw [ea] at ea'
  simp only [Option.some.injEq, Addr.mk.injEq, and_true] at ea'
  obtain ⟨rfl, rfl⟩ := ea'
  have C := Lib.hid (fun w => before_any (f i 0) (f i 1) (f i 2) (f k 0) (f k 1) (f k 2) r w hr)
  have hiI : (i : Int) < (n : Int) := by omega
  have hkI : (k : Int) < (n : Int) := by omega
  have hi0 : (0 : Int) ≤ (i : Int) := by omega
  have hk0 : (0 : Int) ≤ (k : Int) := by omega
  clear i0 i1 i2 j0 j1 j2 hr h hlt'
  subst ea
  generalize f i 0 = y0 at *
  generalize f i 1 = y1 at *
  generalize f i 2 = y2 at *
  generalize f k 0 = z0 at *
  generalize f k 1 = z1 at *
  generalize f k 2 = z2 at *
  have SK := Lib.hid (fun (w' : World) (hw : Below w.heap.size w w') => show (∀ j, w'.cell? ⟨lb, j, none⟩ = (#[.slice (some ⟨b, off, none⟩) n c] : Array Value)[j]?) ∧ w'.cell? ⟨b, off + i * 3, none⟩ = some (.int .i64 y0) ∧ w'.cell? ⟨b, off + i * 3 + 1, none⟩ = some (.int .i64 y1) ∧ w'.cell? ⟨b, off + i * 3 + 2, none⟩ = some (.int .i64 y2) ∧ w'.cell? ⟨b, off + k * 3, none⟩ = some (.int .i64 z0) ∧ w'.cell? ⟨b, off + k * 3 + 1, none⟩ = some (.int .i64 z1) ∧ w'.cell? ⟨b, off + k * 3 + 2, none⟩ = some (.int .i64 z2) from
    ⟨(hb.out.below hw hb.out.lt).cell, keep hw c0 hlt, keep hw c1 hlt, keep hw c2 hlt, keep hw d0 hlt, keep hw d1 hlt, keep hw d2 hlt⟩)
  clear c0 c1 c2 d0 d1 d2
  go_enter Try.func117, Try.ntmps117
  go_wp2_with fail
  have HD := Lib.hid ((Below.refl w.heap.size w).drew)
  go_region_held3 (fun w' => (∀ j, w'.cell? ⟨lb, j, none⟩ = (#[.slice (some ⟨b, off, none⟩) n c] : Array Value)[j]?) ∧ w'.cell? ⟨b, off + i * 3, none⟩ = some (.int .i64 y0) ∧ w'.cell? ⟨b, off + i * 3 + 1, none⟩ = some (.int .i64 y1) ∧ w'.cell? ⟨b, off + i * 3 + 2, none⟩ = some (.int .i64 y2) ∧ w'.cell? ⟨b, off + k * 3, none⟩ = some (.int .i64 z0) ∧ w'.cell? ⟨b, off + k * 3 + 1, none⟩ = some (.int .i64 z1) ∧ w'.cell? ⟨b, off + k * 3 + 2, none⟩ = some (.int .i64 z2))
    (first | exact SK.out _ H5.out | exact SK.out _ HD.out)
    (first | (go_at_call 118; refine (C.out _).mono ?_; rintro e1 w5 ⟨rfl, k5⟩; have H5 := below_hid HD k5))
  go_wp2_with fail
  go_ret
  exact ⟨rfl, H5.out⟩
end Go.Proofs.Ytgkahcchekiogaa.Rtg

/- The law AgendaNone: empty. -/
import Derived.Test.YtlafeijkpnpdeaaAgk
namespace Go.Proofs.Ytlafeijkpnpdeaa.Agl
open Go.RowKit Base Kit Alt Held Agp Aga Agb Agc Agd Age Agf Agg Agh Agi Agk
set_option linter.unusedVariables false
set_option linter.unusedSimpArgs false
set_option maxRecDepth 100000 in
set_option maxHeartbeats 2000000 in
theorem empty_any (p : Option Addr) (at1 : Int) (w : World) (D : Hid (Dead (.pointer p) w)) : Calls Try.prog 17 #[.pointer p, .int .i64 at1] w fun e w' => e = .returned (.bool true) ∧ Below w.heap.size w w' := by
  go_enter Try.func17, Try.ntmps17
  go_wp2_with fail
  refine (Add0 p at1 at1 w D).mono ?_
  rintro e w5 ⟨rfl, e9⟩
  cases e9
  go_wp2_with fail
  refine (Next0 p w D).mono ?_
  rintro e w5 ⟨rfl, e9⟩
  cases e9
  go_wp2_with fail
  refine (Drop0 p at1 w D).mono ?_
  rintro e w1 ⟨rfl, k⟩
  have K := Lib.hid k
  have D1 := dead_next D k
  clear k
  go_wp2_with fail
  refine (Due0 p at1 w1 D1).mono ?_
  rintro e w5 ⟨rfl, e9⟩
  cases e9
  go_wp2_with fail
  refine (Len0 p w1 D1).mono ?_
  rintro e w5 ⟨rfl, e9⟩
  cases e9
  go_wp2_with fail
  refine (all0 p w1 D1).mono ?_
  rintro e w2 ⟨rfl, k⟩
  replace K := below_hid K k
  clear k
  go_wp2_with fail
  go_ret
  exact ⟨rfl, K.out⟩
set_option maxRecDepth 100000 in
set_option maxHeartbeats 2000000 in
theorem none_law (at1 : Int) (w : World) (i0 : -9223372036854775808 ≤ at1 ∧ at1 ≤ 9223372036854775807) : Calls Try.prog 6 #[.int .i64 at1] w fun e w' => e = .returned (.bool true) ∧ Below w.heap.size w w' := by
  go_enter Try.func6, Try.ntmps6
  go_wp2_with fail
  refine (empty_any none at1 w (dead_of_nil w)).mono ?_
  rintro e w1 ⟨rfl, k⟩
  have K := Lib.hid k
  clear k
  go_wp2_with fail
  have B := Box.new w1 #[.slice none 0 0, .int .i64 0, .int .i64 0, .bool false] 55
  have K2 := below_hid K ((Below.refl w1.heap.size w1).alloc (Nat.le_refl _) (.cells #[.slice none 0 0, .int .i64 0, .int .i64 0, .bool false] 55))
  refine (empty_any _ at1 _ (dead_of_box B rfl)).mono ?_
  rintro e w2 ⟨rfl, k⟩
  have K3 := below_hid K2 k
  clear k B K K2
  go_wp2_with fail
  refine (works_any _).mono ?_
  rintro e w3 ⟨rfl, k⟩
  have K4 := below_hid K3 k
  clear k
  go_wp2_with fail
  go_ret
  exact ⟨rfl, K4.out⟩
end Go.Proofs.Ytlafeijkpnpdeaa.Agl

/- package law03: same. -/
import Derived.BigQuiet
import Derived.Deep.QuietTactic
import Derived.Test.YtlafeijkpnpdeaaAgw
namespace Go.Proofs.Ytlafeijkpnpdeaa.Agze
open Go.RowKit Go.Shelf Base Kit RefA Alt Held Agp Aga Agb Agc Agd Age Agf Agg Agh Agi Agj Agn Agt Agw
set_option linter.unusedVariables false
set_option linter.unusedSimpArgs false
theorem row_atR {w : World} {B n : Nat} {u : Value} {M : List E} (h : w.ownsRow B 45 3 u n (encE M)) (hn : M.length = n) (i : Nat) (hi : i < n) {x0 x1 x2 : Int} (e : Hid (at_ M i = (x0, x1, x2))) : ∃ g cap, u = .slice (some ⟨g, 0, none⟩) n cap ∧ g < w.heap.size ∧ EC w g i x0 x1 x2 := by
  obtain ⟨g, cap, rfl, _, hlt⟩ := own_form h (fun e => by
    have h1 := h.2
    rw [e] at h1
    rcases h1 with ⟨_, h2⟩ | ⟨g, cap, cur, hv, _⟩
    · omega
    · simp at hv)
  obtain ⟨a, b, c⟩ := enc_at M i (by omega)
  rw [e.out] at a b c
  refine ⟨g, cap, rfl, hlt, ?_⟩
  unfold EC
  rw [World.ownsRow.cellAt h (i * 3) (by omega), World.ownsRow.cellAt h (i * 3 + 1) (by omega), World.ownsRow.cellAt h (i * 3 + 2) (by omega)]
  exact ⟨a, b, c⟩
set_option maxHeartbeats 1000000 in
theorem same_any (B1 B2 : Nat) (u v : Value) (M : List E) (w : World) (h1 : Hid (w.ownsRow B1 33 3 u M.length (encE M))) (h2 : Hid (w.ownsRow B2 45 3 v M.length (encE M))) (hm : M.length ≤ 1000) :
    Calls Try.prog 14 #[u, v] w fun e w' => e = .returned (.bool true) ∧ Below w.heap.size w w' := by
  obtain ⟨a, ca, rfl⟩ := own_val h1.out
  obtain ⟨b, cb, rfl⟩ := own_val h2.out
  obtain ⟨n, hn⟩ : ∃ n, M.length = n := ⟨_, rfl⟩
  have HN := Lib.hid hn
  rw [hn] at h1 h2 hm
  rw [hn]
  clear hn
  go_enter Try.func14, Try.ntmps14
  go_wp2_with fail
  go_loopw [5] (fun i wr => ∃ k : Nat, k ≤ n ∧ i = .int .i64 k ∧ Hid (Below w.heap.size w wr)) (fun i _ => n - (intOf i).toNat)
  case atStart => exact ⟨0, by omega, rfl, Lib.hid (Below.refl _ _)⟩
  case round =>
    obtain ⟨k, hk, rfl, HB⟩ := hrel
    by_cases hlt : k < n
    · obtain ⟨⟨x0, x1, x2⟩, hx⟩ : ∃ x, at_ M k = x := ⟨_, rfl⟩
      have hx := Lib.hid hx
      obtain ⟨g1, cc1, e1, l1, c0, c1, c2⟩ := row_at h1.out HN.out k hlt hx
      obtain ⟨g2, cc2, e2, l2, d0, d1, d2⟩ := row_atR h2.out HN.out k hlt hx
      simp only [Value.slice.injEq, true_and] at e1 e2
      obtain ⟨rfl, rfl⟩ := e1
      obtain ⟨rfl, rfl⟩ := e2
      have c0 := (HB.out.cell (p := ⟨g1, k * 3, none⟩) l1).trans c0
      have c1 := (HB.out.cell (p := ⟨g1, k * 3 + 1, none⟩) l1).trans c1
      have c2 := (HB.out.cell (p := ⟨g1, k * 3 + 2, none⟩) l1).trans c2
      have d0 := (HB.out.cell (p := ⟨g2, k * 3, none⟩) l2).trans d0
      have d1 := (HB.out.cell (p := ⟨g2, k * 3 + 1, none⟩) l2).trans d1
      have d2 := (HB.out.cell (p := ⟨g2, k * 3 + 2, none⟩) l2).trans d2
      clear hx
      go_wp2_with fail
      go_quiet (fail)
      go_wp2_with fail
      go_roundw
      case rel => exact ⟨k + 1, by omega, by simp, Lib.hid (below_drewN HB.out _)⟩
      case measure => simp [intOf]; omega
    · obtain rfl : k = n := by omega
      go_wp2_with fail
      go_ret
      exact ⟨rfl, HB.out⟩
end Go.Proofs.Ytlafeijkpnpdeaa.Agze

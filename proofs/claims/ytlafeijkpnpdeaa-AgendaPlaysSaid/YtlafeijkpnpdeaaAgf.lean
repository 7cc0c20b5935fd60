/- Package agenda: dead, New, Len, Next. -/
import Derived.Test.YtlafeijkpnpdeaaAge
namespace Go.Proofs.Ytlafeijkpnpdeaa.Agf
open Go.RowKit Base Kit Alt Held Agp Aga Agb Agc Agd Age
set_option linter.unusedVariables false
set_option linter.unusedSimpArgs false
attribute [local go_sem ↓] Go.wp_at_zero Go.wp_at_succ
theorem dead_nil (w : World) : Calls Try.prog 18 #[.pointer none] w fun e w' => e = .returned (.bool true) ∧ w = w' := by
  go_enter Try.func18, Try.ntmps18
  go_wp2_with fail
  go_ret
  exact ⟨rfl, rfl⟩
theorem dead_zero (b : Nat) (w : World) (h : w.cell? ⟨b, 3, none⟩ = some (.bool false)) : Calls Try.prog 18 #[.pointer (some ⟨b, 0, none⟩)] w fun e w' => e = .returned (.bool true) ∧ w = w' := by
  go_enter Try.func18, Try.ntmps18
  go_wp2_with fail
  go_ret
  exact ⟨rfl, rfl⟩
theorem dead_no (b : Nat) (w : World) (h : w.cell? ⟨b, 3, none⟩ = some (.bool true)) : Calls Try.prog 18 #[.pointer (some ⟨b, 0, none⟩)] w fun e w' => e = .returned (.bool false) ∧ w = w' := by
  go_enter Try.func18, Try.ntmps18
  go_wp2_with fail
  go_ret
  exact ⟨rfl, rfl⟩
theorem live {w : World} {ab : Nat} {v : Value} {L : List E} {last most : Int} (h : Hid (Ag w ab v L last most)) : Calls Try.prog 18 #[.pointer (some ⟨ab, 0, none⟩)] w fun e w' => e = .returned (.bool false) ∧ w = w' := dead_no ab w (h.out.box.cell 3)
/-- what is altered by a call on an agenda -/
structure Mov (ab : Nat) (v v' : Value) (w w' : World) : Prop where
  alt : Alt (fun k => k = ab ∨ v.ownBlock = some k) w w'
  new : ∀ g, v'.ownBlock = some g → v.ownBlock = some g ∨ w.heap.size ≤ g
theorem Mov.trans {ab : Nat} {v v' v'' : Value} {w w' w'' : World} (h : Mov ab v v' w w') (k : Mov ab v' v'' w' w'') : Mov ab v v'' w w'' := by
  refine ⟨⟨k.alt.os.trans h.alt.os, k.alt.tape.trans h.alt.tape, k.alt.output.trans h.alt.output, Nat.le_trans h.alt.size k.alt.size, fun i hi hs => (k.alt.block i (Nat.lt_of_lt_of_le hi h.alt.size) (fun z => ?_)).trans (h.alt.block i hi hs)⟩, fun g hg => ?_⟩
  · rcases z with z | z
    · exact hs (.inl z)
    · rcases h.new i z with z | z
      · exact hs (.inr z)
      · omega
  · have := h.alt.size
    rcases k.new g hg with z | z
    · exact h.new g z
    · exact .inr (by omega)
theorem Mov.refl (ab : Nat) (v : Value) (w : World) : Mov ab v v w w := ⟨Alt.refl _ _, fun g h => .inl h⟩
theorem Mov.below {ab : Nat} {v : Value} {w w' : World} (h : Below w.heap.size w w') : Mov ab v v w w' := ⟨Alt.of_below h, fun g h => .inl h⟩
theorem New_any (mst : Int) (w : World) : Calls Try.prog 7 #[.int .i64 mst] w fun e w' => e = .returned (.pointer (some ⟨w.heap.size, 0, none⟩)) ∧ Hid (Ag w' w.heap.size (.slice none 0 0) [] 0 mst) ∧ Below w.heap.size w w' := by
  go_enter Try.func7, Try.ntmps7
  go_wp2_with fail
  go_ret
  exact ⟨rfl, Lib.hid ⟨Box.new _ _ _, ⟨by simp [encE], .inl ⟨rfl, rfl⟩⟩, by simp⟩, (Below.refl _ _).alloc (Nat.le_refl _) _⟩
theorem own_val {w : World} {B : Nat} {T : TypeId} {sz : Nat} {v : Value} {n : Nat} {xs : List Value} (h : w.ownsRow B T sz v n xs) : ∃ a cap, v = .slice a n cap := by
  rcases h.2 with ⟨h1, h2⟩ | ⟨g, cap, cur, h1, _⟩
  · exact ⟨none, 0, by rw [h1, h2]⟩
  · exact ⟨_, _, h1⟩
set_option maxHeartbeats 1000000 in
theorem Len_any (ab : Nat) (v : Value) (L : List E) (last most : Int) (w : World) (h : Hid (Ag w ab v L last most)) : Calls Try.prog 11 #[.pointer (some ⟨ab, 0, none⟩)] w fun e w' => e = .returned (.int .i64 (L.length : Int)) ∧ w = w' := by
  have C := Lib.hid (live h)
  obtain ⟨a, cap, rfl⟩ := own_val h.out.own
  generalize L.length = n at *
  have bc := h.out.box.cell
  go_enter Try.func11, Try.ntmps11
  go_wp2_with fail
  refine (C.out).mono ?_
  rintro e w5 ⟨rfl, e9⟩
  cases e9
  go_wp2_with fail
  go_ret
  exact ⟨rfl, rfl⟩
def nxt (L : List E) : Int × Bool := if L.length = 0 then (0, false) else ((at_ L 0).1, true)
set_option maxHeartbeats 1000000 in
theorem Next_any (ab : Nat) (v : Value) (L : List E) (last most : Int) (x : Int) (b : Bool) (w : World) (h : Hid (Ag w ab v L last most)) (hr : Hid (nxt L = (x, b))) : Calls Try.prog 13 #[.pointer (some ⟨ab, 0, none⟩)] w fun e w' => e = .returned (.tuple #[.int .i64 x, .bool b]) ∧ w = w' := by
  have C := Lib.hid (live h)
  have hr := hr.out
  unfold nxt at hr
  by_cases hn : L.length = 0
  · rw [if_pos hn, Prod.mk.injEq] at hr
    obtain ⟨rfl, hb⟩ := hr
    subst hb
    obtain ⟨a, cap, rfl⟩ := own_val h.out.own
    have bc := h.out.box.cell
    rw [hn] at bc
    clear hn h
    go_enter Try.func13, Try.ntmps13
    go_wp2_with fail
    refine (C.out).mono ?_
    rintro e w5 ⟨rfl, e9⟩
    cases e9
    go_wp2_with fail
    refine bodyPost_ret (v := .tuple #[.int .i64 0, .bool false]) ?_ rfl ⟨rfl, rfl⟩
    simp [results, Try.results13, go_sem]
  · rw [if_neg hn, Prod.mk.injEq] at hr
    obtain ⟨hx, hb⟩ := hr
    subst hb
    obtain ⟨g, cap, rfl, hlt, hne⟩ := ent_at h (by omega)
    obtain ⟨⟨x0, x1, x2⟩, hy⟩ : ∃ x, at_ L 0 = x := ⟨_, rfl⟩
    obtain ⟨c0, c1, c2⟩ := ent_cells h 0 (by omega) (Lib.hid hy)
    rw [hy] at hx
    dsimp only at hx
    subst hx
    have bc := h.out.box.cell
    clear h hy
    have hp : 0 < L.length := by omega
    have hn' : ((L.length : Int) == 0) = false := by simpa using hn
    have hp2 : (0 : Int) < (L.length : Int) := by omega
    simp only [Nat.zero_mul, Nat.zero_add] at c0 c1 c2
    generalize L.length = n at *
    go_enter Try.func13, Try.ntmps13
    go_wp2_with fail
    refine (C.out).mono ?_
    rintro e w5 ⟨rfl, e9⟩
    cases e9
    go_wp2_with fail
    refine bodyPost_ret (v := .tuple #[.int .i64 x0, .bool true]) ?_ rfl ⟨rfl, rfl⟩
    simp [results, Try.results13, go_sem]
end Go.Proofs.Ytlafeijkpnpdeaa.Agf

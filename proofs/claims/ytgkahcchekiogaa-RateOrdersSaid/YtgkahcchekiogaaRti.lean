/- rate.Order of two processes. -/
import Derived.Test.YtgkahcchekiogaaRth
namespace Go.Proofs.Ytgkahcchekiogaa.Rti
open Go.RowKit Go.Shelf Base Kit WideA WideB Plain RefA Alt Rta Rtb Rtc Rtd Rte Rtf Rtg Rth
set_option linter.unusedVariables false
set_option linter.unusedSimpArgs false
set_option maxHeartbeats 2000000 in
theorem stable2_any (a : Option Addr) (c : Nat) (f : Nat → Nat → Int) (lb base g cap : Nat) (w : World) (h : Hid (Open.RowsIn w a 2 3 f)) (hb : Hid (Box w lb #[.slice a 2 c] 67)) (hr : Hid (bfI (f 1 1) (f 0 1) = -1)) (hg : base ≤ g) (hgl : g < w.heap.size)
    (hown : Hid (w.ownsRow base 3 1 (.slice (some ⟨g, 0, none⟩) 2 cap) 2 [.int .i64 0, .int .i64 1])) :
    Calls Try.prog 152 #[.slice (some ⟨g, 0, none⟩) 2 cap, .int .i64 2, (.func (.func 117) #[] #[.pointer (some ⟨lb, 0, none⟩)])] w fun e w' => e = .returned (.tuple #[]) ∧ Swd base g cap w w' := by
  have C := Lib.hid (ins2_any a c f lb base g cap w h hb hr hg hgl hown)
  go_enter Try.func152, Try.ntmps152
  go_wp2_with fail
  go_loopw [7, 8] (fun x b wr => x = .int .i64 0 ∧ b = .int .i64 20 ∧ wr = w) (fun _ _ _ => 0)
  case atStart => exact ⟨rfl, rfl, rfl⟩
  case round =>
    obtain ⟨rfl, rfl, rfl⟩ := hrel
    go_wp2_with fail
    refine C.out.mono ?_
    rintro e1 w5 ⟨rfl, k5⟩
    have HS := Lib.hid k5
    clear k5
    go_wp2_with fail
    go_loopw [6] (fun b wr' => b = .int .i64 20 ∧ Hid (Swd base g cap wr wr')) (fun _ _ => 0)
    case atStart => exact ⟨rfl, HS⟩
    case round =>
      clear HS
      obtain ⟨rfl, HS⟩ := hrel
      go_wp2_with fail
      refine bodyPost_end (v := .tuple #[]) ?_ rfl ⟨rfl, HS.out⟩
      simp [results, Try.results152, go_sem]
set_option maxHeartbeats 2000000 in
theorem sort2_any (a : Option Addr) (c : Nat) (f : Nat → Nat → Int) (lb base g cap : Nat) (w : World) (h : Hid (Open.RowsIn w a 2 3 f)) (hb : Hid (Box w lb #[.slice a 2 c] 67)) (hr : Hid (bfI (f 1 1) (f 0 1) = -1)) (hg : base ≤ g) (hgl : g < w.heap.size)
    (hown : Hid (w.ownsRow base 3 1 (.slice (some ⟨g, 0, none⟩) 2 cap) 2 [.int .i64 0, .int .i64 1])) :
    Calls Try.prog 116 #[.slice (some ⟨g, 0, none⟩) 2 cap, (.func (.func 117) #[] #[.pointer (some ⟨lb, 0, none⟩)])] w fun e w' => e = .returned (.tuple #[]) ∧ Swd base g cap w w' := by
  have C := Lib.hid (stable2_any a c f lb base g cap w h hb hr hg hgl hown)
  go_enter Try.func116, Try.ntmps116
  go_wp2_with fail
  refine C.out.mono ?_
  rintro e1 w5 ⟨rfl, k5⟩
  have HS := Lib.hid k5
  clear k5
  go_wp2_with fail
  refine bodyPost_end (v := .tuple #[]) ?_ rfl ⟨rfl, HS.out⟩
  simp [results, Try.results116, go_sem]
def upL (k : Nat) : List Value := (List.range k).map (fun i : Nat => Value.int .i64 (i : Int))
theorem upL_succ (k : Nat) : upL (k + 1) = upL k ++ [.int .i64 (k : Int)] := by simp [upL, List.range_succ]
set_option maxRecDepth 100000 in
set_option maxHeartbeats 4000000 in
theorem order2_any (a : Option Addr) (c : Nat) (f : Nat → Nat → Int) (w : World) (h : Hid (Open.RowsIn w a 2 3 f)) (hr : Hid (bfI (f 1 1) (f 0 1) = -1)) :
    Calls Try.prog 56 #[.slice a 2 c] w fun e w' => ∃ g cap, e = .returned (.slice (some ⟨g, 0, none⟩) 2 cap) ∧ w'.ownsRow (w.heap.size + 1) 3 1 (.slice (some ⟨g, 0, none⟩) 2 cap) 2 [.int .i64 1, .int .i64 0] ∧ Below w.heap.size w w' := by
  have B0 := Lib.hid (Box.new w #[.slice a 2 c] 67)
  have HB0 := Lib.hid ((Below.refl w.heap.size w).alloc (Nat.le_refl _) (.cells #[.slice a 2 c] 67))
  have SZ : Hid ((w.alloc (.cells #[.slice a 2 c] 67)).heap.size = w.heap.size + 1) := Lib.hid (by simp)
  have bc := B0.out.cell
  go_enter Try.func56, Try.ntmps56
  go_wp2_with fail
  generalize w.alloc (.cells #[.slice a 2 c] 67) = W at *
  go_loopw [3, 7] (fun v i wr => ∃ k : Nat, k ≤ 2 ∧ i = .int .i64 k ∧ wr.ownsRow W.heap.size 3 1 v k (upL k) ∧ Hid (Below W.heap.size W wr)) (fun _ i _ => 2 - (intOf i).toNat)
  case atStart => exact ⟨0, Nat.zero_le _, rfl, World.ownsRow_nil _ _ _ _, Lib.hid (Below.refl _ _)⟩
  case round =>
    obtain ⟨k, hk, rfl, hown, hbel⟩ := hrel
    by_cases hl : k < 2
    · go_wp2_with (at_builtin; go_loud (refine append1 wr rfl _ _ 55 rfl W.heap.size 3 (.int .i64 0) 8 Try.underlying55 infoInt rfl _ (.int .i64 (k : Int)) _ _ _ rfl (by exact hown) rfl rfl ?c1 ?c2 ?c3 ?_))
      case c1 => unfold maxLen; omega
      case c2 => omega
      case c3 => exact hbel.out.size
      intro v' w1 hown1 hsz hb1 _
      go_wp2_with fail
      go_roundw
      case rel => exact ⟨k + 1, by omega, by go_num, by rw [upL_succ]; exact hown1, Lib.hid (hbel.out.trans hb1)⟩
      case measure => simp [intOf]; omega
    · obtain rfl : k = 2 := by omega
      obtain ⟨g, cap, rfl, hg1, hg2⟩ := ownsRow_open hown (by omega)
      have HB1 := Lib.hid (HB0.out.trans (hbel.out.mono (by rw [SZ.out]; omega)))
      have C := Lib.hid (sort2_any a c f w.heap.size W.heap.size g cap wr (Lib.hid (rows_below h.out HB1.out (Nat.le_refl _))) (Lib.hid (B0.out.below hbel.out B0.out.lt)) hr hg1 hg2 (Lib.hid hown))
      go_wp2_with fail
      refine C.out.mono ?_
      rintro e1 w5 ⟨rfl, k5⟩
      have HS := Lib.hid k5
      clear k5
      go_wp2_with fail
      go_ret
      refine ⟨g, cap, rfl, by rw [← SZ.out]; exact HS.out.1, HB1.out.trans (HS.out.2.mono (by rw [SZ.out]; omega))⟩
end Go.Proofs.Ytgkahcchekiogaa.Rti

/- The reference's great numbers: digits to the base 65536. -/
import Derived.Test.YtgkahcchekiogaaBase
import Derived.Test.YtgkahcchekiogaaProg
import Derived.Test.YtgkahcchekiogaaLong
import Derived.BigQuiet
import Derived.Deep.QuietTactic
namespace Go.Proofs.Ytgkahcchekiogaa.RefA
open Go.RowKit Base Long
set_option linter.unusedVariables false
set_option linter.unusedSimpArgs false

theorem ret_int {k : IntKind} {a b : Int} (h : a = b) : Ending.returned (.int k a) = .returned (.int k b) := by rw [h]
def row (f : Nat → Int) (n : Nat) : List Value := (List.range n).map fun j => .int .i64 (f j)
theorem row_succ (f : Nat → Int) (n : Nat) : row f (n + 1) = row f n ++ [.int .i64 (f n)] := by simp [row, List.range_succ]
theorem row_get (f : Nat → Int) (n j : Nat) (h : j < n) : (row f n)[j]? = some (.int .i64 (f j)) := by simp [row, h]
theorem row_len (f : Nat → Int) (n : Nat) : (row f n).length = n := by simp [row]
theorem row_set (f : Nat → Int) (n i : Nat) (v : Int) : (row f n).set i (.int .i64 v) = row (fun j => if j = i then v else f j) n := by
  apply List.ext_getElem?
  intro j
  rw [List.getElem?_set]
  by_cases h : i = j
  · subst h
    by_cases hn : i < n
    · simp [row, hn]
    · simp [row, hn]
  · simp only [row, List.getElem?_map, h, if_false, if_neg (Ne.symm h)]
    by_cases hn : j < n
    · rw [List.getElem?_range hn]; simp [Ne.symm h]
    · rw [List.getElem?_eq_none (by simpa using hn)]; rfl

theorem infoInt : (Try.prog.info? 3).map (fun i => (i.zero, i.size, i.bytes)) = some (some (.int .i64 0), 1, 8) := by kernel_rfl

set_option maxRecDepth 100000 in
set_option maxHeartbeats 1000000 in
theorem digits_any (n : Nat) (w : World) (hn : n ≤ 9223372036854775807) :
    Calls Try.prog 167 #[.int .i64 n] w fun e w' => ∃ v, e = .returned v ∧ w'.ownsRow w.heap.size 3 1 v 4 (row (fun j => dg n j) 4) ∧ Below w.heap.size w w' := by
  obtain ⟨i0, hi, hz0, hz1, hz2⟩ := info_parts infoInt
  go_enter Try.func167, Try.ntmps167
  go_wp2
  go_loopw [0, 3, 4] (fun x v i wr => ∃ (k : Nat), k ≤ 4 ∧ i = .int .i64 k ∧ x = .int .i64 ((n / 65536 ^ k : Nat) : Int) ∧ wr.ownsRow w.heap.size 3 1 v k (row (fun j => dg n j) k) ∧ Below w.heap.size w wr) (fun _ _ i _ => 4 - (intOf i).toNat)
  case atStart => exact ⟨0, by omega, rfl, by simp, World.ownsRow_nil _ _ _ _, Below.refl _ _⟩
  case round =>
    obtain ⟨k, hk, rfl, rfl, hown, hbel⟩ := hrel
    obtain ⟨x, hx⟩ : ∃ x, n / 65536 ^ k = x := ⟨_, rfl⟩
    rw [hx]
    have hxb : x ≤ 9223372036854775807 := by rw [← hx]; exact Nat.le_trans (Nat.div_le_self _ _) hn
    have hx1 : x / 65536 = n / 65536 ^ (k + 1) := by rw [← hx, div_succ]
    have hx2 : dg n k = x % 65536 := by rw [← hx]; rfl
    have HX1 := Lib.hid hx1; have HX2 := Lib.hid hx2; clear hx hx1 hx2
    by_cases hlt : k < 4
    · go_wp2_with (at_builtin; go_loud (refine append1 wr rfl _ _ 55 rfl w.heap.size 3 (.int .i64 0) 8 Try.underlying55 infoInt rfl _ (.int .i64 ((x : Int) % 65536)) _ _ _ rfl (by exact hown) rfl rfl ?c1 ?c2 ?c3 ?_))
      case c1 => unfold maxLen; omega
      case c2 => omega
      case c3 => exact hbel.size
      intro v' w1 hown1 hsz hb1 _
      go_wp2
      go_roundw
      case rel => exact ⟨k + 1, by omega, by go_num, by rw [← HX1.out]; go_num, by rw [row_succ, HX2.out]; exact hown1, hbel.trans hb1⟩
      case measure => simp [intOf]; omega
    · obtain rfl : k = 4 := by omega
      go_wp2
      go_ret
      exact ⟨_, rfl, hown, hbel⟩

set_option maxRecDepth 100000 in
set_option maxHeartbeats 1000000 in
theorem bit_any (g n cap : Nat) (o : Nat → Nat) (k : Nat) (t : Int) (w : World) (ht : Hid (((o (k / 16) / 2 ^ (k % 16) % 2 : Nat) : Int) = t)) (hk : k < 16 * n) (hn : n ≤ 1000) (ho : Hid (∀ j, j < n → w.cell? ⟨g, j, none⟩ = some (.int .i64 (o j)))) (hb : Hid (∀ j, j < n → o j < 65536)) :
    Calls Try.prog 149 #[.slice (some ⟨g, 0, none⟩) n cap, .int .i64 k] w fun e w' => e = .returned (.int .i64 t) ∧ w = w' := by
  have hck := ho.out (k / 16) (by omega)
  have hbk := hb.out (k / 16) (by omega)
  obtain ⟨d, hd⟩ : ∃ d, o (k / 16) = d := ⟨_, rfl⟩
  rw [hd] at hck hbk
  have ht' := Lib.hid (show ((d / 2 ^ (k % 16) % 2 : Nat) : Int) = t by rw [← hd]; exact ht.out)
  clear hd ht
  have hd16 : k / 16 < n := by omega
  go_enter Try.func149, Try.ntmps149
  go_wp2
  go_loop [5, 6] (fun x i => ∃ r : Nat, r ≤ k % 16 ∧ i = .int .i64 r ∧ x = .int .i64 ((d / 2 ^ r : Nat) : Int)) (fun _ i => 16 - (intOf i).toNat)
  case atStart => exact ⟨0, by omega, rfl, by simp⟩
  case round =>
    obtain ⟨r, hr, rfl, rfl⟩ := hrel
    obtain ⟨x, hx⟩ : ∃ x, d / 2 ^ r = x := ⟨_, rfl⟩
    rw [hx]
    have hxb : x ≤ 65536 := by rw [← hx]; exact Nat.le_trans (Nat.div_le_self _ _) (by omega)
    have hx1 : x / 2 = d / 2 ^ (r + 1) := by rw [← hx, Nat.div_div_eq_div_mul, Nat.pow_succ]
    have HX1 := Lib.hid hx1; have HX := Lib.hid hx; clear hx hx1 hck
    by_cases hlt : r < k % 16
    · go_wp2
      go_round
      case rel => exact ⟨r + 1, by omega, by go_num, by rw [← HX1.out]; go_num⟩
      case measure => simp [intOf]; omega
    · obtain rfl : r = k % 16 := by omega
      go_wp2
      go_ret
      exact ⟨ret_int (by have h1 := ht'.out; rw [HX.out] at h1; omega), rfl⟩
end Go.Proofs.Ytgkahcchekiogaa.RefA

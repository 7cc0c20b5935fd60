/- Package valid: Channel. -/
import Derived.Test.YtgkahcchekiogaaVcf
import Derived.Laws.StructEq
namespace Go.Proofs.Ytgkahcchekiogaa.Vch
open Go.RowKit Base Kit Conf Conf2 PowA PowB Vfa Vfb Val Vld Vpa Vpr Short Vcf
set_option linter.unusedVariables false
set_option linter.unusedSimpArgs false
theorem end_eq (a b x y : Int) (w : World) : (binOp .eql 151 (.agg #[.int .i64 a, .int .i64 b]) (.agg #[.int .i64 x, .int .i64 y])).run Try.prog w = .ok (.bool (a == x && b == y)) w := by
  have h1 : Try.prog.underlying 151 = some (.struct (Try.prog.fieldsOf 151)) := by kernel_rfl
  have h2 : Try.prog.stoodInHeld 151 = false := by kernel_rfl
  rw [run_eql_struct, run_equalIn_struct w 9999 _ _ _ h1 h2]
  unfold Program.fieldsOf
  rw [Try.underlying151]
  simp [go_sem, run_equalIn_int (P := Try.prog) _ 9998 3 .i64 .i64 _ _ Try.underlying3]
  all_goals (by_cases h : a = x <;> by_cases h' : b = y <;> simp_all)

/-- may two channels stand side by side? -/
def cl (aq : Bool) (y0 y1 y2 y3 x0 x1 x2 x3 : Int) : Bool := (y2 == x2 && y3 == x3) || (aq && (y0 == x0 && y1 == x1))
def clB (f : Nat → Nat → Int) (aq : Bool) (k j : Nat) : Bool := !cl aq (f j 0) (f j 1) (f j 2) (f j 3) (f k 0) (f k 1) (f k 2) (f k 3)
set_option maxHeartbeats 1000000 in
theorem clash_any (aq ai : Bool) (az ad y0 y1 y2 y3 x0 x1 x2 x3 : Int) (bx ba : Nat) (r : Bool) (w : World) (hx : Hid (Box w bx #[.int .i64 x0, .int .i64 x1, .int .i64 x2, .int .i64 x3] 153)) (ha : Hid (Box w ba #[.bool aq, .bool ai, .int .i64 az, .int .i64 ad] 140)) (hr : Hid (cl aq y0 y1 y2 y3 x0 x1 x2 x3 = r)) :
    Calls Try.prog 96 #[.agg #[.int .i64 y0, .int .i64 y1, .int .i64 y2, .int .i64 y3], .pointer (some ⟨bx, 0, none⟩), .pointer (some ⟨ba, 0, none⟩)] w fun e w' => e = .returned (.bool r) ∧ Below w.heap.size w w' := by
  have xc := (hx.out.alloc (.cells #[.int .i64 y0, .int .i64 y1, .int .i64 y2, .int .i64 y3] 153)).cell
  have ac := (ha.out.alloc (.cells #[.int .i64 y0, .int .i64 y1, .int .i64 y2, .int .i64 y3] 153)).cell
  have hr := hr.out
  have f1 := fun w => end_eq y2 y3 x2 x3 w
  have f2 := fun w => end_eq y0 y1 x0 x1 w
  unfold cl at hr
  generalize (y2 == x2 && y3 == x3) = e1 at *
  generalize (y0 == x0 && y1 == x1) = e2 at *
  cases e1
  · cases aq
    · obtain rfl : r = false := by simpa using hr.symm
      go_enter Try.func96, Try.ntmps96
      go_wp2_with fail
      go_ret
      exact ⟨rfl, (Below.refl _ _).alloc (Nat.le_refl _) _⟩
    · obtain rfl : r = e2 := by simpa using hr.symm
      go_enter Try.func96, Try.ntmps96
      go_wp2_with fail
      go_ret
      exact ⟨rfl, (Below.refl _ _).alloc (Nat.le_refl _) _⟩
  · obtain rfl : r = true := by simpa using hr.symm
    go_enter Try.func96, Try.ntmps96
    go_wp2_with fail
    go_ret
    exact ⟨rfl, (Below.refl _ _).alloc (Nat.le_refl _) _⟩
set_option maxHeartbeats 2000000 in
theorem index_chan (a : Option Addr) (n c : Nat) (f : Nat → Nat → Int) (P : Nat → Bool) (h : FuncId) (caps : Array Value) (r : Int) (w : World) (hrow : Hid (Open.RowsIn w a n 4 f)) (hen : ∀ args w, (callFunc h args).run Try.prog w = .ok (.enter h args) w)
    (hcl : Hid (∀ k wr, k < n → Below w.heap.size w wr → Calls Try.prog h (#[.agg #[.int .i64 (f k 0), .int .i64 (f k 1), .int .i64 (f k 2), .int .i64 (f k 3)]] ++ caps) wr fun e w' => e = .returned (.bool (!P k)) ∧ Below wr.heap.size wr w')) (hr : Hid (frI P n = r)) :
    Calls Try.prog 146 #[.slice a n c, .func (.func h) #[] caps] w fun e w' => e = .returned (.int .i64 r) ∧ Below w.heap.size w w' := by
  have hn := hrow.out.1
  go_enter Try.func146, Try.ntmps146
  go_wp2_with fail
  go_loopw [8] (fun i wr => ∃ k : Nat, k ≤ n ∧ i = .int .i64 k ∧ Hid (∀ j, j < k → P j = true) ∧ Hid (Below w.heap.size w wr)) (fun i _ => n - (intOf i).toNat)
  case atStart => exact ⟨0, by omega, rfl, Lib.hid (fun j hj => by omega), Lib.hid (Below.refl _ _)⟩
  case round =>
    obtain ⟨k, hk, rfl, HL, HB⟩ := hrel
    by_cases hlt : k < n
    · obtain ⟨b, off, rfl, hbl, c0, c1, c2, c3, _, _, _, _⟩ := rows_at4 hrow k hlt
      replace c0 := keep HB.out c0 hbl
      replace c1 := keep HB.out c1 hbl
      replace c2 := keep HB.out c2 hbl
      replace c3 := keep HB.out c3 hbl
      obtain ⟨v, hv⟩ : ∃ v, P k = v := ⟨_, rfl⟩
      have HV := Lib.hid hv
      have C := hcl.out k _ hlt HB.out
      rw [hv] at C
      replace C := Lib.hid C
      clear hv
      generalize f k 0 = y0 at *
      generalize f k 1 = y1 at *
      generalize f k 2 = y2 at *
      generalize f k 3 = y3 at *
      cases v
      · go_wp2_with fail
        refine C.out.mono ?_
        rintro e1 w5 ⟨rfl, k5⟩
        have HB5 := Lib.hid (below_next HB.out k5)
        clear k5
        go_wp2_with fail
        go_ret
        refine ⟨Kit.ret_int ?_, HB5.out⟩
        have e := hr.out
        unfold frI at e
        rw [fb_hit HL.out HV.out n hlt, if_pos hlt] at e
        exact e
      · go_wp2_with fail
        refine C.out.mono ?_
        rintro e1 w5 ⟨rfl, k5⟩
        have HB5 := Lib.hid (below_next HB.out k5)
        clear k5
        go_wp2_with fail
        go_roundw
        case rel => exact ⟨k + 1, by omega, by go_num, Lib.hid (fun j hj => by
          by_cases e : j = k
          · subst e; exact HV.out
          · exact HL.out j (by omega)), HB5⟩
        case measure => simp [intOf]; omega
    · obtain rfl : k = n := by omega
      go_wp2_with fail
      go_ret
      refine ⟨Kit.ret_int ?_, HB.out⟩
      have e := hr.out
      unfold frI at e
      rw [fb_all k HL.out, if_neg (by omega)] at e
      exact e
theorem contains_chan (a : Option Addr) (n c : Nat) (f : Nat → Nat → Int) (P : Nat → Bool) (h : FuncId) (caps : Array Value) (r : Bool) (w : World) (hrow : Hid (Open.RowsIn w a n 4 f)) (hen : ∀ args w, (callFunc h args).run Try.prog w = .ok (.enter h args) w)
    (hcl : Hid (∀ k wr, k < n → Below w.heap.size w wr → Calls Try.prog h (#[.agg #[.int .i64 (f k 0), .int .i64 (f k 1), .int .i64 (f k 2), .int .i64 (f k 3)]] ++ caps) wr fun e w' => e = .returned (.bool (!P k)) ∧ Below wr.heap.size wr w')) (hr : Hid (decide (fb P n = n) = r)) :
    Calls Try.prog 95 #[.slice a n c, .func (.func h) #[] caps] w fun e w' => e = .returned (.bool (!r)) ∧ Below w.heap.size w w' := by
  have hr := hr.out
  obtain ⟨z, hz⟩ : ∃ z, frI P n = z := ⟨_, rfl⟩
  have C := Lib.hid (index_chan a n c f P h caps z w hrow hen hcl (Lib.hid hz))
  have zr := fr_neg hz hr
  clear hz hr hrow hen hcl
  rcases zr with ⟨hz, rfl⟩ | ⟨hz, rfl⟩
  all_goals
    go_enter Try.func95, Try.ntmps95
    go_wp2_with fail
    refine C.out.mono ?_
    rintro e1 w5 ⟨rfl, k5⟩
    have HB := Lib.hid k5
    clear k5
    go_wp2_with fail
    go_ret
    refine ⟨ret_bool ?_, HB.out⟩
    first | rfl | (simp; done) | (simp; omega)
end Go.Proofs.Ytgkahcchekiogaa.Vch

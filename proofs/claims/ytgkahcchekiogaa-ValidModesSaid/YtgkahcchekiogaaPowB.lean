/- Whether a platform may be: all naps; the program's check. -/
import Derived.Test.YtgkahcchekiogaaPow
namespace Go.Proofs.Ytgkahcchekiogaa.PowB
open Go.RowKit Base Kit Conf PowA
set_option linter.unusedVariables false
set_option linter.unusedSimpArgs false

theorem nap1_any (a b c : Int) (x : Value) (r : Bool) (B : Nat) (w : World) (hx : ∃ x0 x1 x2 : Int, x = .agg #[.int .i64 x0, .int .i64 x1, .int .i64 x2]) (hB : w.cell? ⟨B, 0, none⟩ = some (.func (.func 93) #[] #[])) (hb : Hid (npB a b c = r)) :
    Calls Try.prog 145 #[.agg #[.int .i64 a, .int .i64 b, .int .i64 c], x, .pointer (some ⟨B, 0, none⟩)] w fun e w' => e = .returned (.bool r) ∧ Below w.heap.size w w' := by
  obtain ⟨x0, x1, x2, rfl⟩ := hx
  have hlt := lt_of_cell hB
  go_enter Try.func145, Try.ntmps145
  go_wp2_with fail
  refine (nap_any a b c r _ hb).mono ?_
  rintro e1 w5 ⟨rfl, k5⟩
  have HB5 := Lib.hid ((((Below.refl w.heap.size w).alloc (Nat.le_refl _) (.cells #[.int .i64 a, .int .i64 b, .int .i64 c] 131)).alloc (by simp) (.cells #[.int .i64 x0, .int .i64 x1, .int .i64 x2] 131)).trans (k5.mono (by simp; omega)))
  clear k5
  go_wp2_with fail
  go_ret
  exact ⟨rfl, HB5.out⟩
set_option maxRecDepth 100000 in
set_option maxHeartbeats 1000000 in
theorem first_nap (a : Option Addr) (n c : Nat) (f : Nat → Nat → Int) (r : Int) (B : Nat) (w : World) (h : Hid (Open.RowsIn w a n 3 f)) (hn : n ≤ 1000) (hB : w.cell? ⟨B, 0, none⟩ = some (.func (.func 93) #[] #[])) (hr : Hid (frI (nap f) n = r)) :
    Calls Try.prog 144 #[.slice a n c, .func (.func 145) #[] #[.pointer (some ⟨B, 0, none⟩)]] w fun e w' => e = .returned (.int .i64 r) ∧ Below w.heap.size w w' := by
  have hBl := lt_of_cell hB
  have HBC := Lib.hid (fun w1 (hb : Below w.heap.size w w1) => keep hb hB hBl)
  clear hB
  go_enter Try.func144, Try.ntmps144
  go_wp2_with fail
  have B0 := Lib.hid (Box.new w #[.int .i64 0, .int .i64 0, .int .i64 0] 131)
  have HB0 : Hid (Below w.heap.size w (w.alloc (.cells #[.int .i64 0, .int .i64 0, .int .i64 0] 131))) := Lib.hid ((Below.refl w.heap.size w).alloc (Nat.le_refl _) _)
  generalize w.alloc (.cells #[.int .i64 0, .int .i64 0, .int .i64 0] 131) = W at B0 HB0 ⊢
  go_loopw [10] (fun i wr => ∃ k : Nat, k ≤ n ∧ i = .int .i64 k ∧ Hid (∀ j, j < k → nap f j = true) ∧ Hid (Below w.heap.size w wr) ∧ ∃ a0 a1 a2 : Int, Hid (Box wr w.heap.size #[.int .i64 a0, .int .i64 a1, .int .i64 a2] 131)) (fun i _ => n - (intOf i).toNat)
  case atStart => exact ⟨0, by omega, rfl, Lib.hid (fun j hj => by omega), HB0, _, _, _, B0⟩
  case round =>
    clear B0 HB0
    obtain ⟨k, hk, rfl, HL, HB, a0, a1, a2, B1⟩ := hrel
    by_cases hlt : k < n
    · obtain ⟨b, off, rfl, hbl, c0, c1, c2, i0, i1, i2⟩ := rows_at3 h k hlt
      have c0 := keep HB.out c0 hbl
      have c1 := keep HB.out c1 hbl
      have c2 := keep HB.out c2 hbl
      obtain ⟨v, hv⟩ : ∃ v, nap f k = v := ⟨_, rfl⟩
      have HV := Lib.hid hv
      have hcl := HBC.out _ (HB.out.alloc HB.out.size (.cells #[.int .i64 (f k 0), .int .i64 (f k 1), .int .i64 (f k 2)] 131))
      have C := Lib.hid (nap1_any (f k 0) (f k 1) (f k 2) (.agg #[.int .i64 a0, .int .i64 a1, .int .i64 a2]) v B _ ⟨a0, a1, a2, rfl⟩ hcl (Lib.hid hv))
      have bl := B1.out.lt
      have bc := (B1.out.alloc (.cells #[.int .i64 (f k 0), .int .i64 (f k 1), .int .i64 (f k 2)] 131)).cell
      clear hv hcl
      generalize f k 0 = x0 at *
      generalize f k 1 = x1 at *
      generalize f k 2 = x2 at *
      have X := Lib.hid (Box.new wr #[.int .i64 x0, .int .i64 x1, .int .i64 x2] 131)
      cases v
      · go_wp2_with fail
        refine C.out.mono ?_
        rintro e1 w5 ⟨rfl, k5⟩
        have HB5 := Lib.hid (HB.out.trans (((Below.refl w.heap.size wr).alloc (by omega) _).trans (k5.mono (by simp; omega))))
        clear k5 bc
        go_wp2_with fail
        go_ret
        refine ⟨Kit.ret_int ?_, HB5.out⟩
        have e := hr.out
        unfold frI at e
        rw [fb_hit HL.out HV.out n hlt, if_pos hlt] at e
        exact e
      · go_wp2_with fail
        refine C.out.mono ?_
        rintro e1 w5 ⟨rfl, k5⟩
        have HB5 := Lib.hid (HB.out.trans (((Below.refl w.heap.size wr).alloc (by omega) _).trans (k5.mono (by simp; omega))))
        have X5 := Lib.hid (X.out.next k5)
        have B5 := Lib.hid ((B1.out.alloc (.cells #[.int .i64 x0, .int .i64 x1, .int .i64 x2] 131)).next k5)
        have xc := X5.out.cell
        have bc5 := B5.out.cell
        have bf5 := B5.out.frozen
        clear k5 bc
        go_wp2_with fail
        go_roundw
        case rel => exact ⟨k + 1, by omega, by go_num, Lib.hid (fun j hj => by
          by_cases e : j = k
          · subst e; exact HV.out
          · exact HL.out j (by omega)), Lib.hid (((HB5.out.setCell (by simp) _).setCell (by simp) _).setCell (by simp) _), x0, x1, x2, Lib.hid (((B5.out.set 0 _).set 1 _).set 2 _)⟩
        case measure => simp [intOf]; omega
    · obtain rfl : k = n := by omega
      go_wp2_with fail
      go_ret
      refine ⟨Kit.ret_int ?_, HB.out⟩
      have e := hr.out
      unfold frI at e
      rw [fb_all k HL.out, if_neg (by omega)] at e
      exact e
set_option maxRecDepth 100000 in
theorem all_nap (a : Option Addr) (n c : Nat) (f : Nat → Nat → Int) (r : Bool) (w : World) (h : Hid (Open.RowsIn w a n 3 f)) (hr : Hid (allN f n = r)) :
    Calls Try.prog 92 #[.slice a n c, .int .i64 4, .func (.func 93) #[] #[]] w fun e w' => e = .returned (.bool r) ∧ Below w.heap.size w w' := by
  have hm := h.out.1
  have hr := hr.out
  unfold allN at hr
  by_cases hn : n ≤ 4
  · have hn' : ((n : Nat) : Int) ≤ 4 := by omega
    rw [show decide (n ≤ 4) = true from by simpa using hn, Bool.true_and] at hr
    obtain ⟨z, hz⟩ : ∃ z, frI (nap f) n = z := ⟨_, rfl⟩
    have bn : (Box.new w #[.func (.func 93) #[] #[]] 149).cell 0 = (Box.new w #[.func (.func 93) #[] #[]] 149).cell 0 := rfl
    have bc : (w.alloc (.cells #[.func (.func 93) #[] #[]] 149)).cell? ⟨w.heap.size, 0, none⟩ = some (.func (.func 93) #[] #[]) := (Box.new w #[.func (.func 93) #[] #[]] 149).cell 0
    have C := Lib.hid (first_nap a n c f z w.heap.size _ (rows_alloc h _) (by omega) bc (Lib.hid hz))
    have zr : (z < 0 ∧ r = true) ∨ (0 ≤ z ∧ r = false) := by
      rw [← hz, ← hr]
      have := fb_le (nap f) n
      unfold frI
      by_cases e : fb (nap f) n < n
      · right; rw [if_pos e]; exact ⟨by omega, by simp; omega⟩
      · left; rw [if_neg e]; exact ⟨by omega, by simp; omega⟩
    clear hz hr bc bn
    rcases zr with ⟨hz, rfl⟩ | ⟨hz, rfl⟩
    all_goals
      go_enter Try.func92, Try.ntmps92
      go_wp2_with fail
      refine C.out.mono ?_
      rintro e1 w5 ⟨rfl, k5⟩
      have HB := Lib.hid (below_in _ k5)
      clear k5
      go_wp2_with fail
      go_ret
      refine ⟨ret_bool ?_, HB.out⟩
      first | rfl | (simp; done) | (simp; omega)
  · have hn' : 4 < ((n : Nat) : Int) := by omega
    rw [show decide (n ≤ 4) = false from by simpa using hn, Bool.false_and] at hr
    subst hr
    clear hn
    go_enter Try.func92, Try.ntmps92
    go_wp2_with fail
    first
      | go_ret
      | (refine ⟨fun _ h => (by cases h), ?_⟩; go_wp2; go_ret)
    refine ⟨ret_bool ?_, (Below.refl _ _).alloc (Nat.le_refl _) _⟩
    first | rfl | (simp; done) | (simp; omega)
end Go.Proofs.Ytgkahcchekiogaa.PowB

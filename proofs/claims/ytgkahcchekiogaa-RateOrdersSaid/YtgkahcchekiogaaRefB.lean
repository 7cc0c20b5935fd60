/- The reference's product, and its long division. -/
import Derived.Test.YtgkahcchekiogaaRefA
import Derived.OneCell
namespace Go.Proofs.Ytgkahcchekiogaa.RefB
open Go.RowKit Base RefA Long
set_option linter.unusedVariables false
set_option linter.unusedSimpArgs false

theorem row_put (o : Nat → Nat) (i v : Nat) (n : Nat) : (row (fun j => (o j : Int)) n).set i (.int .i64 (v : Int)) = row (fun j => ((put o i v j : Nat) : Int)) n := by
  rw [row_set]; congr 1; funext j; unfold put; split <;> rfl

theorem zero_row : ([.int .i64 0, .int .i64 0, .int .i64 0, .int .i64 0, .int .i64 0, .int .i64 0, .int .i64 0, .int .i64 0, .int .i64 0] : List Value) = row (fun j => (((fun _ => 0 : Nat → Nat) j : Nat) : Int)) 9 := rfl

theorem run_make9 (w : World) : (Instr.makeSlice 55 (.int .i64 9) (.int .i64 9)).run Try.prog w = .ok (.slice (some ⟨w.heap.size, 0, none⟩) 9 9)
    (w.alloc (.cells #[.int .i64 0, .int .i64 0, .int .i64 0, .int .i64 0, .int .i64 0, .int .i64 0, .int .i64 0, .int .i64 0, .int .i64 0] 3)) := by kernel_rfl

/-- what holds of the memory of a product under way -/
structure Mem (a b : Nat) (w : World) (gx gy G : Nat) (o : Nat → Nat) (wr : World) : Prop where
  bel : Below w.heap.size w wr
  x : ∀ j, j < 4 → wr.cell? ⟨gx, j, none⟩ = some (.int .i64 (dg a j))
  y : ∀ j, j < 4 → wr.cell? ⟨gy, j, none⟩ = some (.int .i64 (dg b j))
  out : wr.ownsRow w.heap.size 3 1 (.slice (some ⟨G, 0, none⟩) 9 9) 9 (row (fun j => (o j : Int)) 9)

theorem Mem.drewN {a b : Nat} {w : World} {gx gy G : Nat} {o : Nat → Nat} {wr : World} (h : Mem a b w gx gy G o wr) (n : Nat) : Mem a b w gx gy G o (wr.drewN n) :=
  ⟨below_drewN h.bel n, h.x, h.y, h.out⟩
theorem Mem.at {a b : Nat} {w : World} {gx gy G : Nat} {o : Nat → Nat} {wr : World} (h : Mem a b w gx gy G o wr) (j : Nat) (hj : j < 9) : wr.cell? ⟨G, j, none⟩ = some (.int .i64 (o j)) := by
  rw [h.out.cellAt j (by omega), row_get _ _ _ hj]
theorem Mem.fr {a b : Nat} {w : World} {gx gy G : Nat} {o : Nat → Nat} {wr : World} (h : Mem a b w gx gy G o wr) (j : Nat) : wr.frozen? ⟨G, j, none⟩ = false := h.out.frozenAt j
theorem Mem.set {a b : Nat} {w : World} {gx gy G : Nat} {o : Nat → Nat} {wr : World} (h : Mem a b w gx gy G o wr) (hx : gx ≠ G) (hy : gy ≠ G) (i v : Nat) (hi : i < 9) (u : Int) (hu : u = (v : Int)) :
    Mem a b w gx gy G (put o i v) (wr.setCell ⟨G, i, none⟩ (.int .i64 u)) := by
  subst hu
  refine ⟨h.bel.setCell (h.out.lt G rfl).1 _, fun j hj => set_keep (h.x j hj) hx, fun j hj => set_keep (h.y j hj) hy, ?_⟩
  have h1 := (h.out.stored i (.int .i64 (v : Int))).1
  rw [row_put] at h1; exact h1

set_option maxRecDepth 100000 in
set_option maxHeartbeats 4000000 in
theorem product_any (a b : Nat) (w : World) (ha : a ≤ 9223372036854775807) (hb : b ≤ 9223372036854775807) :
    Calls Try.prog 148 #[.int .i64 a, .int .i64 b] w fun e w' => ∃ g, e = .returned (.slice (some ⟨g, 0, none⟩) 9 9) ∧ w'.ownsRow w.heap.size 3 1 (.slice (some ⟨g, 0, none⟩) 9 9) 9 (row (fun j => (dg (a * b) j : Int)) 9) ∧ Below w.heap.size w w' := by
  go_enter Try.func148, Try.ntmps148
  go_wp2_with fail
  refine (digits_any a _ ha).mono ?_
  rintro e w1 ⟨vx, rfl, hox, hb1⟩
  obtain ⟨gx, cx, rfl, hx1, hx2⟩ := ownsRow_open hox (by omega)
  go_wp2_with fail
  refine (digits_any b _ hb).mono ?_
  rintro e w2 ⟨vy, rfl, hoy, hb2⟩
  obtain ⟨gy, cy, rfl, hy1, hy2⟩ := ownsRow_open hoy (by omega)
  have hox2 := ownsRow_keep hox hb2
  have hbw : Below w.heap.size w w2 := hb1.trans (hb2.mono hb1.size)
  have hs1 := hb1.size
  have hs2 := hb2.size
  clear hb1 hb2
  have hmk := run_make9
  go_wp2_with fail
  have M0 : Mem a b w gx gy w2.heap.size (fun _ => 0) (w2.alloc (.cells #[.int .i64 0, .int .i64 0, .int .i64 0, .int .i64 0, .int .i64 0, .int .i64 0, .int .i64 0, .int .i64 0, .int .i64 0] 3)) :=
    ⟨hbw.alloc (by omega) _, fun j hj => alloc_keep (by rw [hox2.cellAt j (by omega), row_get _ _ _ hj]), fun j hj => alloc_keep (by rw [hoy.cellAt j (by omega), row_get _ _ _ hj]),
      by have h1 := World.ownsRow_lit (base := w.heap.size) (e := 3) (size := 1) w2 #[.int .i64 0, .int .i64 0, .int .i64 0, .int .i64 0, .int .i64 0, .int .i64 0, .int .i64 0, .int .i64 0, .int .i64 0] 9 (by omega) (by unfold maxLen; omega) rfl
         exact h1⟩
  have hxG : gx ≠ w2.heap.size := by omega
  have hyG : gy ≠ w2.heap.size := by omega
  obtain ⟨wm, hwm⟩ : ∃ wm, w2.alloc (.cells #[.int .i64 0, .int .i64 0, .int .i64 0, .int .i64 0, .int .i64 0, .int .i64 0, .int .i64 0, .int .i64 0, .int .i64 0] 3) = wm := ⟨_, rfl⟩
  rw [hwm] at M0
  simp only [hwm]
  clear hwm hox hox2 hoy hbw hmk
  generalize w2.heap.size = G at *
  clear hx1 hx2 hy1 hy2 hs1 hs2
  go_loopw [8] (fun i wr => ∃ (ii : Nat) (o : Nat → Nat), ii ≤ 4 ∧ i = .int .i64 ii ∧ Mem a b w gx gy G o wr ∧ Hid (∀ j, j < 9 → o j < 65536) ∧ Hid (val 9 o = (a % 65536 ^ ii) * b)) (fun i _ => 4 - (intOf i).toNat)
  case atStart => exact ⟨0, fun _ => 0, by omega, rfl, M0, (fun j _ => show (0 : Nat) < 65536 by omega), by simp [Hid, val_zero, Nat.mod_one]⟩
  case round =>
    obtain ⟨i, o, hi, rfl, M, hd, hv⟩ := hrel
    clear M0
    by_cases hlt : i < 4
    · obtain ⟨wo, rfl⟩ : ∃ wo : World, wo = wr := ⟨_, rfl⟩
      have hI := Lib.hid (In.start hd.out hv.out)
      clear hd hv
      go_wp2
      go_loopw [9, 10] (fun c k wr => ∃ (kk cc : Nat) (o : Nat → Nat), kk ≤ 5 ∧ k = .int .i64 kk ∧ c = .int .i64 cc ∧ Mem a b w gx gy G o wr ∧ Hid (In a b i kk o cc)) (fun _ k _ => 5 - (intOf k).toNat)
      case atStart => exact ⟨0, 0, o, by omega, rfl, rfl, M, hI⟩
      case round =>
        clear M hI
        obtain ⟨k, c, o, hk, rfl, rfl, M, hI⟩ := hrel
        by_cases hlk : k < 5
        · have hle := hI.out.le (by omega)
          have hN := Lib.hid (hI.out.next (by omega))
          have hcx := M.x i (by omega)
          have hco := M.at (i + k) (by omega)
          have hfo := M.fr (i + k)
          have hMs := fun n u hu => Lib.hid ((M.drewN n).set hxG hyG (i + k) ((o (i + k) + dg a i * dg b k + c) % 65536) (by omega) u hu)
          by_cases hk4 : k < 4
          · have hcy := M.y k hk4
            generalize o (i + k) = oo at *
            generalize dg a i = xx at *
            generalize dg b k = yy at *
            obtain ⟨p, hP⟩ : ∃ p : Nat, xx * yy = p := ⟨_, rfl⟩
            rw [hP] at hMs hN hle
            have hP' : (xx : Int) * (yy : Int) = (p : Int) := by rw [← hP]; simp
            have W1 : IntKind.i64.wrap ((xx : Int) * yy) = p := by rw [hP']; exact IntWalk.i64_in _ (by omega)
            clear hP hP'
            have bp : p ≤ 4294967296 := by omega
            have bo : oo + p + c < 4294967296 := by omega
            go_wp2
            go_quiet (fail)
            clear W1
            go_wp2
            go_roundw
            case rel => exact ⟨k + 1, (oo + p + c) / 65536, _, by omega, by go_num, by go_num, (hMs _ _ (by go_num)).out, hN⟩
            case measure => simp [intOf]; omega
          · have hk4' : k = 4 := by omega
            have hy0 : dg b k = 0 := by subst hk4'; unfold dg; rw [Nat.div_eq_of_lt (by omega)]
            rw [hy0] at hMs hN hle
            simp only [Nat.mul_zero, Nat.add_zero] at hMs hN hle
            clear hk4' hy0
            generalize o (i + k) = oo at *
            generalize dg a i = xx at *
            go_wp2
            go_quiet (fail)
            go_wp2
            go_roundw
            case rel => exact ⟨k + 1, (oo + c) / 65536, _, by omega, by go_num, by go_num, (hMs _ _ (by go_num)).out, hN⟩
            case measure => simp [intOf]; omega
        · obtain rfl : k = 5 := by omega
          have hv := Lib.hid (hI.out.done (by omega))
          have hd := hI.out.dig
          have hd := Lib.hid hd
          go_wp2
          go_roundw
          case rel => exact ⟨i + 1, o, by omega, by go_num, M, hd, hv⟩
          case measure => simp [intOf]; omega
    · obtain rfl : i = 4 := by omega
      have hr : ∀ j, j < 9 → o j = dg (a * b) j := row_done hv.out (by omega) hd.out
      have hrow : row (fun j => (o j : Int)) 9 = row (fun j => (dg (a * b) j : Int)) 9 := by
        unfold row; refine List.map_congr_left fun j hj => ?_
        have := hr j (by simpa using hj)
        simp only [this]
      have hout := M.out
      rw [hrow] at hout
      have hO := Lib.hid hout
      clear hout hrow hr hv hd
      go_wp2
      go_ret
      exact ⟨_, rfl, hO, M.bel⟩
end Go.Proofs.Ytgkahcchekiogaa.RefB

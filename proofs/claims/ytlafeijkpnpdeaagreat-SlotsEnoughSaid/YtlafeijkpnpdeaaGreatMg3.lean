import Derived.Test.YtlafeijkpnpdeaaGreatProg
import Derived.BigQuiet
import Derived.Deep.QuietTactic
import Derived.OneCell
import Derived.Test.YtlafeijkpnpdeaaGreatMg2
import Derived.Test.YtlafeijkpnpdeaaGreatMg1

/- The reference's great numbers: digits to the base 65536. -/
namespace Go.Proofs.YtlafeijkpnpdeaaGreat.RefA
open Go.RowKit Base Long
set_option linter.unusedVariables false
set_option linter.unusedSimpArgs false

theorem ret_int {k : IntKind} {a b : Int} (h : a = b) : Ending.returned (.int k a) = .returned (.int k b) := by rw [h]
def row (f : Nat → Int) (n : Nat) : List Value := (List.range n).map fun j => .int .i64 (f j)
theorem row_succ (f : Nat → Int) (n : Nat) : row f (n + 1) = row f n ++ [.int .i64 (f n)] := by simp [row, List.range_succ]
theorem row_get (f : Nat → Int) (n j : Nat) (h : j < n) : (row f n)[j]? = some (.int .i64 (f j)) := by simp [row, h]
theorem row_len (f : Nat → Int) (n : Nat) : (row f n).length = n := by simp [row]
theorem row_set (f : Nat → Int) (n i : Nat) (v : Int) : (row f n).set i (.int .i64 v) = row (fun j => if j = i then v else f j) n := by
  apply List.ext_getElem?
  intro j
  rw [List.getElem?_set]
  by_cases h : i = j
  · subst h
    by_cases hn : i < n
    · simp [row, hn]
    · simp [row, hn]
  · simp only [row, List.getElem?_map, h, if_false, if_neg (Ne.symm h)]
    by_cases hn : j < n
    · rw [List.getElem?_range hn]; simp [Ne.symm h]
    · rw [List.getElem?_eq_none (by simpa using hn)]; rfl

theorem infoInt : (Tryz.prog.info? 3).map (fun i => (i.zero, i.size, i.bytes)) = some (some (.int .i64 0), 1, 8) := by kernel_rfl

set_option maxRecDepth 100000 in
set_option maxHeartbeats 1000000 in
theorem digits_any (n : Nat) (w : World) (hn : n ≤ 9223372036854775807) :
    Calls Tryz.prog 91 #[.int .i64 n] w fun e w' => ∃ v, e = .returned v ∧ w'.ownsRow w.heap.size 3 1 v 4 (row (fun j => dg n j) 4) ∧ Below w.heap.size w w' := by
  obtain ⟨i0, hi, hz0, hz1, hz2⟩ := info_parts infoInt
  go_enter Tryz.func91, Tryz.ntmps91
  go_wp2
  go_loopw [0, 3, 4] (fun x v i wr => ∃ (k : Nat), k ≤ 4 ∧ i = .int .i64 k ∧ x = .int .i64 ((n / 65536 ^ k : Nat) : Int) ∧ wr.ownsRow w.heap.size 3 1 v k (row (fun j => dg n j) k) ∧ Below w.heap.size w wr) (fun _ _ i _ => 4 - (intOf i).toNat)
  case atStart => exact ⟨0, by omega, rfl, by simp, World.ownsRow_nil _ _ _ _, Below.refl _ _⟩
  case round =>
    obtain ⟨k, hk, rfl, rfl, hown, hbel⟩ := hrel
    obtain ⟨x, hx⟩ : ∃ x, n / 65536 ^ k = x := ⟨_, rfl⟩
    rw [hx]
    have hxb : x ≤ 9223372036854775807 := by rw [← hx]; exact Nat.le_trans (Nat.div_le_self _ _) hn
    have hx1 : x / 65536 = n / 65536 ^ (k + 1) := by rw [← hx, div_succ]
    have hx2 : dg n k = x % 65536 := by rw [← hx]; rfl
    have HX1 := Lib.hid hx1; have HX2 := Lib.hid hx2; clear hx hx1 hx2
    by_cases hlt : k < 4
    · go_wp2_with (at_builtin; go_loud (refine append1 wr rfl _ _ 29 rfl w.heap.size 3 (.int .i64 0) 8 Tryz.underlying29 infoInt rfl _ (.int .i64 ((x : Int) % 65536)) _ _ _ rfl (by exact hown) rfl rfl ?c1 ?c2 ?c3 ?_))
      case c1 => unfold maxLen; omega
      case c2 => omega
      case c3 => exact hbel.size
      intro v' w1 hown1 hsz hb1 _
      go_wp2
      go_roundw
      case rel => exact ⟨k + 1, by omega, by go_num, by rw [← HX1.out]; go_num, by rw [row_succ, HX2.out]; exact hown1, hbel.trans hb1⟩
      case measure => simp [intOf]; omega
    · obtain rfl : k = 4 := by omega
      go_wp2
      go_ret
      exact ⟨_, rfl, hown, hbel⟩

set_option maxRecDepth 100000 in
set_option maxHeartbeats 1000000 in
theorem bit_any (g n cap : Nat) (o : Nat → Nat) (k : Nat) (t : Int) (w : World) (ht : Hid (((o (k / 16) / 2 ^ (k % 16) % 2 : Nat) : Int) = t)) (hk : k < 16 * n) (hn : n ≤ 1000) (ho : Hid (∀ j, j < n → w.cell? ⟨g, j, none⟩ = some (.int .i64 (o j)))) (hb : Hid (∀ j, j < n → o j < 65536)) :
    Calls Tryz.prog 59 #[.slice (some ⟨g, 0, none⟩) n cap, .int .i64 k] w fun e w' => e = .returned (.int .i64 t) ∧ w = w' := by
  have hck := ho.out (k / 16) (by omega)
  have hbk := hb.out (k / 16) (by omega)
  obtain ⟨d, hd⟩ : ∃ d, o (k / 16) = d := ⟨_, rfl⟩
  rw [hd] at hck hbk
  have ht' := Lib.hid (show ((d / 2 ^ (k % 16) % 2 : Nat) : Int) = t by rw [← hd]; exact ht.out)
  clear hd ht
  have hd16 : k / 16 < n := by omega
  go_enter Tryz.func59, Tryz.ntmps59
  go_wp2
  go_loop [5, 6] (fun x i => ∃ r : Nat, r ≤ k % 16 ∧ i = .int .i64 r ∧ x = .int .i64 ((d / 2 ^ r : Nat) : Int)) (fun _ i => 16 - (intOf i).toNat)
  case atStart => exact ⟨0, by omega, rfl, by simp⟩
  case round =>
    obtain ⟨r, hr, rfl, rfl⟩ := hrel
    obtain ⟨x, hx⟩ : ∃ x, d / 2 ^ r = x := ⟨_, rfl⟩
    rw [hx]
    have hxb : x ≤ 65536 := by rw [← hx]; exact Nat.le_trans (Nat.div_le_self _ _) (by omega)
    have hx1 : x / 2 = d / 2 ^ (r + 1) := by rw [← hx, Nat.div_div_eq_div_mul, Nat.pow_succ]
    have HX1 := Lib.hid hx1; have HX := Lib.hid hx; clear hx hx1 hck
    by_cases hlt : r < k % 16
    · go_wp2
      go_round
      case rel => exact ⟨r + 1, by omega, by go_num, by rw [← HX1.out]; go_num⟩
      case measure => simp [intOf]; omega
    · obtain rfl : r = k % 16 := by omega
      go_wp2
      go_ret
      exact ⟨ret_int (by have h1 := ht'.out; rw [HX.out] at h1; omega), rfl⟩
end Go.Proofs.YtlafeijkpnpdeaaGreat.RefA

/- The reference's product, and its long division. -/
namespace Go.Proofs.YtlafeijkpnpdeaaGreat.RefB
open Go.RowKit Base RefA Long
set_option linter.unusedVariables false
set_option linter.unusedSimpArgs false

theorem row_put (o : Nat → Nat) (i v : Nat) (n : Nat) : (row (fun j => (o j : Int)) n).set i (.int .i64 (v : Int)) = row (fun j => ((put o i v j : Nat) : Int)) n := by
  rw [row_set]; congr 1; funext j; unfold put; split <;> rfl

theorem zero_row : ([.int .i64 0, .int .i64 0, .int .i64 0, .int .i64 0, .int .i64 0, .int .i64 0, .int .i64 0, .int .i64 0, .int .i64 0] : List Value) = row (fun j => (((fun _ => 0 : Nat → Nat) j : Nat) : Int)) 9 := rfl

theorem run_make9 (w : World) : (Instr.makeSlice 29 (.int .i64 9) (.int .i64 9)).run Tryz.prog w = .ok (.slice (some ⟨w.heap.size, 0, none⟩) 9 9)
    (w.alloc (.cells #[.int .i64 0, .int .i64 0, .int .i64 0, .int .i64 0, .int .i64 0, .int .i64 0, .int .i64 0, .int .i64 0, .int .i64 0] 3)) := by kernel_rfl

/-- what holds of the memory of a product under way -/
structure Mem (a b : Nat) (w : World) (gx gy G : Nat) (o : Nat → Nat) (wr : World) : Prop where
  bel : Below w.heap.size w wr
  x : ∀ j, j < 4 → wr.cell? ⟨gx, j, none⟩ = some (.int .i64 (dg a j))
  y : ∀ j, j < 4 → wr.cell? ⟨gy, j, none⟩ = some (.int .i64 (dg b j))
  out : wr.ownsRow w.heap.size 3 1 (.slice (some ⟨G, 0, none⟩) 9 9) 9 (row (fun j => (o j : Int)) 9)

theorem Mem.drewN {a b : Nat} {w : World} {gx gy G : Nat} {o : Nat → Nat} {wr : World} (h : Mem a b w gx gy G o wr) (n : Nat) : Mem a b w gx gy G o (wr.drewN n) :=
  ⟨below_drewN h.bel n, h.x, h.y, h.out⟩
theorem Mem.at {a b : Nat} {w : World} {gx gy G : Nat} {o : Nat → Nat} {wr : World} (h : Mem a b w gx gy G o wr) (j : Nat) (hj : j < 9) : wr.cell? ⟨G, j, none⟩ = some (.int .i64 (o j)) := by
  rw [h.out.cellAt j (by omega), row_get _ _ _ hj]
theorem Mem.fr {a b : Nat} {w : World} {gx gy G : Nat} {o : Nat → Nat} {wr : World} (h : Mem a b w gx gy G o wr) (j : Nat) : wr.frozen? ⟨G, j, none⟩ = false := h.out.frozenAt j
theorem Mem.set {a b : Nat} {w : World} {gx gy G : Nat} {o : Nat → Nat} {wr : World} (h : Mem a b w gx gy G o wr) (hx : gx ≠ G) (hy : gy ≠ G) (i v : Nat) (hi : i < 9) (u : Int) (hu : u = (v : Int)) :
    Mem a b w gx gy G (put o i v) (wr.setCell ⟨G, i, none⟩ (.int .i64 u)) := by
  subst hu
  refine ⟨h.bel.setCell (h.out.lt G rfl).1 _, fun j hj => set_keep (h.x j hj) hx, fun j hj => set_keep (h.y j hj) hy, ?_⟩
  have h1 := (h.out.stored i (.int .i64 (v : Int))).1
  rw [row_put] at h1; exact h1

set_option maxRecDepth 100000 in
set_option maxHeartbeats 4000000 in
theorem product_any (a b : Nat) (w : World) (ha : a ≤ 9223372036854775807) (hb : b ≤ 9223372036854775807) :
    Calls Tryz.prog 58 #[.int .i64 a, .int .i64 b] w fun e w' => ∃ g, e = .returned (.slice (some ⟨g, 0, none⟩) 9 9) ∧ w'.ownsRow w.heap.size 3 1 (.slice (some ⟨g, 0, none⟩) 9 9) 9 (row (fun j => (dg (a * b) j : Int)) 9) ∧ Below w.heap.size w w' := by
  go_enter Tryz.func58, Tryz.ntmps58
  go_wp2_with fail
  refine (digits_any a _ ha).mono ?_
  rintro e w1 ⟨vx, rfl, hox, hb1⟩
  obtain ⟨gx, cx, rfl, hx1, hx2⟩ := ownsRow_open hox (by omega)
  go_wp2_with fail
  refine (digits_any b _ hb).mono ?_
  rintro e w2 ⟨vy, rfl, hoy, hb2⟩
  obtain ⟨gy, cy, rfl, hy1, hy2⟩ := ownsRow_open hoy (by omega)
  have hox2 := ownsRow_keep hox hb2
  have hbw : Below w.heap.size w w2 := hb1.trans (hb2.mono hb1.size)
  have hs1 := hb1.size
  have hs2 := hb2.size
  clear hb1 hb2
  have hmk := run_make9
  go_wp2_with fail
  have M0 : Mem a b w gx gy w2.heap.size (fun _ => 0) (w2.alloc (.cells #[.int .i64 0, .int .i64 0, .int .i64 0, .int .i64 0, .int .i64 0, .int .i64 0, .int .i64 0, .int .i64 0, .int .i64 0] 3)) :=
    ⟨hbw.alloc (by omega) _, fun j hj => alloc_keep (by rw [hox2.cellAt j (by omega), row_get _ _ _ hj]), fun j hj => alloc_keep (by rw [hoy.cellAt j (by omega), row_get _ _ _ hj]),
      by have h1 := World.ownsRow_lit (base := w.heap.size) (e := 3) (size := 1) w2 #[.int .i64 0, .int .i64 0, .int .i64 0, .int .i64 0, .int .i64 0, .int .i64 0, .int .i64 0, .int .i64 0, .int .i64 0] 9 (by omega) (by unfold maxLen; omega) rfl
         exact h1⟩
  have hxG : gx ≠ w2.heap.size := by omega
  have hyG : gy ≠ w2.heap.size := by omega
  obtain ⟨wm, hwm⟩ : ∃ wm, w2.alloc (.cells #[.int .i64 0, .int .i64 0, .int .i64 0, .int .i64 0, .int .i64 0, .int .i64 0, .int .i64 0, .int .i64 0, .int .i64 0] 3) = wm := ⟨_, rfl⟩
  rw [hwm] at M0
  simp only [hwm]
  clear hwm hox hox2 hoy hbw hmk
  generalize w2.heap.size = G at *
  clear hx1 hx2 hy1 hy2 hs1 hs2
  go_loopw [8] (fun i wr => ∃ (ii : Nat) (o : Nat → Nat), ii ≤ 4 ∧ i = .int .i64 ii ∧ Mem a b w gx gy G o wr ∧ Hid (∀ j, j < 9 → o j < 65536) ∧ Hid (val 9 o = (a % 65536 ^ ii) * b)) (fun i _ => 4 - (intOf i).toNat)
  case atStart => exact ⟨0, fun _ => 0, by omega, rfl, M0, (fun j _ => show (0 : Nat) < 65536 by omega), by simp [Hid, val_zero, Nat.mod_one]⟩
  case round =>
    obtain ⟨i, o, hi, rfl, M, hd, hv⟩ := hrel
    clear M0
    by_cases hlt : i < 4
    · obtain ⟨wo, rfl⟩ : ∃ wo : World, wo = wr := ⟨_, rfl⟩
      have hI := Lib.hid (In.start hd.out hv.out)
      clear hd hv
      go_wp2
      go_loopw [9, 10] (fun c k wr => ∃ (kk cc : Nat) (o : Nat → Nat), kk ≤ 5 ∧ k = .int .i64 kk ∧ c = .int .i64 cc ∧ Mem a b w gx gy G o wr ∧ Hid (In a b i kk o cc)) (fun _ k _ => 5 - (intOf k).toNat)
      case atStart => exact ⟨0, 0, o, by omega, rfl, rfl, M, hI⟩
      case round =>
        clear M hI
        obtain ⟨k, c, o, hk, rfl, rfl, M, hI⟩ := hrel
        by_cases hlk : k < 5
        · have hle := hI.out.le (by omega)
          have hN := Lib.hid (hI.out.next (by omega))
          have hcx := M.x i (by omega)
          have hco := M.at (i + k) (by omega)
          have hfo := M.fr (i + k)
          have hMs := fun n u hu => Lib.hid ((M.drewN n).set hxG hyG (i + k) ((o (i + k) + dg a i * dg b k + c) % 65536) (by omega) u hu)
          by_cases hk4 : k < 4
          · have hcy := M.y k hk4
            generalize o (i + k) = oo at *
            generalize dg a i = xx at *
            generalize dg b k = yy at *
            obtain ⟨p, hP⟩ : ∃ p : Nat, xx * yy = p := ⟨_, rfl⟩
            rw [hP] at hMs hN hle
            have hP' : (xx : Int) * (yy : Int) = (p : Int) := by rw [← hP]; simp
            have W1 : IntKind.i64.wrap ((xx : Int) * yy) = p := by rw [hP']; exact IntWalk.i64_in _ (by omega)
            clear hP hP'
            have bp : p ≤ 4294967296 := by omega
            have bo : oo + p + c < 4294967296 := by omega
            go_wp2
            go_quiet (fail)
            clear W1
            go_wp2
            go_roundw
            case rel => exact ⟨k + 1, (oo + p + c) / 65536, _, by omega, by go_num, by go_num, (hMs _ _ (by go_num)).out, hN⟩
            case measure => simp [intOf]; omega
          · have hk4' : k = 4 := by omega
            have hy0 : dg b k = 0 := by subst hk4'; unfold dg; rw [Nat.div_eq_of_lt (by omega)]
            rw [hy0] at hMs hN hle
            simp only [Nat.mul_zero, Nat.add_zero] at hMs hN hle
            clear hk4' hy0
            generalize o (i + k) = oo at *
            generalize dg a i = xx at *
            go_wp2
            go_quiet (fail)
            go_wp2
            go_roundw
            case rel => exact ⟨k + 1, (oo + c) / 65536, _, by omega, by go_num, by go_num, (hMs _ _ (by go_num)).out, hN⟩
            case measure => simp [intOf]; omega
        · obtain rfl : k = 5 := by omega
          have hv := Lib.hid (hI.out.done (by omega))
          have hd := hI.out.dig
          have hd := Lib.hid hd
          go_wp2
          go_roundw
          case rel => exact ⟨i + 1, o, by omega, by go_num, M, hd, hv⟩
          case measure => simp [intOf]; omega
    · obtain rfl : i = 4 := by omega
      have hr : ∀ j, j < 9 → o j = dg (a * b) j := row_done hv.out (by omega) hd.out
      have hrow : row (fun j => (o j : Int)) 9 = row (fun j => (dg (a * b) j : Int)) 9 := by
        unfold row; refine List.map_congr_left fun j hj => ?_
        have := hr j (by simpa using hj)
        simp only [this]
      have hout := M.out
      rw [hrow] at hout
      have hO := Lib.hid hout
      clear hout hrow hr hv hd
      go_wp2
      go_ret
      exact ⟨_, rfl, hO, M.bel⟩
end Go.Proofs.YtlafeijkpnpdeaaGreat.RefB

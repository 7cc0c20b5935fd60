/- Package level: when all is done, and what it takes; plain, and walked. -/
import Derived.Test.YtigknchcjlieoaaPowR
import Derived.Test.YtigknchcjlieoaaRefC
import Derived.Test.YtigknchcjlieoaaFitCeil
namespace Go.Proofs.Ytigknchcjlieoaa.LvlA
open Go.RowKit Base Kit Conf PowA PowB PowC PowR WideB
set_option linter.unusedVariables false
set_option linter.unusedSimpArgs false

/-- where the platform is, and what is left -/
structure X5 where
  (now base dn lv lf : Int)
def MayP (p : PowC) (x : X5) : Prop := (powR p).1 = 0 ∧ 0 ≤ x.lv ∧ x.lv < p.ln ∧ 0 ≤ x.base ∧ x.base ≤ x.now ∧ x.now ≤ 1152921504606846976 ∧ 0 ≤ x.dn ∧ x.dn ≤ 2147483648 ∧ 0 ≤ x.lf ∧ x.lf ≤ 2147483648
instance (p : PowC) (x : X5) : Decidable (MayP p x) := by unfold MayP; infer_instance
structure X5.I (x : X5) : Prop where
  now : I64 x.now
  base : I64 x.base
  dn : I64 x.dn
  lv : I64 x.lv
  lf : I64 x.lf
/-- a platform that may be -/
theorem pow_ok {p : PowC} (h : (powR p).1 = 0) : 1 ≤ p.ln ∧ p.ln ≤ 6 ∧ (∀ j, j < p.ln → lev p.lf j = true) ∧ rest p = true := by
  unfold powR at h
  split at h
  · simp at h
  · split at h
    · simp at h
    · rename_i h1 h2
      have := fb_le (lev p.lf) p.ln
      split at h
      · rename_i h3
        exact ⟨by omega, by omega, fb_iff.1 (by omega), h3⟩
      · simp at h
theorem lev_bd {p : PowC} (h : (powR p).1 = 0) {k : Nat} (hk : k < p.ln) : 1 ≤ p.lf k 0 ∧ p.lf k 0 ≤ 10000 ∧ 0 ≤ p.lf k 1 ∧ p.lf k 1 ≤ 1000000 := by
  have ok := (pow_ok h).2.2.1
  have l := lvB_bd (ok k hk)
  have a := ah_bd k (fun j hj => ok j (by omega))
  omega
theorem rest_bd {p : PowC} (h : (powR p).1 = 0) : (0 ≤ p.sw ∧ p.sw ≤ 100000000) ∧ (0 ≤ p.id ∧ p.id ≤ 1000000) ∧ (0 ≤ p.ch ∧ p.ch ≤ 1000000) ∧ (1 ≤ p.qu ∧ p.qu ≤ 1000000000) ∧ (1 ≤ p.sl ∧ p.sl ≤ 1000000) ∧ (0 ≤ p.pp ∧ p.pp ≤ 100000) ∧ allN p.nf p.nn = true := by
  have r := (pow_ok h).2.2.2
  unfold rest at r
  simp only [Bool.and_eq_true, inB_iff] at r
  obtain ⟨⟨⟨⟨⟨⟨r0, r1⟩, r2⟩, r3⟩, r4⟩, r5⟩, r6⟩ := r
  exact ⟨r1, r2, r3, r4, r5, r6, r0⟩
def tm (f c : Int) : Int := (c * 1000 + (f - 1)) / f
theorem tm_bd {f c : Int} (hf : 1 ≤ f) (h0 : 0 ≤ c) : 0 ≤ tm f c ∧ tm f c ≤ c * 1000 := by
  unfold tm
  refine ⟨Int.ediv_nonneg (by omega) (by omega), ?_⟩
  rw [FitCeil.ceil_le _ _ _ hf]
  have := Int.mul_le_mul_of_nonneg_left hf (show 0 ≤ c * 1000 by omega)
  omega
theorem md_tm {f c : Int} (hf : 1 ≤ f) (h0 : 0 ≤ c) (h1 : c ≤ 4294967296) : md c 1000 f true = (tm f c, 0) := by
  have b := tm_bd hf h0
  unfold md
  have e : mdQ c 1000 f true = tm f c := rfl
  rw [if_neg (by omega), e, if_pos (by omega)]
theorem md_tm' {f c : Int} (hf : 1 ≤ f) (h0 : 0 ≤ c) (h1 : c ≤ 4294967296) : md 1000 c f true = (tm f c, 0) := by
  have b := tm_bd hf h0
  unfold md
  have e : mdQ 1000 c f true = tm f c := by unfold mdQ tm; rw [Int.mul_comm 1000 c]; rfl
  rw [if_neg (by omega), e, if_pos (by omega)]
def fq (p : PowC) (k : Nat) : Int := p.lf k 0
def endP (p : PowC) (x : X5) (k : Nat) : Int := if (k : Int) = x.lv then (if x.now < x.base + tm (p.lf k 0) (x.dn + x.lf) then x.base + tm (p.lf k 0) (x.dn + x.lf) else x.now) else x.now + p.sw + tm (p.lf k 0) x.lf
def costP (p : PowC) (x : X5) (k : Nat) : Int := if (k : Int) = x.lv then p.lf k 1 * (endP p x k - x.now) else p.lf k 1 * (endP p x k - x.now - p.sw) + p.ch * p.sw

set_option maxRecDepth 100000 in
set_option maxHeartbeats 1000000 in
theorem may_any (p : PowC) (x : X5) (w : World) (ok : p.Ok w) (b : Bool) (hb : Hid (decide (MayP p x) = b)) :
    Calls Try.prog 45 #[.agg #[.int .i64 x.now, .int .i64 x.base, .int .i64 x.dn, .int .i64 x.lv, .int .i64 x.lf], .agg #[.slice p.la p.ln p.lc, .slice p.na p.nn p.nc, .int .i64 p.sw, .int .i64 p.id, .int .i64 p.ch, .int .i64 p.qu, .int .i64 p.sl, .int .i64 p.pp]] w fun e w' => e = .returned (.bool b) ∧ Below w.heap.size w w' := by
  have hb := hb.out
  obtain ⟨er, e1⟩ : ∃ z, (powR p).1 = z := ⟨_, rfl⟩
  obtain ⟨k, e2⟩ : ∃ z, (powR p).2 = z := ⟨_, rfl⟩
  have hm := ok.lev.out.1
  have C := Lib.hid (fun w1 (h : Below w.heap.size w w1) => power_any p w1 (ok.below h (Nat.le_refl _)) er k (Lib.hid (Prod.ext e1 e2)))
  have hM : b = true ↔ (er = 0 ∧ 0 ≤ x.lv ∧ x.lv < p.ln ∧ 0 ≤ x.base ∧ x.base ≤ x.now ∧ x.now ≤ 1152921504606846976 ∧ 0 ≤ x.dn ∧ x.dn ≤ 2147483648 ∧ 0 ≤ x.lf ∧ x.lf ≤ 2147483648) := by
    rw [← hb, decide_eq_true_iff, ← e1]; rfl
  clear e1 e2 hb
  obtain ⟨now, base, dn, lv, lf⟩ := x
  dsimp only at hM ⊢
  have HM := Lib.hid hM
  clear hM
  by_cases c0 : er = 0
  rotate_left
  · have c0' : (er == 0) = false := by simpa using c0
    obtain rfl : b = false := by cases b with
      | false => rfl
      | true => exact absurd (HM.out.1 rfl).1 c0
    clear c0
    have b1 := Lib.hid ((Box.new w #[.int .i64 now, .int .i64 base, .int .i64 dn, .int .i64 lv, .int .i64 lf] 34).alloc (.cells #[.slice p.la p.ln p.lc, .slice p.na p.nn p.nc, .int .i64 p.sw, .int .i64 p.id, .int .i64 p.ch, .int .i64 p.qu, .int .i64 p.sl, .int .i64 p.pp] 25))
    have b2' := Box.new (w.alloc (.cells #[.int .i64 now, .int .i64 base, .int .i64 dn, .int .i64 lv, .int .i64 lf] 34)) #[.slice p.la p.ln p.lc, .slice p.na p.nn p.nc, .int .i64 p.sw, .int .i64 p.id, .int .i64 p.ch, .int .i64 p.qu, .int .i64 p.sl, .int .i64 p.pp] 25
    rw [World.size_alloc] at b2'
    have b2 := Lib.hid b2'
    clear b2'
    go_enter Try.func45, Try.ntmps45
    go_wp2_with fail
    refine (C.out _ (((Below.refl w.heap.size w).alloc (Nat.le_refl _) _).alloc (by simp) _)).mono ?_
    rintro e1 w5 ⟨rfl, k5⟩
    have HB := Lib.hid (below_next (((Below.refl w.heap.size w).alloc (Nat.le_refl _) _).alloc (by simp) _) k5)
    have x1 := (b1.out.next k5).cell
    have x2 := (b2.out.next k5).cell
    clear k5
    go_wp2_with fail
    go_ret
    refine ⟨ret_bool ?_, HB.out⟩
    first | rfl | (simp; done) | (simp; omega)
  subst c0
  by_cases c1 : 0 ≤ lv
  rotate_left
  · have c1' : lv < 0 := by omega
    obtain rfl : b = false := by cases b with
      | false => rfl
      | true => (have h := HM.out.1 rfl; omega)
    clear c1
    have b1 := Lib.hid ((Box.new w #[.int .i64 now, .int .i64 base, .int .i64 dn, .int .i64 lv, .int .i64 lf] 34).alloc (.cells #[.slice p.la p.ln p.lc, .slice p.na p.nn p.nc, .int .i64 p.sw, .int .i64 p.id, .int .i64 p.ch, .int .i64 p.qu, .int .i64 p.sl, .int .i64 p.pp] 25))
    have b2' := Box.new (w.alloc (.cells #[.int .i64 now, .int .i64 base, .int .i64 dn, .int .i64 lv, .int .i64 lf] 34)) #[.slice p.la p.ln p.lc, .slice p.na p.nn p.nc, .int .i64 p.sw, .int .i64 p.id, .int .i64 p.ch, .int .i64 p.qu, .int .i64 p.sl, .int .i64 p.pp] 25
    rw [World.size_alloc] at b2'
    have b2 := Lib.hid b2'
    clear b2'
    go_enter Try.func45, Try.ntmps45
    go_wp2_with fail
    refine (C.out _ (((Below.refl w.heap.size w).alloc (Nat.le_refl _) _).alloc (by simp) _)).mono ?_
    rintro e1 w5 ⟨rfl, k5⟩
    have HB := Lib.hid (below_next (((Below.refl w.heap.size w).alloc (Nat.le_refl _) _).alloc (by simp) _) k5)
    have x1 := (b1.out.next k5).cell
    have x2 := (b2.out.next k5).cell
    clear k5
    go_wp2_with fail
    go_ret
    refine ⟨ret_bool ?_, HB.out⟩
    first | rfl | (simp; done) | (simp; omega)
  by_cases c2 : lv < (p.ln : Int)
  rotate_left
  · have c2' : (p.ln : Int) ≤ lv := by omega
    obtain rfl : b = false := by cases b with
      | false => rfl
      | true => (have h := HM.out.1 rfl; omega)
    clear c2
    have b1 := Lib.hid ((Box.new w #[.int .i64 now, .int .i64 base, .int .i64 dn, .int .i64 lv, .int .i64 lf] 34).alloc (.cells #[.slice p.la p.ln p.lc, .slice p.na p.nn p.nc, .int .i64 p.sw, .int .i64 p.id, .int .i64 p.ch, .int .i64 p.qu, .int .i64 p.sl, .int .i64 p.pp] 25))
    have b2' := Box.new (w.alloc (.cells #[.int .i64 now, .int .i64 base, .int .i64 dn, .int .i64 lv, .int .i64 lf] 34)) #[.slice p.la p.ln p.lc, .slice p.na p.nn p.nc, .int .i64 p.sw, .int .i64 p.id, .int .i64 p.ch, .int .i64 p.qu, .int .i64 p.sl, .int .i64 p.pp] 25
    rw [World.size_alloc] at b2'
    have b2 := Lib.hid b2'
    clear b2'
    go_enter Try.func45, Try.ntmps45
    go_wp2_with fail
    refine (C.out _ (((Below.refl w.heap.size w).alloc (Nat.le_refl _) _).alloc (by simp) _)).mono ?_
    rintro e1 w5 ⟨rfl, k5⟩
    have HB := Lib.hid (below_next (((Below.refl w.heap.size w).alloc (Nat.le_refl _) _).alloc (by simp) _) k5)
    have x1 := (b1.out.next k5).cell
    have x2 := (b2.out.next k5).cell
    clear k5
    go_wp2_with fail
    go_ret
    refine ⟨ret_bool ?_, HB.out⟩
    first | rfl | (simp; done) | (simp; omega)
  by_cases c3 : 0 ≤ base
  rotate_left
  · have c3' : base < 0 := by omega
    obtain rfl : b = false := by cases b with
      | false => rfl
      | true => (have h := HM.out.1 rfl; omega)
    clear c3
    have b1 := Lib.hid ((Box.new w #[.int .i64 now, .int .i64 base, .int .i64 dn, .int .i64 lv, .int .i64 lf] 34).alloc (.cells #[.slice p.la p.ln p.lc, .slice p.na p.nn p.nc, .int .i64 p.sw, .int .i64 p.id, .int .i64 p.ch, .int .i64 p.qu, .int .i64 p.sl, .int .i64 p.pp] 25))
    have b2' := Box.new (w.alloc (.cells #[.int .i64 now, .int .i64 base, .int .i64 dn, .int .i64 lv, .int .i64 lf] 34)) #[.slice p.la p.ln p.lc, .slice p.na p.nn p.nc, .int .i64 p.sw, .int .i64 p.id, .int .i64 p.ch, .int .i64 p.qu, .int .i64 p.sl, .int .i64 p.pp] 25
    rw [World.size_alloc] at b2'
    have b2 := Lib.hid b2'
    clear b2'
    go_enter Try.func45, Try.ntmps45
    go_wp2_with fail
    refine (C.out _ (((Below.refl w.heap.size w).alloc (Nat.le_refl _) _).alloc (by simp) _)).mono ?_
    rintro e1 w5 ⟨rfl, k5⟩
    have HB := Lib.hid (below_next (((Below.refl w.heap.size w).alloc (Nat.le_refl _) _).alloc (by simp) _) k5)
    have x1 := (b1.out.next k5).cell
    have x2 := (b2.out.next k5).cell
    clear k5
    go_wp2_with fail
    go_ret
    refine ⟨ret_bool ?_, HB.out⟩
    first | rfl | (simp; done) | (simp; omega)
  by_cases c4 : base ≤ now
  rotate_left
  · have c4' : now < base := by omega
    obtain rfl : b = false := by cases b with
      | false => rfl
      | true => (have h := HM.out.1 rfl; omega)
    clear c4
    have b1 := Lib.hid ((Box.new w #[.int .i64 now, .int .i64 base, .int .i64 dn, .int .i64 lv, .int .i64 lf] 34).alloc (.cells #[.slice p.la p.ln p.lc, .slice p.na p.nn p.nc, .int .i64 p.sw, .int .i64 p.id, .int .i64 p.ch, .int .i64 p.qu, .int .i64 p.sl, .int .i64 p.pp] 25))
    have b2' := Box.new (w.alloc (.cells #[.int .i64 now, .int .i64 base, .int .i64 dn, .int .i64 lv, .int .i64 lf] 34)) #[.slice p.la p.ln p.lc, .slice p.na p.nn p.nc, .int .i64 p.sw, .int .i64 p.id, .int .i64 p.ch, .int .i64 p.qu, .int .i64 p.sl, .int .i64 p.pp] 25
    rw [World.size_alloc] at b2'
    have b2 := Lib.hid b2'
    clear b2'
    go_enter Try.func45, Try.ntmps45
    go_wp2_with fail
    refine (C.out _ (((Below.refl w.heap.size w).alloc (Nat.le_refl _) _).alloc (by simp) _)).mono ?_
    rintro e1 w5 ⟨rfl, k5⟩
    have HB := Lib.hid (below_next (((Below.refl w.heap.size w).alloc (Nat.le_refl _) _).alloc (by simp) _) k5)
    have x1 := (b1.out.next k5).cell
    have x2 := (b2.out.next k5).cell
    clear k5
    go_wp2_with fail
    go_ret
    refine ⟨ret_bool ?_, HB.out⟩
    first | rfl | (simp; done) | (simp; omega)
  by_cases c5 : now ≤ 1152921504606846976
  rotate_left
  · have c5' : 1152921504606846976 < now := by omega
    obtain rfl : b = false := by cases b with
      | false => rfl
      | true => (have h := HM.out.1 rfl; omega)
    clear c5
    have b1 := Lib.hid ((Box.new w #[.int .i64 now, .int .i64 base, .int .i64 dn, .int .i64 lv, .int .i64 lf] 34).alloc (.cells #[.slice p.la p.ln p.lc, .slice p.na p.nn p.nc, .int .i64 p.sw, .int .i64 p.id, .int .i64 p.ch, .int .i64 p.qu, .int .i64 p.sl, .int .i64 p.pp] 25))
    have b2' := Box.new (w.alloc (.cells #[.int .i64 now, .int .i64 base, .int .i64 dn, .int .i64 lv, .int .i64 lf] 34)) #[.slice p.la p.ln p.lc, .slice p.na p.nn p.nc, .int .i64 p.sw, .int .i64 p.id, .int .i64 p.ch, .int .i64 p.qu, .int .i64 p.sl, .int .i64 p.pp] 25
    rw [World.size_alloc] at b2'
    have b2 := Lib.hid b2'
    clear b2'
    go_enter Try.func45, Try.ntmps45
    go_wp2_with fail
    refine (C.out _ (((Below.refl w.heap.size w).alloc (Nat.le_refl _) _).alloc (by simp) _)).mono ?_
    rintro e1 w5 ⟨rfl, k5⟩
    have HB := Lib.hid (below_next (((Below.refl w.heap.size w).alloc (Nat.le_refl _) _).alloc (by simp) _) k5)
    have x1 := (b1.out.next k5).cell
    have x2 := (b2.out.next k5).cell
    clear k5
    go_wp2_with fail
    go_ret
    refine ⟨ret_bool ?_, HB.out⟩
    first | rfl | (simp; done) | (simp; omega)
  by_cases c6 : 0 ≤ dn
  rotate_left
  · have c6' : dn < 0 := by omega
    obtain rfl : b = false := by cases b with
      | false => rfl
      | true => (have h := HM.out.1 rfl; omega)
    clear c6
    have b1 := Lib.hid ((Box.new w #[.int .i64 now, .int .i64 base, .int .i64 dn, .int .i64 lv, .int .i64 lf] 34).alloc (.cells #[.slice p.la p.ln p.lc, .slice p.na p.nn p.nc, .int .i64 p.sw, .int .i64 p.id, .int .i64 p.ch, .int .i64 p.qu, .int .i64 p.sl, .int .i64 p.pp] 25))
    have b2' := Box.new (w.alloc (.cells #[.int .i64 now, .int .i64 base, .int .i64 dn, .int .i64 lv, .int .i64 lf] 34)) #[.slice p.la p.ln p.lc, .slice p.na p.nn p.nc, .int .i64 p.sw, .int .i64 p.id, .int .i64 p.ch, .int .i64 p.qu, .int .i64 p.sl, .int .i64 p.pp] 25
    rw [World.size_alloc] at b2'
    have b2 := Lib.hid b2'
    clear b2'
    go_enter Try.func45, Try.ntmps45
    go_wp2_with fail
    refine (C.out _ (((Below.refl w.heap.size w).alloc (Nat.le_refl _) _).alloc (by simp) _)).mono ?_
    rintro e1 w5 ⟨rfl, k5⟩
    have HB := Lib.hid (below_next (((Below.refl w.heap.size w).alloc (Nat.le_refl _) _).alloc (by simp) _) k5)
    have x1 := (b1.out.next k5).cell
    have x2 := (b2.out.next k5).cell
    clear k5
    go_wp2_with fail
    go_ret
    refine ⟨ret_bool ?_, HB.out⟩
    first | rfl | (simp; done) | (simp; omega)
  by_cases c7 : dn ≤ 2147483648
  rotate_left
  · have c7' : 2147483648 < dn := by omega
    obtain rfl : b = false := by cases b with
      | false => rfl
      | true => (have h := HM.out.1 rfl; omega)
    clear c7
    have b1 := Lib.hid ((Box.new w #[.int .i64 now, .int .i64 base, .int .i64 dn, .int .i64 lv, .int .i64 lf] 34).alloc (.cells #[.slice p.la p.ln p.lc, .slice p.na p.nn p.nc, .int .i64 p.sw, .int .i64 p.id, .int .i64 p.ch, .int .i64 p.qu, .int .i64 p.sl, .int .i64 p.pp] 25))
    have b2' := Box.new (w.alloc (.cells #[.int .i64 now, .int .i64 base, .int .i64 dn, .int .i64 lv, .int .i64 lf] 34)) #[.slice p.la p.ln p.lc, .slice p.na p.nn p.nc, .int .i64 p.sw, .int .i64 p.id, .int .i64 p.ch, .int .i64 p.qu, .int .i64 p.sl, .int .i64 p.pp] 25
    rw [World.size_alloc] at b2'
    have b2 := Lib.hid b2'
    clear b2'
    go_enter Try.func45, Try.ntmps45
    go_wp2_with fail
    refine (C.out _ (((Below.refl w.heap.size w).alloc (Nat.le_refl _) _).alloc (by simp) _)).mono ?_
    rintro e1 w5 ⟨rfl, k5⟩
    have HB := Lib.hid (below_next (((Below.refl w.heap.size w).alloc (Nat.le_refl _) _).alloc (by simp) _) k5)
    have x1 := (b1.out.next k5).cell
    have x2 := (b2.out.next k5).cell
    clear k5
    go_wp2_with fail
    go_ret
    refine ⟨ret_bool ?_, HB.out⟩
    first | rfl | (simp; done) | (simp; omega)
  by_cases c8 : 0 ≤ lf
  rotate_left
  · have c8' : lf < 0 := by omega
    obtain rfl : b = false := by cases b with
      | false => rfl
      | true => (have h := HM.out.1 rfl; omega)
    clear c8
    have b1 := Lib.hid ((Box.new w #[.int .i64 now, .int .i64 base, .int .i64 dn, .int .i64 lv, .int .i64 lf] 34).alloc (.cells #[.slice p.la p.ln p.lc, .slice p.na p.nn p.nc, .int .i64 p.sw, .int .i64 p.id, .int .i64 p.ch, .int .i64 p.qu, .int .i64 p.sl, .int .i64 p.pp] 25))
    have b2' := Box.new (w.alloc (.cells #[.int .i64 now, .int .i64 base, .int .i64 dn, .int .i64 lv, .int .i64 lf] 34)) #[.slice p.la p.ln p.lc, .slice p.na p.nn p.nc, .int .i64 p.sw, .int .i64 p.id, .int .i64 p.ch, .int .i64 p.qu, .int .i64 p.sl, .int .i64 p.pp] 25
    rw [World.size_alloc] at b2'
    have b2 := Lib.hid b2'
    clear b2'
    go_enter Try.func45, Try.ntmps45
    go_wp2_with fail
    refine (C.out _ (((Below.refl w.heap.size w).alloc (Nat.le_refl _) _).alloc (by simp) _)).mono ?_
    rintro e1 w5 ⟨rfl, k5⟩
    have HB := Lib.hid (below_next (((Below.refl w.heap.size w).alloc (Nat.le_refl _) _).alloc (by simp) _) k5)
    have x1 := (b1.out.next k5).cell
    have x2 := (b2.out.next k5).cell
    clear k5
    go_wp2_with fail
    go_ret
    refine ⟨ret_bool ?_, HB.out⟩
    first | rfl | (simp; done) | (simp; omega)
  by_cases c9 : lf ≤ 2147483648
  rotate_left
  · have c9' : 2147483648 < lf := by omega
    obtain rfl : b = false := by cases b with
      | false => rfl
      | true => (have h := HM.out.1 rfl; omega)
    clear c9
    have b1 := Lib.hid ((Box.new w #[.int .i64 now, .int .i64 base, .int .i64 dn, .int .i64 lv, .int .i64 lf] 34).alloc (.cells #[.slice p.la p.ln p.lc, .slice p.na p.nn p.nc, .int .i64 p.sw, .int .i64 p.id, .int .i64 p.ch, .int .i64 p.qu, .int .i64 p.sl, .int .i64 p.pp] 25))
    have b2' := Box.new (w.alloc (.cells #[.int .i64 now, .int .i64 base, .int .i64 dn, .int .i64 lv, .int .i64 lf] 34)) #[.slice p.la p.ln p.lc, .slice p.na p.nn p.nc, .int .i64 p.sw, .int .i64 p.id, .int .i64 p.ch, .int .i64 p.qu, .int .i64 p.sl, .int .i64 p.pp] 25
    rw [World.size_alloc] at b2'
    have b2 := Lib.hid b2'
    clear b2'
    go_enter Try.func45, Try.ntmps45
    go_wp2_with fail
    refine (C.out _ (((Below.refl w.heap.size w).alloc (Nat.le_refl _) _).alloc (by simp) _)).mono ?_
    rintro e1 w5 ⟨rfl, k5⟩
    have HB := Lib.hid (below_next (((Below.refl w.heap.size w).alloc (Nat.le_refl _) _).alloc (by simp) _) k5)
    have x1 := (b1.out.next k5).cell
    have x2 := (b2.out.next k5).cell
    clear k5
    go_wp2_with fail
    go_ret
    refine ⟨ret_bool ?_, HB.out⟩
    first | rfl | (simp; done) | (simp; omega)
  obtain rfl : b = true := HM.out.2 ⟨rfl, c1, by omega, c3, c4, c5, c6, c7, c8, c9⟩
  have b1 := Lib.hid ((Box.new w #[.int .i64 now, .int .i64 base, .int .i64 dn, .int .i64 lv, .int .i64 lf] 34).alloc (.cells #[.slice p.la p.ln p.lc, .slice p.na p.nn p.nc, .int .i64 p.sw, .int .i64 p.id, .int .i64 p.ch, .int .i64 p.qu, .int .i64 p.sl, .int .i64 p.pp] 25))
  have b2' := Box.new (w.alloc (.cells #[.int .i64 now, .int .i64 base, .int .i64 dn, .int .i64 lv, .int .i64 lf] 34)) #[.slice p.la p.ln p.lc, .slice p.na p.nn p.nc, .int .i64 p.sw, .int .i64 p.id, .int .i64 p.ch, .int .i64 p.qu, .int .i64 p.sl, .int .i64 p.pp] 25
  rw [World.size_alloc] at b2'
  have b2 := Lib.hid b2'
  clear b2'
  go_enter Try.func45, Try.ntmps45
  go_wp2_with fail
  refine (C.out _ (((Below.refl w.heap.size w).alloc (Nat.le_refl _) _).alloc (by simp) _)).mono ?_
  rintro e1 w5 ⟨rfl, k5⟩
  have HB := Lib.hid (below_next (((Below.refl w.heap.size w).alloc (Nat.le_refl _) _).alloc (by simp) _) k5)
  have x1 := (b1.out.next k5).cell
  have x2 := (b2.out.next k5).cell
  clear k5
  go_wp2_with fail
  go_ret
  refine ⟨ret_bool ?_, HB.out⟩
  first | rfl | (simp; done) | (simp; omega)
set_option maxRecDepth 100000 in
set_option maxHeartbeats 1000000 in
theorem mayr_any (p : PowC) (x : X5) (w : World) (ok : p.Ok w) (b : Bool) (hb : Hid (decide (MayP p x) = b)) :
    Calls Try.prog 21 #[.agg #[.slice p.la p.ln p.lc, .slice p.na p.nn p.nc, .int .i64 p.sw, .int .i64 p.id, .int .i64 p.ch, .int .i64 p.qu, .int .i64 p.sl, .int .i64 p.pp], .agg #[.int .i64 x.now, .int .i64 x.base, .int .i64 x.dn, .int .i64 x.lv, .int .i64 x.lf]] w fun e w' => e = .returned (.bool b) ∧ Below w.heap.size w w' := by
  have hb := hb.out
  obtain ⟨er, e1⟩ : ∃ z, (powR p).1 = z := ⟨_, rfl⟩
  obtain ⟨k, e2⟩ : ∃ z, (powR p).2 = z := ⟨_, rfl⟩
  have hm := ok.lev.out.1
  have C := Lib.hid (fun w1 (h : Below w.heap.size w w1) => powerr_any p w1 (ok.below h (Nat.le_refl _)) er k (Lib.hid (Prod.ext e1 e2)))
  have hM : b = true ↔ (er = 0 ∧ 0 ≤ x.lv ∧ x.lv < p.ln ∧ 0 ≤ x.base ∧ x.base ≤ x.now ∧ x.now ≤ 1152921504606846976 ∧ 0 ≤ x.dn ∧ x.dn ≤ 2147483648 ∧ 0 ≤ x.lf ∧ x.lf ≤ 2147483648) := by
    rw [← hb, decide_eq_true_iff, ← e1]; rfl
  clear e1 e2 hb
  obtain ⟨now, base, dn, lv, lf⟩ := x
  dsimp only at hM ⊢
  have HM := Lib.hid hM
  clear hM
  by_cases c0 : er = 0
  rotate_left
  · have c0' : (er == 0) = false := by simpa using c0
    obtain rfl : b = false := by cases b with
      | false => rfl
      | true => exact absurd (HM.out.1 rfl).1 c0
    clear c0
    have b1 := Lib.hid ((Box.new w #[.slice p.la p.ln p.lc, .slice p.na p.nn p.nc, .int .i64 p.sw, .int .i64 p.id, .int .i64 p.ch, .int .i64 p.qu, .int .i64 p.sl, .int .i64 p.pp] 25).alloc (.cells #[.int .i64 now, .int .i64 base, .int .i64 dn, .int .i64 lv, .int .i64 lf] 27))
    have b2' := Box.new (w.alloc (.cells #[.slice p.la p.ln p.lc, .slice p.na p.nn p.nc, .int .i64 p.sw, .int .i64 p.id, .int .i64 p.ch, .int .i64 p.qu, .int .i64 p.sl, .int .i64 p.pp] 25)) #[.int .i64 now, .int .i64 base, .int .i64 dn, .int .i64 lv, .int .i64 lf] 27
    rw [World.size_alloc] at b2'
    have b2 := Lib.hid b2'
    clear b2'
    go_enter Try.func21, Try.ntmps21
    go_wp2_with fail
    refine (C.out _ (((Below.refl w.heap.size w).alloc (Nat.le_refl _) _).alloc (by simp) _)).mono ?_
    rintro e1 w5 ⟨rfl, k5⟩
    have HB := Lib.hid (below_next (((Below.refl w.heap.size w).alloc (Nat.le_refl _) _).alloc (by simp) _) k5)
    have x1 := (b1.out.next k5).cell
    have x2 := (b2.out.next k5).cell
    clear k5
    go_wp2_with fail
    go_ret
    refine ⟨ret_bool ?_, HB.out⟩
    first | rfl | (simp; done) | (simp; omega)
  subst c0
  by_cases c1 : 0 ≤ lv
  rotate_left
  · have c1' : lv < 0 := by omega
    obtain rfl : b = false := by cases b with
      | false => rfl
      | true => (have h := HM.out.1 rfl; omega)
    clear c1
    have b1 := Lib.hid ((Box.new w #[.slice p.la p.ln p.lc, .slice p.na p.nn p.nc, .int .i64 p.sw, .int .i64 p.id, .int .i64 p.ch, .int .i64 p.qu, .int .i64 p.sl, .int .i64 p.pp] 25).alloc (.cells #[.int .i64 now, .int .i64 base, .int .i64 dn, .int .i64 lv, .int .i64 lf] 27))
    have b2' := Box.new (w.alloc (.cells #[.slice p.la p.ln p.lc, .slice p.na p.nn p.nc, .int .i64 p.sw, .int .i64 p.id, .int .i64 p.ch, .int .i64 p.qu, .int .i64 p.sl, .int .i64 p.pp] 25)) #[.int .i64 now, .int .i64 base, .int .i64 dn, .int .i64 lv, .int .i64 lf] 27
    rw [World.size_alloc] at b2'
    have b2 := Lib.hid b2'
    clear b2'
    go_enter Try.func21, Try.ntmps21
    go_wp2_with fail
    refine (C.out _ (((Below.refl w.heap.size w).alloc (Nat.le_refl _) _).alloc (by simp) _)).mono ?_
    rintro e1 w5 ⟨rfl, k5⟩
    have HB := Lib.hid (below_next (((Below.refl w.heap.size w).alloc (Nat.le_refl _) _).alloc (by simp) _) k5)
    have x1 := (b1.out.next k5).cell
    have x2 := (b2.out.next k5).cell
    clear k5
    go_wp2_with fail
    go_ret
    refine ⟨ret_bool ?_, HB.out⟩
    first | rfl | (simp; done) | (simp; omega)
  by_cases c2 : lv < (p.ln : Int)
  rotate_left
  · have c2' : (p.ln : Int) ≤ lv := by omega
    obtain rfl : b = false := by cases b with
      | false => rfl
      | true => (have h := HM.out.1 rfl; omega)
    clear c2
    have b1 := Lib.hid ((Box.new w #[.slice p.la p.ln p.lc, .slice p.na p.nn p.nc, .int .i64 p.sw, .int .i64 p.id, .int .i64 p.ch, .int .i64 p.qu, .int .i64 p.sl, .int .i64 p.pp] 25).alloc (.cells #[.int .i64 now, .int .i64 base, .int .i64 dn, .int .i64 lv, .int .i64 lf] 27))
    have b2' := Box.new (w.alloc (.cells #[.slice p.la p.ln p.lc, .slice p.na p.nn p.nc, .int .i64 p.sw, .int .i64 p.id, .int .i64 p.ch, .int .i64 p.qu, .int .i64 p.sl, .int .i64 p.pp] 25)) #[.int .i64 now, .int .i64 base, .int .i64 dn, .int .i64 lv, .int .i64 lf] 27
    rw [World.size_alloc] at b2'
    have b2 := Lib.hid b2'
    clear b2'
    go_enter Try.func21, Try.ntmps21
    go_wp2_with fail
    refine (C.out _ (((Below.refl w.heap.size w).alloc (Nat.le_refl _) _).alloc (by simp) _)).mono ?_
    rintro e1 w5 ⟨rfl, k5⟩
    have HB := Lib.hid (below_next (((Below.refl w.heap.size w).alloc (Nat.le_refl _) _).alloc (by simp) _) k5)
    have x1 := (b1.out.next k5).cell
    have x2 := (b2.out.next k5).cell
    clear k5
    go_wp2_with fail
    go_ret
    refine ⟨ret_bool ?_, HB.out⟩
    first | rfl | (simp; done) | (simp; omega)
  by_cases c3 : 0 ≤ base
  rotate_left
  · have c3' : base < 0 := by omega
    obtain rfl : b = false := by cases b with
      | false => rfl
      | true => (have h := HM.out.1 rfl; omega)
    clear c3
    have b1 := Lib.hid ((Box.new w #[.slice p.la p.ln p.lc, .slice p.na p.nn p.nc, .int .i64 p.sw, .int .i64 p.id, .int .i64 p.ch, .int .i64 p.qu, .int .i64 p.sl, .int .i64 p.pp] 25).alloc (.cells #[.int .i64 now, .int .i64 base, .int .i64 dn, .int .i64 lv, .int .i64 lf] 27))
    have b2' := Box.new (w.alloc (.cells #[.slice p.la p.ln p.lc, .slice p.na p.nn p.nc, .int .i64 p.sw, .int .i64 p.id, .int .i64 p.ch, .int .i64 p.qu, .int .i64 p.sl, .int .i64 p.pp] 25)) #[.int .i64 now, .int .i64 base, .int .i64 dn, .int .i64 lv, .int .i64 lf] 27
    rw [World.size_alloc] at b2'
    have b2 := Lib.hid b2'
    clear b2'
    go_enter Try.func21, Try.ntmps21
    go_wp2_with fail
    refine (C.out _ (((Below.refl w.heap.size w).alloc (Nat.le_refl _) _).alloc (by simp) _)).mono ?_
    rintro e1 w5 ⟨rfl, k5⟩
    have HB := Lib.hid (below_next (((Below.refl w.heap.size w).alloc (Nat.le_refl _) _).alloc (by simp) _) k5)
    have x1 := (b1.out.next k5).cell
    have x2 := (b2.out.next k5).cell
    clear k5
    go_wp2_with fail
    go_ret
    refine ⟨ret_bool ?_, HB.out⟩
    first | rfl | (simp; done) | (simp; omega)
  by_cases c4 : base ≤ now
  rotate_left
  · have c4' : now < base := by omega
    obtain rfl : b = false := by cases b with
      | false => rfl
      | true => (have h := HM.out.1 rfl; omega)
    clear c4
    have b1 := Lib.hid ((Box.new w #[.slice p.la p.ln p.lc, .slice p.na p.nn p.nc, .int .i64 p.sw, .int .i64 p.id, .int .i64 p.ch, .int .i64 p.qu, .int .i64 p.sl, .int .i64 p.pp] 25).alloc (.cells #[.int .i64 now, .int .i64 base, .int .i64 dn, .int .i64 lv, .int .i64 lf] 27))
    have b2' := Box.new (w.alloc (.cells #[.slice p.la p.ln p.lc, .slice p.na p.nn p.nc, .int .i64 p.sw, .int .i64 p.id, .int .i64 p.ch, .int .i64 p.qu, .int .i64 p.sl, .int .i64 p.pp] 25)) #[.int .i64 now, .int .i64 base, .int .i64 dn, .int .i64 lv, .int .i64 lf] 27
    rw [World.size_alloc] at b2'
    have b2 := Lib.hid b2'
    clear b2'
    go_enter Try.func21, Try.ntmps21
    go_wp2_with fail
    refine (C.out _ (((Below.refl w.heap.size w).alloc (Nat.le_refl _) _).alloc (by simp) _)).mono ?_
    rintro e1 w5 ⟨rfl, k5⟩
    have HB := Lib.hid (below_next (((Below.refl w.heap.size w).alloc (Nat.le_refl _) _).alloc (by simp) _) k5)
    have x1 := (b1.out.next k5).cell
    have x2 := (b2.out.next k5).cell
    clear k5
    go_wp2_with fail
    go_ret
    refine ⟨ret_bool ?_, HB.out⟩
    first | rfl | (simp; done) | (simp; omega)
  by_cases c5 : now ≤ 1152921504606846976
  rotate_left
  · have c5' : 1152921504606846976 < now := by omega
    obtain rfl : b = false := by cases b with
      | false => rfl
      | true => (have h := HM.out.1 rfl; omega)
    clear c5
    have b1 := Lib.hid ((Box.new w #[.slice p.la p.ln p.lc, .slice p.na p.nn p.nc, .int .i64 p.sw, .int .i64 p.id, .int .i64 p.ch, .int .i64 p.qu, .int .i64 p.sl, .int .i64 p.pp] 25).alloc (.cells #[.int .i64 now, .int .i64 base, .int .i64 dn, .int .i64 lv, .int .i64 lf] 27))
    have b2' := Box.new (w.alloc (.cells #[.slice p.la p.ln p.lc, .slice p.na p.nn p.nc, .int .i64 p.sw, .int .i64 p.id, .int .i64 p.ch, .int .i64 p.qu, .int .i64 p.sl, .int .i64 p.pp] 25)) #[.int .i64 now, .int .i64 base, .int .i64 dn, .int .i64 lv, .int .i64 lf] 27
    rw [World.size_alloc] at b2'
    have b2 := Lib.hid b2'
    clear b2'
    go_enter Try.func21, Try.ntmps21
    go_wp2_with fail
    refine (C.out _ (((Below.refl w.heap.size w).alloc (Nat.le_refl _) _).alloc (by simp) _)).mono ?_
    rintro e1 w5 ⟨rfl, k5⟩
    have HB := Lib.hid (below_next (((Below.refl w.heap.size w).alloc (Nat.le_refl _) _).alloc (by simp) _) k5)
    have x1 := (b1.out.next k5).cell
    have x2 := (b2.out.next k5).cell
    clear k5
    go_wp2_with fail
    go_ret
    refine ⟨ret_bool ?_, HB.out⟩
    first | rfl | (simp; done) | (simp; omega)
  by_cases c6 : 0 ≤ dn
  rotate_left
  · have c6' : dn < 0 := by omega
    obtain rfl : b = false := by cases b with
      | false => rfl
      | true => (have h := HM.out.1 rfl; omega)
    clear c6
    have b1 := Lib.hid ((Box.new w #[.slice p.la p.ln p.lc, .slice p.na p.nn p.nc, .int .i64 p.sw, .int .i64 p.id, .int .i64 p.ch, .int .i64 p.qu, .int .i64 p.sl, .int .i64 p.pp] 25).alloc (.cells #[.int .i64 now, .int .i64 base, .int .i64 dn, .int .i64 lv, .int .i64 lf] 27))
    have b2' := Box.new (w.alloc (.cells #[.slice p.la p.ln p.lc, .slice p.na p.nn p.nc, .int .i64 p.sw, .int .i64 p.id, .int .i64 p.ch, .int .i64 p.qu, .int .i64 p.sl, .int .i64 p.pp] 25)) #[.int .i64 now, .int .i64 base, .int .i64 dn, .int .i64 lv, .int .i64 lf] 27
    rw [World.size_alloc] at b2'
    have b2 := Lib.hid b2'
    clear b2'
    go_enter Try.func21, Try.ntmps21
    go_wp2_with fail
    refine (C.out _ (((Below.refl w.heap.size w).alloc (Nat.le_refl _) _).alloc (by simp) _)).mono ?_
    rintro e1 w5 ⟨rfl, k5⟩
    have HB := Lib.hid (below_next (((Below.refl w.heap.size w).alloc (Nat.le_refl _) _).alloc (by simp) _) k5)
    have x1 := (b1.out.next k5).cell
    have x2 := (b2.out.next k5).cell
    clear k5
    go_wp2_with fail
    go_ret
    refine ⟨ret_bool ?_, HB.out⟩
    first | rfl | (simp; done) | (simp; omega)
  by_cases c7 : dn ≤ 2147483648
  rotate_left
  · have c7' : 2147483648 < dn := by omega
    obtain rfl : b = false := by cases b with
      | false => rfl
      | true => (have h := HM.out.1 rfl; omega)
    clear c7
    have b1 := Lib.hid ((Box.new w #[.slice p.la p.ln p.lc, .slice p.na p.nn p.nc, .int .i64 p.sw, .int .i64 p.id, .int .i64 p.ch, .int .i64 p.qu, .int .i64 p.sl, .int .i64 p.pp] 25).alloc (.cells #[.int .i64 now, .int .i64 base, .int .i64 dn, .int .i64 lv, .int .i64 lf] 27))
    have b2' := Box.new (w.alloc (.cells #[.slice p.la p.ln p.lc, .slice p.na p.nn p.nc, .int .i64 p.sw, .int .i64 p.id, .int .i64 p.ch, .int .i64 p.qu, .int .i64 p.sl, .int .i64 p.pp] 25)) #[.int .i64 now, .int .i64 base, .int .i64 dn, .int .i64 lv, .int .i64 lf] 27
    rw [World.size_alloc] at b2'
    have b2 := Lib.hid b2'
    clear b2'
    go_enter Try.func21, Try.ntmps21
    go_wp2_with fail
    refine (C.out _ (((Below.refl w.heap.size w).alloc (Nat.le_refl _) _).alloc (by simp) _)).mono ?_
    rintro e1 w5 ⟨rfl, k5⟩
    have HB := Lib.hid (below_next (((Below.refl w.heap.size w).alloc (Nat.le_refl _) _).alloc (by simp) _) k5)
    have x1 := (b1.out.next k5).cell
    have x2 := (b2.out.next k5).cell
    clear k5
    go_wp2_with fail
    go_ret
    refine ⟨ret_bool ?_, HB.out⟩
    first | rfl | (simp; done) | (simp; omega)
  by_cases c8 : 0 ≤ lf
  rotate_left
  · have c8' : lf < 0 := by omega
    obtain rfl : b = false := by cases b with
      | false => rfl
      | true => (have h := HM.out.1 rfl; omega)
    clear c8
    have b1 := Lib.hid ((Box.new w #[.slice p.la p.ln p.lc, .slice p.na p.nn p.nc, .int .i64 p.sw, .int .i64 p.id, .int .i64 p.ch, .int .i64 p.qu, .int .i64 p.sl, .int .i64 p.pp] 25).alloc (.cells #[.int .i64 now, .int .i64 base, .int .i64 dn, .int .i64 lv, .int .i64 lf] 27))
    have b2' := Box.new (w.alloc (.cells #[.slice p.la p.ln p.lc, .slice p.na p.nn p.nc, .int .i64 p.sw, .int .i64 p.id, .int .i64 p.ch, .int .i64 p.qu, .int .i64 p.sl, .int .i64 p.pp] 25)) #[.int .i64 now, .int .i64 base, .int .i64 dn, .int .i64 lv, .int .i64 lf] 27
    rw [World.size_alloc] at b2'
    have b2 := Lib.hid b2'
    clear b2'
    go_enter Try.func21, Try.ntmps21
    go_wp2_with fail
    refine (C.out _ (((Below.refl w.heap.size w).alloc (Nat.le_refl _) _).alloc (by simp) _)).mono ?_
    rintro e1 w5 ⟨rfl, k5⟩
    have HB := Lib.hid (below_next (((Below.refl w.heap.size w).alloc (Nat.le_refl _) _).alloc (by simp) _) k5)
    have x1 := (b1.out.next k5).cell
    have x2 := (b2.out.next k5).cell
    clear k5
    go_wp2_with fail
    go_ret
    refine ⟨ret_bool ?_, HB.out⟩
    first | rfl | (simp; done) | (simp; omega)
  by_cases c9 : lf ≤ 2147483648
  rotate_left
  · have c9' : 2147483648 < lf := by omega
    obtain rfl : b = false := by cases b with
      | false => rfl
      | true => (have h := HM.out.1 rfl; omega)
    clear c9
    have b1 := Lib.hid ((Box.new w #[.slice p.la p.ln p.lc, .slice p.na p.nn p.nc, .int .i64 p.sw, .int .i64 p.id, .int .i64 p.ch, .int .i64 p.qu, .int .i64 p.sl, .int .i64 p.pp] 25).alloc (.cells #[.int .i64 now, .int .i64 base, .int .i64 dn, .int .i64 lv, .int .i64 lf] 27))
    have b2' := Box.new (w.alloc (.cells #[.slice p.la p.ln p.lc, .slice p.na p.nn p.nc, .int .i64 p.sw, .int .i64 p.id, .int .i64 p.ch, .int .i64 p.qu, .int .i64 p.sl, .int .i64 p.pp] 25)) #[.int .i64 now, .int .i64 base, .int .i64 dn, .int .i64 lv, .int .i64 lf] 27
    rw [World.size_alloc] at b2'
    have b2 := Lib.hid b2'
    clear b2'
    go_enter Try.func21, Try.ntmps21
    go_wp2_with fail
    refine (C.out _ (((Below.refl w.heap.size w).alloc (Nat.le_refl _) _).alloc (by simp) _)).mono ?_
    rintro e1 w5 ⟨rfl, k5⟩
    have HB := Lib.hid (below_next (((Below.refl w.heap.size w).alloc (Nat.le_refl _) _).alloc (by simp) _) k5)
    have x1 := (b1.out.next k5).cell
    have x2 := (b2.out.next k5).cell
    clear k5
    go_wp2_with fail
    go_ret
    refine ⟨ret_bool ?_, HB.out⟩
    first | rfl | (simp; done) | (simp; omega)
  obtain rfl : b = true := HM.out.2 ⟨rfl, c1, by omega, c3, c4, c5, c6, c7, c8, c9⟩
  have b1 := Lib.hid ((Box.new w #[.slice p.la p.ln p.lc, .slice p.na p.nn p.nc, .int .i64 p.sw, .int .i64 p.id, .int .i64 p.ch, .int .i64 p.qu, .int .i64 p.sl, .int .i64 p.pp] 25).alloc (.cells #[.int .i64 now, .int .i64 base, .int .i64 dn, .int .i64 lv, .int .i64 lf] 27))
  have b2' := Box.new (w.alloc (.cells #[.slice p.la p.ln p.lc, .slice p.na p.nn p.nc, .int .i64 p.sw, .int .i64 p.id, .int .i64 p.ch, .int .i64 p.qu, .int .i64 p.sl, .int .i64 p.pp] 25)) #[.int .i64 now, .int .i64 base, .int .i64 dn, .int .i64 lv, .int .i64 lf] 27
  rw [World.size_alloc] at b2'
  have b2 := Lib.hid b2'
  clear b2'
  go_enter Try.func21, Try.ntmps21
  go_wp2_with fail
  refine (C.out _ (((Below.refl w.heap.size w).alloc (Nat.le_refl _) _).alloc (by simp) _)).mono ?_
  rintro e1 w5 ⟨rfl, k5⟩
  have HB := Lib.hid (below_next (((Below.refl w.heap.size w).alloc (Nat.le_refl _) _).alloc (by simp) _) k5)
  have x1 := (b1.out.next k5).cell
  have x2 := (b2.out.next k5).cell
  clear k5
  go_wp2_with fail
  go_ret
  refine ⟨ret_bool ?_, HB.out⟩
  first | rfl | (simp; done) | (simp; omega)
end Go.Proofs.Ytigknchcjlieoaa.LvlA

import Derived.Test.YtlafeijkpnpdeaaGreatMg13
import Derived.Test.YtlafeijkpnpdeaaGreatMg4
import Derived.Test.YtlafeijkpnpdeaaGreatMg2
import Derived.Test.YtlafeijkpnpdeaaGreatMg5

/- Package level: when all is done, and what it takes; plain, and walked. -/
namespace Go.Proofs.YtlafeijkpnpdeaaGreat.LvlA
open Go.RowKit Base Kit Conf PowA PowB PowC PowR WideB
set_option linter.unusedVariables false
set_option linter.unusedSimpArgs false

/-- where the platform is, and what is left -/
structure X5 where
  (now base dn lv lf : Int)
def MayP (p : PowC) (x : X5) : Prop := (powR p).1 = 0 ∧ 0 ≤ x.lv ∧ x.lv < p.ln ∧ 0 ≤ x.base ∧ x.base ≤ x.now ∧ x.now ≤ 1152921504606846976 ∧ 0 ≤ x.dn ∧ x.dn ≤ 2147483648 ∧ 0 ≤ x.lf ∧ x.lf ≤ 2147483648
instance (p : PowC) (x : X5) : Decidable (MayP p x) := by unfold MayP; infer_instance
structure X5.I (x : X5) : Prop where
  now : I64 x.now
  base : I64 x.base
  dn : I64 x.dn
  lv : I64 x.lv
  lf : I64 x.lf
/-- a platform that may be -/
theorem pow_ok {p : PowC} (h : (powR p).1 = 0) : 1 ≤ p.ln ∧ p.ln ≤ 6 ∧ (∀ j, j < p.ln → lev p.lf j = true) ∧ rest p = true := by
  unfold powR at h
  split at h
  · simp at h
  · split at h
    · simp at h
    · rename_i h1 h2
      have := fb_le (lev p.lf) p.ln
      split at h
      · rename_i h3
        exact ⟨by omega, by omega, fb_iff.1 (by omega), h3⟩
      · simp at h
theorem lev_bd {p : PowC} (h : (powR p).1 = 0) {k : Nat} (hk : k < p.ln) : 1 ≤ p.lf k 0 ∧ p.lf k 0 ≤ 10000 ∧ 0 ≤ p.lf k 1 ∧ p.lf k 1 ≤ 1000000 := by
  have ok := (pow_ok h).2.2.1
  have l := lvB_bd (ok k hk)
  have a := ah_bd k (fun j hj => ok j (by omega))
  omega
theorem rest_bd {p : PowC} (h : (powR p).1 = 0) : (0 ≤ p.sw ∧ p.sw ≤ 100000000) ∧ (0 ≤ p.id ∧ p.id ≤ 1000000) ∧ (0 ≤ p.ch ∧ p.ch ≤ 1000000) ∧ (1 ≤ p.qu ∧ p.qu ≤ 1000000000) ∧ (1 ≤ p.sl ∧ p.sl ≤ 1000000) ∧ (0 ≤ p.pp ∧ p.pp ≤ 100000) ∧ allN p.nf p.nn = true := by
  have r := (pow_ok h).2.2.2
  unfold rest at r
  simp only [Bool.and_eq_true, inB_iff] at r
  obtain ⟨⟨⟨⟨⟨⟨r0, r1⟩, r2⟩, r3⟩, r4⟩, r5⟩, r6⟩ := r
  exact ⟨r1, r2, r3, r4, r5, r6, r0⟩
def tm (f c : Int) : Int := (c * 1000 + (f - 1)) / f
theorem tm_bd {f c : Int} (hf : 1 ≤ f) (h0 : 0 ≤ c) : 0 ≤ tm f c ∧ tm f c ≤ c * 1000 := by
  unfold tm
  refine ⟨Int.ediv_nonneg (by omega) (by omega), ?_⟩
  rw [FitCeil.ceil_le _ _ _ hf]
  have := Int.mul_le_mul_of_nonneg_left hf (show 0 ≤ c * 1000 by omega)
  omega
theorem md_tm {f c : Int} (hf : 1 ≤ f) (h0 : 0 ≤ c) (h1 : c ≤ 4294967296) : md c 1000 f true = (tm f c, 0) := by
  have b := tm_bd hf h0
  unfold md
  have e : mdQ c 1000 f true = tm f c := rfl
  rw [if_neg (by omega), e, if_pos (by omega)]
theorem md_tm' {f c : Int} (hf : 1 ≤ f) (h0 : 0 ≤ c) (h1 : c ≤ 4294967296) : md 1000 c f true = (tm f c, 0) := by
  have b := tm_bd hf h0
  unfold md
  have e : mdQ 1000 c f true = tm f c := by unfold mdQ tm; rw [Int.mul_comm 1000 c]; rfl
  rw [if_neg (by omega), e, if_pos (by omega)]
def fq (p : PowC) (k : Nat) : Int := p.lf k 0
def endP (p : PowC) (x : X5) (k : Nat) : Int := if (k : Int) = x.lv then (if x.now < x.base + tm (p.lf k 0) (x.dn + x.lf) then x.base + tm (p.lf k 0) (x.dn + x.lf) else x.now) else x.now + p.sw + tm (p.lf k 0) x.lf
def costP (p : PowC) (x : X5) (k : Nat) : Int := if (k : Int) = x.lv then p.lf k 1 * (endP p x k - x.now) else p.lf k 1 * (endP p x k - x.now - p.sw) + p.ch * p.sw

set_option maxRecDepth 100000 in
set_option maxHeartbeats 1000000 in
theorem may_any (p : PowC) (x : X5) (w : World) (ok : p.Ok w) (b : Bool) (hb : Hid (decide (MayP p x) = b)) :
    Calls Tryz.prog 29 #[.agg #[.int .i64 x.now, .int .i64 x.base, .int .i64 x.dn, .int .i64 x.lv, .int .i64 x.lf], .agg #[.slice p.la p.ln p.lc, .slice p.na p.nn p.nc, .int .i64 p.sw, .int .i64 p.id, .int .i64 p.ch, .int .i64 p.qu, .int .i64 p.sl, .int .i64 p.pp]] w fun e w' => e = .returned (.bool b) ∧ Below w.heap.size w w' := by
  have hb := hb.out
  obtain ⟨er, e1⟩ : ∃ z, (powR p).1 = z := ⟨_, rfl⟩
  obtain ⟨k, e2⟩ : ∃ z, (powR p).2 = z := ⟨_, rfl⟩
  have hm := ok.lev.out.1
  have C := Lib.hid (fun w1 (h : Below w.heap.size w w1) => power_any p w1 (ok.below h (Nat.le_refl _)) er k (Lib.hid (Prod.ext e1 e2)))
  have hM : b = true ↔ (er = 0 ∧ 0 ≤ x.lv ∧ x.lv < p.ln ∧ 0 ≤ x.base ∧ x.base ≤ x.now ∧ x.now ≤ 1152921504606846976 ∧ 0 ≤ x.dn ∧ x.dn ≤ 2147483648 ∧ 0 ≤ x.lf ∧ x.lf ≤ 2147483648) := by
    rw [← hb, decide_eq_true_iff, ← e1]; rfl
  clear e1 e2 hb
  obtain ⟨now, base, dn, lv, lf⟩ := x
  dsimp only at hM ⊢
  have HM := Lib.hid hM
  clear hM
  by_cases c0 : er = 0
  rotate_left
  · have c0' : (er == 0) = false := by simpa using c0
    obtain rfl : b = false := by cases b with
      | false => rfl
      | true => exact absurd (HM.out.1 rfl).1 c0
    clear c0
    have b1 := Lib.hid ((Box.new w #[.int .i64 now, .int .i64 base, .int .i64 dn, .int .i64 lv, .int .i64 lf] 63).alloc (.cells #[.slice p.la p.ln p.lc, .slice p.na p.nn p.nc, .int .i64 p.sw, .int .i64 p.id, .int .i64 p.ch, .int .i64 p.qu, .int .i64 p.sl, .int .i64 p.pp] 28))
    have b2' := Box.new (w.alloc (.cells #[.int .i64 now, .int .i64 base, .int .i64 dn, .int .i64 lv, .int .i64 lf] 63)) #[.slice p.la p.ln p.lc, .slice p.na p.nn p.nc, .int .i64 p.sw, .int .i64 p.id, .int .i64 p.ch, .int .i64 p.qu, .int .i64 p.sl, .int .i64 p.pp] 28
    rw [World.size_alloc] at b2'
    have b2 := Lib.hid b2'
    clear b2'
    go_enter Tryz.func29, Tryz.ntmps29
    go_wp2_with fail
    refine (C.out _ (((Below.refl w.heap.size w).alloc (Nat.le_refl _) _).alloc (by simp) _)).mono ?_
    rintro e1 w5 ⟨rfl, k5⟩
    have HB := Lib.hid (below_next (((Below.refl w.heap.size w).alloc (Nat.le_refl _) _).alloc (by simp) _) k5)
    have x1 := (b1.out.next k5).cell
    have x2 := (b2.out.next k5).cell
    clear k5
    go_wp2_with fail
    go_ret
    refine ⟨ret_bool ?_, HB.out⟩
    first | rfl | (simp; done) | (simp; omega)
  subst c0
  by_cases c1 : 0 ≤ lv
  rotate_left
  · have c1' : lv < 0 := by omega
    obtain rfl : b = false := by cases b with
      | false => rfl
      | true => (have h := HM.out.1 rfl; omega)
    clear c1
    have b1 := Lib.hid ((Box.new w #[.int .i64 now, .int .i64 base, .int .i64 dn, .int .i64 lv, .int .i64 lf] 63).alloc (.cells #[.slice p.la p.ln p.lc, .slice p.na p.nn p.nc, .int .i64 p.sw, .int .i64 p.id, .int .i64 p.ch, .int .i64 p.qu, .int .i64 p.sl, .int .i64 p.pp] 28))
    have b2' := Box.new (w.alloc (.cells #[.int .i64 now, .int .i64 base, .int .i64 dn, .int .i64 lv, .int .i64 lf] 63)) #[.slice p.la p.ln p.lc, .slice p.na p.nn p.nc, .int .i64 p.sw, .int .i64 p.id, .int .i64 p.ch, .int .i64 p.qu, .int .i64 p.sl, .int .i64 p.pp] 28
    rw [World.size_alloc] at b2'
    have b2 := Lib.hid b2'
    clear b2'
    go_enter Tryz.func29, Tryz.ntmps29
    go_wp2_with fail
    refine (C.out _ (((Below.refl w.heap.size w).alloc (Nat.le_refl _) _).alloc (by simp) _)).mono ?_
    rintro e1 w5 ⟨rfl, k5⟩
    have HB := Lib.hid (below_next (((Below.refl w.heap.size w).alloc (Nat.le_refl _) _).alloc (by simp) _) k5)
    have x1 := (b1.out.next k5).cell
    have x2 := (b2.out.next k5).cell
    clear k5
    go_wp2_with fail
    go_ret
    refine ⟨ret_bool ?_, HB.out⟩
    first | rfl | (simp; done) | (simp; omega)
  by_cases c2 : lv < (p.ln : Int)
  rotate_left
  · have c2' : (p.ln : Int) ≤ lv := by omega
    obtain rfl : b = false := by cases b with
      | false => rfl
      | true => (have h := HM.out.1 rfl; omega)
    clear c2
    have b1 := Lib.hid ((Box.new w #[.int .i64 now, .int .i64 base, .int .i64 dn, .int .i64 lv, .int .i64 lf] 63).alloc (.cells #[.slice p.la p.ln p.lc, .slice p.na p.nn p.nc, .int .i64 p.sw, .int .i64 p.id, .int .i64 p.ch, .int .i64 p.qu, .int .i64 p.sl, .int .i64 p.pp] 28))
    have b2' := Box.new (w.alloc (.cells #[.int .i64 now, .int .i64 base, .int .i64 dn, .int .i64 lv, .int .i64 lf] 63)) #[.slice p.la p.ln p.lc, .slice p.na p.nn p.nc, .int .i64 p.sw, .int .i64 p.id, .int .i64 p.ch, .int .i64 p.qu, .int .i64 p.sl, .int .i64 p.pp] 28
    rw [World.size_alloc] at b2'
    have b2 := Lib.hid b2'
    clear b2'
    go_enter Tryz.func29, Tryz.ntmps29
    go_wp2_with fail
    refine (C.out _ (((Below.refl w.heap.size w).alloc (Nat.le_refl _) _).alloc (by simp) _)).mono ?_
    rintro e1 w5 ⟨rfl, k5⟩
    have HB := Lib.hid (below_next (((Below.refl w.heap.size w).alloc (Nat.le_refl _) _).alloc (by simp) _) k5)
    have x1 := (b1.out.next k5).cell
    have x2 := (b2.out.next k5).cell
    clear k5
    go_wp2_with fail
    go_ret
    refine ⟨ret_bool ?_, HB.out⟩
    first | rfl | (simp; done) | (simp; omega)
  by_cases c3 : 0 ≤ base
  rotate_left
  · have c3' : base < 0 := by omega
    obtain rfl : b = false := by cases b with
      | false => rfl
      | true => (have h := HM.out.1 rfl; omega)
    clear c3
    have b1 := Lib.hid ((Box.new w #[.int .i64 now, .int .i64 base, .int .i64 dn, .int .i64 lv, .int .i64 lf] 63).alloc (.cells #[.slice p.la p.ln p.lc, .slice p.na p.nn p.nc, .int .i64 p.sw, .int .i64 p.id, .int .i64 p.ch, .int .i64 p.qu, .int .i64 p.sl, .int .i64 p.pp] 28))
    have b2' := Box.new (w.alloc (.cells #[.int .i64 now, .int .i64 base, .int .i64 dn, .int .i64 lv, .int .i64 lf] 63)) #[.slice p.la p.ln p.lc, .slice p.na p.nn p.nc, .int .i64 p.sw, .int .i64 p.id, .int .i64 p.ch, .int .i64 p.qu, .int .i64 p.sl, .int .i64 p.pp] 28
    rw [World.size_alloc] at b2'
    have b2 := Lib.hid b2'
    clear b2'
    go_enter Tryz.func29, Tryz.ntmps29
    go_wp2_with fail
    refine (C.out _ (((Below.refl w.heap.size w).alloc (Nat.le_refl _) _).alloc (by simp) _)).mono ?_
    rintro e1 w5 ⟨rfl, k5⟩
    have HB := Lib.hid (below_next (((Below.refl w.heap.size w).alloc (Nat.le_refl _) _).alloc (by simp) _) k5)
    have x1 := (b1.out.next k5).cell
    have x2 := (b2.out.next k5).cell
    clear k5
    go_wp2_with fail
    go_ret
    refine ⟨ret_bool ?_, HB.out⟩
    first | rfl | (simp; done) | (simp; omega)
  by_cases c4 : base ≤ now
  rotate_left
  · have c4' : now < base := by omega
    obtain rfl : b = false := by cases b with
      | false => rfl
      | true => (have h := HM.out.1 rfl; omega)
    clear c4
    have b1 := Lib.hid ((Box.new w #[.int .i64 now, .int .i64 base, .int .i64 dn, .int .i64 lv, .int .i64 lf] 63).alloc (.cells #[.slice p.la p.ln p.lc, .slice p.na p.nn p.nc, .int .i64 p.sw, .int .i64 p.id, .int .i64 p.ch, .int .i64 p.qu, .int .i64 p.sl, .int .i64 p.pp] 28))
    have b2' := Box.new (w.alloc (.cells #[.int .i64 now, .int .i64 base, .int .i64 dn, .int .i64 lv, .int .i64 lf] 63)) #[.slice p.la p.ln p.lc, .slice p.na p.nn p.nc, .int .i64 p.sw, .int .i64 p.id, .int .i64 p.ch, .int .i64 p.qu, .int .i64 p.sl, .int .i64 p.pp] 28
    rw [World.size_alloc] at b2'
    have b2 := Lib.hid b2'
    clear b2'
    go_enter Tryz.func29, Tryz.ntmps29
    go_wp2_with fail
    refine (C.out _ (((Below.refl w.heap.size w).alloc (Nat.le_refl _) _).alloc (by simp) _)).mono ?_
    rintro e1 w5 ⟨rfl, k5⟩
    have HB := Lib.hid (below_next (((Below.refl w.heap.size w).alloc (Nat.le_refl _) _).alloc (by simp) _) k5)
    have x1 := (b1.out.next k5).cell
    have x2 := (b2.out.next k5).cell
    clear k5
    go_wp2_with fail
    go_ret
    refine ⟨ret_bool ?_, HB.out⟩
    first | rfl | (simp; done) | (simp; omega)
  by_cases c5 : now ≤ 1152921504606846976
  rotate_left
  · have c5' : 1152921504606846976 < now := by omega
    obtain rfl : b = false := by cases b with
      | false => rfl
      | true => (have h := HM.out.1 rfl; omega)
    clear c5
    have b1 := Lib.hid ((Box.new w #[.int .i64 now, .int .i64 base, .int .i64 dn, .int .i64 lv, .int .i64 lf] 63).alloc (.cells #[.slice p.la p.ln p.lc, .slice p.na p.nn p.nc, .int .i64 p.sw, .int .i64 p.id, .int .i64 p.ch, .int .i64 p.qu, .int .i64 p.sl, .int .i64 p.pp] 28))
    have b2' := Box.new (w.alloc (.cells #[.int .i64 now, .int .i64 base, .int .i64 dn, .int .i64 lv, .int .i64 lf] 63)) #[.slice p.la p.ln p.lc, .slice p.na p.nn p.nc, .int .i64 p.sw, .int .i64 p.id, .int .i64 p.ch, .int .i64 p.qu, .int .i64 p.sl, .int .i64 p.pp] 28
    rw [World.size_alloc] at b2'
    have b2 := Lib.hid b2'
    clear b2'
    go_enter Tryz.func29, Tryz.ntmps29
    go_wp2_with fail
    refine (C.out _ (((Below.refl w.heap.size w).alloc (Nat.le_refl _) _).alloc (by simp) _)).mono ?_
    rintro e1 w5 ⟨rfl, k5⟩
    have HB := Lib.hid (below_next (((Below.refl w.heap.size w).alloc (Nat.le_refl _) _).alloc (by simp) _) k5)
    have x1 := (b1.out.next k5).cell
    have x2 := (b2.out.next k5).cell
    clear k5
    go_wp2_with fail
    go_ret
    refine ⟨ret_bool ?_, HB.out⟩
    first | rfl | (simp; done) | (simp; omega)
  by_cases c6 : 0 ≤ dn
  rotate_left
  · have c6' : dn < 0 := by omega
    obtain rfl : b = false := by cases b with
      | false => rfl
      | true => (have h := HM.out.1 rfl; omega)
    clear c6
    have b1 := Lib.hid ((Box.new w #[.int .i64 now, .int .i64 base, .int .i64 dn, .int .i64 lv, .int .i64 lf] 63).alloc (.cells #[.slice p.la p.ln p.lc, .slice p.na p.nn p.nc, .int .i64 p.sw, .int .i64 p.id, .int .i64 p.ch, .int .i64 p.qu, .int .i64 p.sl, .int .i64 p.pp] 28))
    have b2' := Box.new (w.alloc (.cells #[.int .i64 now, .int .i64 base, .int .i64 dn, .int .i64 lv, .int .i64 lf] 63)) #[.slice p.la p.ln p.lc, .slice p.na p.nn p.nc, .int .i64 p.sw, .int .i64 p.id, .int .i64 p.ch, .int .i64 p.qu, .int .i64 p.sl, .int .i64 p.pp] 28
    rw [World.size_alloc] at b2'
    have b2 := Lib.hid b2'
    clear b2'
    go_enter Tryz.func29, Tryz.ntmps29
    go_wp2_with fail
    refine (C.out _ (((Below.refl w.heap.size w).alloc (Nat.le_refl _) _).alloc (by simp) _)).mono ?_
    rintro e1 w5 ⟨rfl, k5⟩
    have HB := Lib.hid (below_next (((Below.refl w.heap.size w).alloc (Nat.le_refl _) _).alloc (by simp) _) k5)
    have x1 := (b1.out.next k5).cell
    have x2 := (b2.out.next k5).cell
    clear k5
    go_wp2_with fail
    go_ret
    refine ⟨ret_bool ?_, HB.out⟩
    first | rfl | (simp; done) | (simp; omega)
  by_cases c7 : dn ≤ 2147483648
  rotate_left
  · have c7' : 2147483648 < dn := by omega
    obtain rfl : b = false := by cases b with
      | false => rfl
      | true => (have h := HM.out.1 rfl; omega)
    clear c7
    have b1 := Lib.hid ((Box.new w #[.int .i64 now, .int .i64 base, .int .i64 dn, .int .i64 lv, .int .i64 lf] 63).alloc (.cells #[.slice p.la p.ln p.lc, .slice p.na p.nn p.nc, .int .i64 p.sw, .int .i64 p.id, .int .i64 p.ch, .int .i64 p.qu, .int .i64 p.sl, .int .i64 p.pp] 28))
    have b2' := Box.new (w.alloc (.cells #[.int .i64 now, .int .i64 base, .int .i64 dn, .int .i64 lv, .int .i64 lf] 63)) #[.slice p.la p.ln p.lc, .slice p.na p.nn p.nc, .int .i64 p.sw, .int .i64 p.id, .int .i64 p.ch, .int .i64 p.qu, .int .i64 p.sl, .int .i64 p.pp] 28
    rw [World.size_alloc] at b2'
    have b2 := Lib.hid b2'
    clear b2'
    go_enter Tryz.func29, Tryz.ntmps29
    go_wp2_with fail
    refine (C.out _ (((Below.refl w.heap.size w).alloc (Nat.le_refl _) _).alloc (by simp) _)).mono ?_
    rintro e1 w5 ⟨rfl, k5⟩
    have HB := Lib.hid (below_next (((Below.refl w.heap.size w).alloc (Nat.le_refl _) _).alloc (by simp) _) k5)
    have x1 := (b1.out.next k5).cell
    have x2 := (b2.out.next k5).cell
    clear k5
    go_wp2_with fail
    go_ret
    refine ⟨ret_bool ?_, HB.out⟩
    first | rfl | (simp; done) | (simp; omega)
  by_cases c8 : 0 ≤ lf
  rotate_left
  · have c8' : lf < 0 := by omega
    obtain rfl : b = false := by cases b with
      | false => rfl
      | true => (have h := HM.out.1 rfl; omega)
    clear c8
    have b1 := Lib.hid ((Box.new w #[.int .i64 now, .int .i64 base, .int .i64 dn, .int .i64 lv, .int .i64 lf] 63).alloc (.cells #[.slice p.la p.ln p.lc, .slice p.na p.nn p.nc, .int .i64 p.sw, .int .i64 p.id, .int .i64 p.ch, .int .i64 p.qu, .int .i64 p.sl, .int .i64 p.pp] 28))
    have b2' := Box.new (w.alloc (.cells #[.int .i64 now, .int .i64 base, .int .i64 dn, .int .i64 lv, .int .i64 lf] 63)) #[.slice p.la p.ln p.lc, .slice p.na p.nn p.nc, .int .i64 p.sw, .int .i64 p.id, .int .i64 p.ch, .int .i64 p.qu, .int .i64 p.sl, .int .i64 p.pp] 28
    rw [World.size_alloc] at b2'
    have b2 := Lib.hid b2'
    clear b2'
    go_enter Tryz.func29, Tryz.ntmps29
    go_wp2_with fail
    refine (C.out _ (((Below.refl w.heap.size w).alloc (Nat.le_refl _) _).alloc (by simp) _)).mono ?_
    rintro e1 w5 ⟨rfl, k5⟩
    have HB := Lib.hid (below_next (((Below.refl w.heap.size w).alloc (Nat.le_refl _) _).alloc (by simp) _) k5)
    have x1 := (b1.out.next k5).cell
    have x2 := (b2.out.next k5).cell
    clear k5
    go_wp2_with fail
    go_ret
    refine ⟨ret_bool ?_, HB.out⟩
    first | rfl | (simp; done) | (simp; omega)
  by_cases c9 : lf ≤ 2147483648
  rotate_left
  · have c9' : 2147483648 < lf := by omega
    obtain rfl : b = false := by cases b with
      | false => rfl
      | true => (have h := HM.out.1 rfl; omega)
    clear c9
    have b1 := Lib.hid ((Box.new w #[.int .i64 now, .int .i64 base, .int .i64 dn, .int .i64 lv, .int .i64 lf] 63).alloc (.cells #[.slice p.la p.ln p.lc, .slice p.na p.nn p.nc, .int .i64 p.sw, .int .i64 p.id, .int .i64 p.ch, .int .i64 p.qu, .int .i64 p.sl, .int .i64 p.pp] 28))
    have b2' := Box.new (w.alloc (.cells #[.int .i64 now, .int .i64 base, .int .i64 dn, .int .i64 lv, .int .i64 lf] 63)) #[.slice p.la p.ln p.lc, .slice p.na p.nn p.nc, .int .i64 p.sw, .int .i64 p.id, .int .i64 p.ch, .int .i64 p.qu, .int .i64 p.sl, .int .i64 p.pp] 28
    rw [World.size_alloc] at b2'
    have b2 := Lib.hid b2'
    clear b2'
    go_enter Tryz.func29, Tryz.ntmps29
    go_wp2_with fail
    refine (C.out _ (((Below.refl w.heap.size w).alloc (Nat.le_refl _) _).alloc (by simp) _)).mono ?_
    rintro e1 w5 ⟨rfl, k5⟩
    have HB := Lib.hid (below_next (((Below.refl w.heap.size w).alloc (Nat.le_refl _) _).alloc (by simp) _) k5)
    have x1 := (b1.out.next k5).cell
    have x2 := (b2.out.next k5).cell
    clear k5
    go_wp2_with fail
    go_ret
    refine ⟨ret_bool ?_, HB.out⟩
    first | rfl | (simp; done) | (simp; omega)
  obtain rfl : b = true := HM.out.2 ⟨rfl, c1, by omega, c3, c4, c5, c6, c7, c8, c9⟩
  have b1 := Lib.hid ((Box.new w #[.int .i64 now, .int .i64 base, .int .i64 dn, .int .i64 lv, .int .i64 lf] 63).alloc (.cells #[.slice p.la p.ln p.lc, .slice p.na p.nn p.nc, .int .i64 p.sw, .int .i64 p.id, .int .i64 p.ch, .int .i64 p.qu, .int .i64 p.sl, .int .i64 p.pp] 28))
  have b2' := Box.new (w.alloc (.cells #[.int .i64 now, .int .i64 base, .int .i64 dn, .int .i64 lv, .int .i64 lf] 63)) #[.slice p.la p.ln p.lc, .slice p.na p.nn p.nc, .int .i64 p.sw, .int .i64 p.id, .int .i64 p.ch, .int .i64 p.qu, .int .i64 p.sl, .int .i64 p.pp] 28
  rw [World.size_alloc] at b2'
  have b2 := Lib.hid b2'
  clear b2'
  go_enter Tryz.func29, Tryz.ntmps29
  go_wp2_with fail
  refine (C.out _ (((Below.refl w.heap.size w).alloc (Nat.le_refl _) _).alloc (by simp) _)).mono ?_
  rintro e1 w5 ⟨rfl, k5⟩
  have HB := Lib.hid (below_next (((Below.refl w.heap.size w).alloc (Nat.le_refl _) _).alloc (by simp) _) k5)
  have x1 := (b1.out.next k5).cell
  have x2 := (b2.out.next k5).cell
  clear k5
  go_wp2_with fail
  go_ret
  refine ⟨ret_bool ?_, HB.out⟩
  first | rfl | (simp; done) | (simp; omega)
end Go.Proofs.YtlafeijkpnpdeaaGreat.LvlA

/- Package level: time, end, cost; End, Cost. -/
namespace Go.Proofs.YtlafeijkpnpdeaaGreat.LvlB
open Go.RowKit Base Kit Conf PowA PowB PowC PowR WideB LvlA
set_option linter.unusedVariables false
set_option linter.unusedSimpArgs false

theorem keepc {W w1 : World} {b : Nat} {vs : Array Value} (hb : Below W.heap.size W w1) (hlt : b < W.heap.size) (h : ∀ i, W.cell? ⟨b, i, none⟩ = vs[i]?) : ∀ i, w1.cell? ⟨b, i, none⟩ = vs[i]? := fun i => (hb.cell (p := ⟨b, i, none⟩) hlt).trans (h i)
theorem time_any (f q c : Int) (w : World) (h0 : 0 ≤ c) (h1 : c ≤ 4294967296) (hf : 1 ≤ f) (hf' : f ≤ 10000) :
    Calls Tryz.prog 46 #[.agg #[.int .i64 f, .int .i64 q], .int .i64 c] w fun e w' => e = .returned (.int .i64 (tm f c)) ∧ Below w.heap.size w w' := by
  have C := Lib.hid (fun w => md_any c 1000 f true w (by omega) (by omega) (by omega) (by omega) (by omega) (by omega))
  rw [md_tm hf h0 h1] at C
  go_enter Tryz.func46, Tryz.ntmps46
  go_wp2_with fail
  refine (C.out _).mono ?_
  rintro e1 w5 ⟨rfl, k5⟩
  have HB := Lib.hid (below_in _ k5)
  clear k5
  go_wp2_with fail
  go_ret
  exact ⟨rfl, HB.out⟩
/-- the two blocks of a call by value, and a level's cells -/
structure Two (w0 w : World) (i j : Nat) (A B : Array Value) (T U : TypeId) (b o : Nat) (f q : Int) : Prop where
  bel : Below w0.heap.size w0 w
  one : Box w i A T
  two : Box w j B U
  c0 : w.cell? ⟨b, o, none⟩ = some (.int .i64 f)
  c1 : w.cell? ⟨b, o + 1, none⟩ = some (.int .i64 q)
theorem two_next {w0 w w1 : World} {i j : Nat} {A B : Array Value} {T U : TypeId} {b o : Nat} {f q : Int} (h : Hid (Two w0 w i j A B T U b o f q)) (k : Below w.heap.size w w1) : Hid (Two w0 w1 i j A B T U b o f q) :=
  Lib.hid ⟨below_next h.out.bel k, h.out.one.next k, h.out.two.next k, keep' k h.out.c0, keep' k h.out.c1⟩
theorem two_in (w : World) (A B : Array Value) (T U : TypeId) {b o : Nat} {f q : Int} (c0 : w.cell? ⟨b, o, none⟩ = some (.int .i64 f)) (c1 : w.cell? ⟨b, o + 1, none⟩ = some (.int .i64 q)) : Hid (Two w ((w.alloc (.cells A T)).alloc (.cells B U)) w.heap.size (w.heap.size + 1) A B T U b o f q) := by
  have b2 := Box.new (w.alloc (.cells A T)) B U
  rw [World.size_alloc] at b2
  have k : Below w.heap.size w ((w.alloc (.cells A T)).alloc (.cells B U)) := ((Below.refl _ _).alloc (Nat.le_refl _) _).alloc (by simp) _
  exact Lib.hid ⟨k, (Box.new w A T).alloc _, b2, keep' k c0, keep' k c1⟩
theorem two_rules {w0 w : World} {i j : Nat} {A B : Array Value} {T U : TypeId} {b o : Nat} {f q : Int} (h : Hid (Two w0 w i j A B T U b o f q)) :
    (∀ m, w.cell? ⟨i, m, none⟩ = A[m]?) ∧ (∀ m, w.cell? ⟨j, m, none⟩ = B[m]?) ∧ w.cell? ⟨b, o, none⟩ = some (.int .i64 f) ∧ w.cell? ⟨b, o + 1, none⟩ = some (.int .i64 q) := ⟨h.out.one.cell, h.out.two.cell, h.out.c0, h.out.c1⟩
set_option maxRecDepth 100000 in
set_option maxHeartbeats 2000000 in
theorem end_any (p : PowC) (x : X5) (w : World) (ok : p.Ok w) (may : MayP p x) (k : Nat) (hk : k < p.ln) (r : Int) (hr : Hid (endP p x k = r)) :
    Calls Tryz.prog 30 #[.agg #[.int .i64 x.now, .int .i64 x.base, .int .i64 x.dn, .int .i64 x.lv, .int .i64 x.lf], .agg #[.slice p.la p.ln p.lc, .slice p.na p.nn p.nc, .int .i64 p.sw, .int .i64 p.id, .int .i64 p.ch, .int .i64 p.qu, .int .i64 p.sl, .int .i64 p.pp], .int .i64 (k : Int)] w fun e w' => e = .returned (.int .i64 r) ∧ Below w.heap.size w w' := by
  obtain ⟨b, off, ea, hbl, c0, c1, i0, i1⟩ := rows_at2 ok.lev k hk
  have hm := ok.lev.out.1
  obtain ⟨f0, f1, q0, q1⟩ := lev_bd may.1 hk
  obtain ⟨⟨s0, s1⟩, -, ⟨g0, g1⟩, -⟩ := rest_bd may.1
  obtain ⟨-, m1, m2, m3, m4, m5, m6, m7, m8, m9⟩ := may
  have hki : (k : Int) < (p.ln : Int) := by omega
  obtain ⟨now, base, dn, lv, lf⟩ := x
  dsimp only at m1 m2 m3 m4 m5 m6 m7 m8 m9
  have hr := hr.out
  unfold endP at hr
  dsimp only at hr ⊢
  generalize p.lf k 0 = f at *
  generalize p.lf k 1 = q at *
  have S : Hid (Two w _ _ _ _ _ _ _ b (off + k * 2) f q) := two_in w #[.int .i64 now, .int .i64 base, .int .i64 dn, .int .i64 lv, .int .i64 lf] #[.slice p.la p.ln p.lc, .slice p.na p.nn p.nc, .int .i64 p.sw, .int .i64 p.id, .int .i64 p.ch, .int .i64 p.qu, .int .i64 p.sl, .int .i64 p.pp] 63 28 c0 c1
  rw [ea] at S ⊢
  clear ea c0 c1 i0 i1
  by_cases hl : (k : Int) = lv
  · rw [if_pos hl] at hr
    subst hl
    obtain ⟨t0, t1⟩ := tm_bd f0 (show 0 ≤ dn + lf by omega)
    have C := Lib.hid (fun w => time_any f q (dn + lf) w (by omega) (by omega) f0 f1)
    obtain ⟨T, hT⟩ : ∃ T, tm f (dn + lf) = T := ⟨_, rfl⟩
    rw [hT] at t0 t1 C hr
    have HR := Lib.hid hr
    clear hT hr
    go_enter Tryz.func30, Tryz.ntmps30
    go_wp2_with fail
    have hw1 : IntKind.i64.wrap (dn + lf) = dn + lf := IntWalk.i64_in _ (by omega)
    have hw2 : IntKind.i64.wrap (base + T) = base + T := IntWalk.i64_in _ (by omega)
    generalize (w.alloc (.cells #[.int .i64 now, .int .i64 base, .int .i64 dn, .int .i64 (k : Int), .int .i64 lf] 63)).alloc (.cells #[.slice (some ⟨b, off, none⟩) p.ln p.lc, .slice p.na p.nn p.nc, .int .i64 p.sw, .int .i64 p.id, .int .i64 p.ch, .int .i64 p.qu, .int .i64 p.sl, .int .i64 p.pp] 28) = W at S ⊢
    have S := two_next S ((Below.refl W.heap.size W).drew)
    have bd := two_rules S
    go_region_held3 (fun w' => (∀ m, w'.cell? ⟨w.heap.size, m, none⟩ = (#[.int .i64 now, .int .i64 base, .int .i64 dn, .int .i64 (k : Int), .int .i64 lf] : Array Value)[m]?) ∧ (∀ m, w'.cell? ⟨w.heap.size + 1, m, none⟩ = (#[.slice (some ⟨b, off, none⟩) p.ln p.lc, .slice p.na p.nn p.nc, .int .i64 p.sw, .int .i64 p.id, .int .i64 p.ch, .int .i64 p.qu, .int .i64 p.sl, .int .i64 p.pp] : Array Value)[m]?) ∧ w'.cell? ⟨b, off + k * 2, none⟩ = some (.int .i64 f) ∧ w'.cell? ⟨b, off + k * 2 + 1, none⟩ = some (.int .i64 q))
      (first
        | exact bd
        | exact r5)
      (first
        | (go_at_call 46; refine (C.out _).mono ?_; rintro e1 w5 ⟨rfl, k5⟩; have S5 := two_next S k5; have r5 := two_rules S5; clear k5))
    all_goals
      clear bd r5 hw1 hw2
      go_wp2_with fail
    all_goals
      go_ret
      refine ⟨Kit.ret_int ?_, S5.out.bel⟩
      rw [← HR.out]
      (repeat' split) <;> omega
  · rw [if_neg hl] at hr
    have hl' : ((k : Int) == lv) = false := by simpa using hl
    obtain ⟨t0, t1⟩ := tm_bd f0 (show 0 ≤ lf by omega)
    have C := Lib.hid (fun w => time_any f q lf w (by omega) (by omega) f0 f1)
    obtain ⟨T, hT⟩ : ∃ T, tm f lf = T := ⟨_, rfl⟩
    rw [hT] at t0 t1 C hr
    have HR := Lib.hid hr
    clear hT hr hl
    go_enter Tryz.func30, Tryz.ntmps30
    go_wp2_with fail
    have hw1 : IntKind.i64.wrap (now + p.sw) = now + p.sw := IntWalk.i64_in _ (by omega)
    have hw2 : IntKind.i64.wrap (now + p.sw + T) = now + p.sw + T := IntWalk.i64_in _ (by omega)
    generalize (w.alloc (.cells #[.int .i64 now, .int .i64 base, .int .i64 dn, .int .i64 lv, .int .i64 lf] 63)).alloc (.cells #[.slice (some ⟨b, off, none⟩) p.ln p.lc, .slice p.na p.nn p.nc, .int .i64 p.sw, .int .i64 p.id, .int .i64 p.ch, .int .i64 p.qu, .int .i64 p.sl, .int .i64 p.pp] 28) = W at S ⊢
    have S := two_next S ((Below.refl W.heap.size W).drew)
    have bd := two_rules S
    go_region_held3 (fun w' => (∀ m, w'.cell? ⟨w.heap.size, m, none⟩ = (#[.int .i64 now, .int .i64 base, .int .i64 dn, .int .i64 lv, .int .i64 lf] : Array Value)[m]?) ∧ (∀ m, w'.cell? ⟨w.heap.size + 1, m, none⟩ = (#[.slice (some ⟨b, off, none⟩) p.ln p.lc, .slice p.na p.nn p.nc, .int .i64 p.sw, .int .i64 p.id, .int .i64 p.ch, .int .i64 p.qu, .int .i64 p.sl, .int .i64 p.pp] : Array Value)[m]?) ∧ w'.cell? ⟨b, off + k * 2, none⟩ = some (.int .i64 f) ∧ w'.cell? ⟨b, off + k * 2 + 1, none⟩ = some (.int .i64 q))
      (first
        | exact bd
        | exact r5)
      (first
        | (go_at_call 46; refine (C.out _).mono ?_; rintro e1 w5 ⟨rfl, k5⟩; have S5 := two_next S k5; have r5 := two_rules S5; clear k5))
    all_goals
      clear bd r5 hw1 hw2
      go_wp2_with fail
      go_ret
      exact ⟨Kit.ret_int HR.out, S5.out.bel⟩
end Go.Proofs.YtlafeijkpnpdeaaGreat.LvlB

/- Package level: cost; End, Cost. -/
namespace Go.Proofs.YtlafeijkpnpdeaaGreat.LvlC
open Go.RowKit Base Kit Conf PowA PowB PowC PowR WideB LvlA LvlB
set_option linter.unusedVariables false
set_option linter.unusedSimpArgs false

theorem endP_bd {p : PowC} {x : X5} (may : MayP p x) {k : Nat} (hk : k < p.ln) : x.now ≤ endP p x k ∧ ((k : Int) = x.lv → endP p x k - x.now ≤ 4294967296000) ∧ ((k : Int) ≠ x.lv → x.now + p.sw ≤ endP p x k ∧ endP p x k - x.now - p.sw ≤ 2147483648000) := by
  obtain ⟨f0, f1, q0, q1⟩ := lev_bd may.1 hk
  obtain ⟨⟨s0, s1⟩, -⟩ := rest_bd may.1
  obtain ⟨-, m1, m2, m3, m4, m5, m6, m7, m8, m9⟩ := may
  obtain ⟨t0, t1⟩ := tm_bd f0 (show 0 ≤ x.dn + x.lf by omega)
  obtain ⟨t2, t3⟩ := tm_bd f0 (show 0 ≤ x.lf by omega)
  unfold endP
  by_cases h : (k : Int) = x.lv
  · rw [if_pos h]
    split <;> exact ⟨by omega, fun _ => by omega, fun h' => absurd h h'⟩
  · rw [if_neg h]
    exact ⟨by omega, fun h' => absurd h' h, fun _ => ⟨by omega, by omega⟩⟩
theorem mul_bd {q D M : Int} (q0 : 0 ≤ q) (q1 : q ≤ 1000000) (d0 : 0 ≤ D) (d1 : D ≤ M) : 0 ≤ q * D ∧ q * D ≤ 1000000 * M := by
  refine ⟨Int.mul_nonneg q0 d0, ?_⟩
  exact Int.le_trans (Int.mul_le_mul_of_nonneg_right q1 d0) (Int.mul_le_mul_of_nonneg_left d1 (by omega))
def endR (p : PowC) (x : X5) (tt : Int) : Int × Int := if MayP p x ∧ 0 ≤ tt ∧ tt < p.ln then (endP p x tt.toNat, 0) else (0, 2)
def costR (p : PowC) (x : X5) (tt : Int) : Int × Int := if MayP p x ∧ 0 ≤ tt ∧ tt < p.ln then (costP p x tt.toNat, 0) else (0, 2)
set_option maxRecDepth 100000 in
set_option maxHeartbeats 1000000 in
theorem End_any (p : PowC) (x : X5) (tt : Int) (w : World) (ok : p.Ok w) (r : Int × Int) (hr : Hid (endR p x tt = r)) :
    Calls Tryz.prog 16 #[.agg #[.slice p.la p.ln p.lc, .slice p.na p.nn p.nc, .int .i64 p.sw, .int .i64 p.id, .int .i64 p.ch, .int .i64 p.qu, .int .i64 p.sl, .int .i64 p.pp], .agg #[.int .i64 x.now, .int .i64 x.base, .int .i64 x.dn, .int .i64 x.lv, .int .i64 x.lf], .int .i64 tt] w fun e w' => e = .returned (.tuple #[.int .i64 r.1, .int .i64 r.2]) ∧ Below w.heap.size w w' := by
  have hc := hr.out
  clear hr
  unfold endR at hc
  have hm := ok.lev.out.1
  by_cases may : MayP p x
  rotate_left
  · rw [if_neg (fun h => may h.1)] at hc
    subst hc
    have C := Lib.hid (fun w1 (h : Below w.heap.size w w1) => may_any p x w1 (ok.below h (Nat.le_refl _)) false (Lib.hid (decide_eq_false may)))
    clear may
    have b1 := Lib.hid ((Box.new w #[.slice p.la p.ln p.lc, .slice p.na p.nn p.nc, .int .i64 p.sw, .int .i64 p.id, .int .i64 p.ch, .int .i64 p.qu, .int .i64 p.sl, .int .i64 p.pp] 28).alloc (.cells #[.int .i64 x.now, .int .i64 x.base, .int .i64 x.dn, .int .i64 x.lv, .int .i64 x.lf] 63))
    have b2' := Box.new (w.alloc (.cells #[.slice p.la p.ln p.lc, .slice p.na p.nn p.nc, .int .i64 p.sw, .int .i64 p.id, .int .i64 p.ch, .int .i64 p.qu, .int .i64 p.sl, .int .i64 p.pp] 28)) #[.int .i64 x.now, .int .i64 x.base, .int .i64 x.dn, .int .i64 x.lv, .int .i64 x.lf] 63
    rw [World.size_alloc] at b2'
    have b2 := Lib.hid b2'
    clear b2'
    have bb := Lib.hid (((Below.refl w.heap.size w).alloc (Nat.le_refl _) (.cells #[.slice p.la p.ln p.lc, .slice p.na p.nn p.nc, .int .i64 p.sw, .int .i64 p.id, .int .i64 p.ch, .int .i64 p.qu, .int .i64 p.sl, .int .i64 p.pp] 28)).alloc (by simp) (.cells #[.int .i64 x.now, .int .i64 x.base, .int .i64 x.dn, .int .i64 x.lv, .int .i64 x.lf] 63))
    go_enter Tryz.func16, Tryz.ntmps16
    go_wp2_with fail
    refine (C.out _ bb.out).mono ?_
    rintro e1 w5 ⟨rfl, k5⟩
    have HB := Lib.hid (below_next bb.out k5)
    clear k5
    go_wp2_with fail
    go_ret2
    exact ⟨rfl, HB.out⟩
  have C := Lib.hid (fun w1 (h : Below w.heap.size w w1) => may_any p x w1 (ok.below h (Nat.le_refl _)) true (Lib.hid (decide_eq_true may)))
  by_cases c1 : 0 ≤ tt
  rotate_left
  · rw [if_neg (fun h => c1 h.2.1)] at hc
    subst hc
    have c1' : tt < 0 := by omega
    clear may c1
    have b1 := Lib.hid ((Box.new w #[.slice p.la p.ln p.lc, .slice p.na p.nn p.nc, .int .i64 p.sw, .int .i64 p.id, .int .i64 p.ch, .int .i64 p.qu, .int .i64 p.sl, .int .i64 p.pp] 28).alloc (.cells #[.int .i64 x.now, .int .i64 x.base, .int .i64 x.dn, .int .i64 x.lv, .int .i64 x.lf] 63))
    have b2' := Box.new (w.alloc (.cells #[.slice p.la p.ln p.lc, .slice p.na p.nn p.nc, .int .i64 p.sw, .int .i64 p.id, .int .i64 p.ch, .int .i64 p.qu, .int .i64 p.sl, .int .i64 p.pp] 28)) #[.int .i64 x.now, .int .i64 x.base, .int .i64 x.dn, .int .i64 x.lv, .int .i64 x.lf] 63
    rw [World.size_alloc] at b2'
    have b2 := Lib.hid b2'
    clear b2'
    have bb := Lib.hid (((Below.refl w.heap.size w).alloc (Nat.le_refl _) (.cells #[.slice p.la p.ln p.lc, .slice p.na p.nn p.nc, .int .i64 p.sw, .int .i64 p.id, .int .i64 p.ch, .int .i64 p.qu, .int .i64 p.sl, .int .i64 p.pp] 28)).alloc (by simp) (.cells #[.int .i64 x.now, .int .i64 x.base, .int .i64 x.dn, .int .i64 x.lv, .int .i64 x.lf] 63))
    go_enter Tryz.func16, Tryz.ntmps16
    go_wp2_with fail
    refine (C.out _ bb.out).mono ?_
    rintro e1 w5 ⟨rfl, k5⟩
    have HB := Lib.hid (below_next bb.out k5)
    clear k5
    go_wp2_with fail
    go_ret2
    exact ⟨rfl, HB.out⟩
  by_cases c2 : tt < (p.ln : Int)
  rotate_left
  · rw [if_neg (fun h => c2 h.2.2)] at hc
    subst hc
    have c2' : (p.ln : Int) ≤ tt := by omega
    clear may c2
    have b1 := Lib.hid ((Box.new w #[.slice p.la p.ln p.lc, .slice p.na p.nn p.nc, .int .i64 p.sw, .int .i64 p.id, .int .i64 p.ch, .int .i64 p.qu, .int .i64 p.sl, .int .i64 p.pp] 28).alloc (.cells #[.int .i64 x.now, .int .i64 x.base, .int .i64 x.dn, .int .i64 x.lv, .int .i64 x.lf] 63))
    have b2' := Box.new (w.alloc (.cells #[.slice p.la p.ln p.lc, .slice p.na p.nn p.nc, .int .i64 p.sw, .int .i64 p.id, .int .i64 p.ch, .int .i64 p.qu, .int .i64 p.sl, .int .i64 p.pp] 28)) #[.int .i64 x.now, .int .i64 x.base, .int .i64 x.dn, .int .i64 x.lv, .int .i64 x.lf] 63
    rw [World.size_alloc] at b2'
    have b2 := Lib.hid b2'
    clear b2'
    have bb := Lib.hid (((Below.refl w.heap.size w).alloc (Nat.le_refl _) (.cells #[.slice p.la p.ln p.lc, .slice p.na p.nn p.nc, .int .i64 p.sw, .int .i64 p.id, .int .i64 p.ch, .int .i64 p.qu, .int .i64 p.sl, .int .i64 p.pp] 28)).alloc (by simp) (.cells #[.int .i64 x.now, .int .i64 x.base, .int .i64 x.dn, .int .i64 x.lv, .int .i64 x.lf] 63))
    go_enter Tryz.func16, Tryz.ntmps16
    go_wp2_with fail
    refine (C.out _ bb.out).mono ?_
    rintro e1 w5 ⟨rfl, k5⟩
    have HB := Lib.hid (below_next bb.out k5)
    have x1 := (b1.out.next k5).cell
    clear k5
    go_wp2_with fail
    go_ret2
    exact ⟨rfl, HB.out⟩
  rw [if_pos ⟨may, c1, c2⟩] at hc
  subst hc
  obtain ⟨k, rfl⟩ : ∃ k : Nat, tt = (k : Int) := ⟨tt.toNat, by omega⟩
  rw [Int.toNat_natCast]
  obtain ⟨E, hE⟩ : ∃ E, endP p x k = E := ⟨_, rfl⟩
  rw [hE]
  have D := Lib.hid (fun w1 (h : Below w.heap.size w w1) => end_any p x w1 (ok.below h (Nat.le_refl _)) may k (by omega) E (Lib.hid hE))
  clear may hE
  have b1 := Lib.hid ((Box.new w #[.slice p.la p.ln p.lc, .slice p.na p.nn p.nc, .int .i64 p.sw, .int .i64 p.id, .int .i64 p.ch, .int .i64 p.qu, .int .i64 p.sl, .int .i64 p.pp] 28).alloc (.cells #[.int .i64 x.now, .int .i64 x.base, .int .i64 x.dn, .int .i64 x.lv, .int .i64 x.lf] 63))
  have b2' := Box.new (w.alloc (.cells #[.slice p.la p.ln p.lc, .slice p.na p.nn p.nc, .int .i64 p.sw, .int .i64 p.id, .int .i64 p.ch, .int .i64 p.qu, .int .i64 p.sl, .int .i64 p.pp] 28)) #[.int .i64 x.now, .int .i64 x.base, .int .i64 x.dn, .int .i64 x.lv, .int .i64 x.lf] 63
  rw [World.size_alloc] at b2'
  have b2 := Lib.hid b2'
  clear b2'
  have bb := Lib.hid (((Below.refl w.heap.size w).alloc (Nat.le_refl _) (.cells #[.slice p.la p.ln p.lc, .slice p.na p.nn p.nc, .int .i64 p.sw, .int .i64 p.id, .int .i64 p.ch, .int .i64 p.qu, .int .i64 p.sl, .int .i64 p.pp] 28)).alloc (by simp) (.cells #[.int .i64 x.now, .int .i64 x.base, .int .i64 x.dn, .int .i64 x.lv, .int .i64 x.lf] 63))
  go_enter Tryz.func16, Tryz.ntmps16
  go_wp2_with fail
  refine (C.out _ bb.out).mono ?_
  rintro e1 w5 ⟨rfl, k5⟩
  have HB := Lib.hid (below_next bb.out k5)
  have x1 := (b1.out.next k5).cell
  have x2 := (b2.out.next k5).cell
  clear k5
  go_wp2_with (go_at_call 30; refine (D.out _ HB.out).mono ?_; rintro e1 w6 ⟨rfl, k6⟩; have HB2 := Lib.hid (below_next HB.out k6); clear k6)
  go_ret2
  exact ⟨rfl, HB2.out⟩
end Go.Proofs.YtlafeijkpnpdeaaGreat.LvlC

/- The reference of level: End, Cost. -/
namespace Go.Proofs.YtlafeijkpnpdeaaGreat.LvlD
open Go.RowKit Base Kit Conf PowA PowB PowC PowR WideB LvlA LvlB LvlC
set_option linter.unusedVariables false
set_option linter.unusedSimpArgs false

end Go.Proofs.YtlafeijkpnpdeaaGreat.LvlD

/- The reference of level: Cost. -/
namespace Go.Proofs.YtlafeijkpnpdeaaGreat.LvlE
open Go.RowKit Base Kit Conf PowA PowB PowC PowR WideB LvlA LvlB LvlC LvlD
set_option linter.unusedVariables false
set_option linter.unusedSimpArgs false

end Go.Proofs.YtlafeijkpnpdeaaGreat.LvlE

/- Package nap: may, room, counts, Counts; plain, and walked. -/
namespace Go.Proofs.YtlafeijkpnpdeaaGreat.NapA
open Go.RowKit Base Kit Conf PowA PowB PowC PowR WideB LvlA OscPlain OscZ
set_option linter.unusedVariables false
set_option linter.unusedSimpArgs false

def MayN (p : PowC) (now en : Int) : Prop := (powR p).1 = 0 ∧ 0 ≤ now ∧ now ≤ en ∧ en ≤ 1152921504606846976
instance (p : PowC) (now en : Int) : Decidable (MayN p now en) := by unfold MayN; infer_instance
def roomN (p : PowC) (k : Nat) (now en : Int) : Int := en - now - p.nf k 1 - p.nf k 2
def cntN (p : PowC) (k : Nat) (now en : Int) : Int := if roomN p k now en < 0 then 0 else cnt p.sl (-p.pp) (roomN p k now en)
def CntR (p : PowC) (t now en : Int) : Int := if MayN p now en ∧ 0 ≤ t ∧ t < p.nn then cntN p t.toNat now en else 0
theorem nap_bd {p : PowC} (h : (powR p).1 = 0) {k : Nat} (hk : k < p.nn) : (0 ≤ p.nf k 0 ∧ p.nf k 0 ≤ 1000000) ∧ (0 ≤ p.nf k 1 ∧ p.nf k 1 ≤ 100000000) ∧ (0 ≤ p.nf k 2 ∧ p.nf k 2 ≤ 100000000) := by
  have := (rest_bd h).2.2.2.2.2.2
  unfold allN at this
  rw [Bool.and_eq_true, decide_eq_true_iff, decide_eq_true_iff] at this
  have := fb_iff.1 this.2 k hk
  unfold nap npB at this
  simp only [Bool.and_eq_true, inB_iff] at this
  exact ⟨this.1.1, this.1.2, this.2⟩
theorem nap_few {p : PowC} (h : (powR p).1 = 0) : p.nn ≤ 4 := by
  have := (rest_bd h).2.2.2.2.2.2
  unfold allN at this
  rw [Bool.and_eq_true, decide_eq_true_iff] at this
  exact this.1
theorem slow_ok {p : PowC} (h : (powR p).1 = 0) {d : Int} (h1 : -p.pp ≤ d) (h2 : d ≤ p.pp) : ¬ bad p.sl d := by
  have := rest_bd h
  unfold bad
  omega
theorem room_bd {p : PowC} {now en : Int} (may : MayN p now en) {k : Nat} (hk : k < p.nn) : roomN p k now en ≤ en - now ∧ -200000000 ≤ roomN p k now en := by
  have := nap_bd may.1 hk
  have m := may.2
  unfold roomN
  omega
theorem sf_cnt {p : PowC} (h : (powR p).1 = 0) {ns : Int} (h0 : 0 ≤ ns) : cn p.sl (-p.pp) ns = (cnt p.sl (-p.pp) ns, 0) := by
  have b := rest_bd h
  unfold cn
  rw [if_neg]
  intro h'
  rcases h' with h' | h'
  · exact slow_ok h (d := -p.pp) (by omega) (by omega) h'
  · omega

set_option maxRecDepth 100000 in
set_option maxHeartbeats 1000000 in
theorem may_any (p : PowC) (now en : Int) (w : World) (ok : p.Ok w) (b : Bool) (hb : Hid (decide (MayN p now en) = b)) :
    Calls Tryz.prog 123 #[.agg #[.slice p.la p.ln p.lc, .slice p.na p.nn p.nc, .int .i64 p.sw, .int .i64 p.id, .int .i64 p.ch, .int .i64 p.qu, .int .i64 p.sl, .int .i64 p.pp], .int .i64 now, .int .i64 en] w fun e w' => e = .returned (.bool b) ∧ Below w.heap.size w w' := by
  have hb := hb.out
  obtain ⟨er, e1⟩ : ∃ z, (powR p).1 = z := ⟨_, rfl⟩
  obtain ⟨k, e2⟩ : ∃ z, (powR p).2 = z := ⟨_, rfl⟩
  have C := Lib.hid (fun w1 (h : Below w.heap.size w w1) => power_any p w1 (ok.below h (Nat.le_refl _)) er k (Lib.hid (Prod.ext e1 e2)))
  have hM : b = true ↔ (er = 0 ∧ 0 ≤ now ∧ now ≤ en ∧ en ≤ 1152921504606846976) := by
    rw [← hb, decide_eq_true_iff, ← e1]; rfl
  clear e1 e2 hb
  have HM := Lib.hid hM
  clear hM
  by_cases c0 : er = 0
  rotate_left
  · have c0' : (er == 0) = false := by simpa using c0
    obtain rfl : b = false := by cases b with
      | false => rfl
      | true => exact absurd (HM.out.1 rfl).1 c0
    clear c0
    have S := pst_in w p
    go_enter Tryz.func123, Tryz.ntmps123
    go_wp2_with fail
    refine (C.out _ S.out.bel).mono ?_
    rintro e1 w5 ⟨rfl, k5⟩
    have S := pst_next S k5
    have x1 := S.out.box.cell
    clear k5
    go_wp2_with fail
    go_ret
    refine ⟨ret_bool ?_, S.out.bel⟩
    first | rfl | (simp; done) | (simp; omega)
  subst c0
  by_cases c3 : 0 ≤ now
  rotate_left
  · have c3' : now < 0 := by omega
    obtain rfl : b = false := by cases b with
      | false => rfl
      | true => (have h := HM.out.1 rfl; omega)
    clear c3
    have S := pst_in w p
    go_enter Tryz.func123, Tryz.ntmps123
    go_wp2_with fail
    refine (C.out _ S.out.bel).mono ?_
    rintro e1 w5 ⟨rfl, k5⟩
    have S := pst_next S k5
    have x1 := S.out.box.cell
    clear k5
    go_wp2_with fail
    go_ret
    refine ⟨ret_bool ?_, S.out.bel⟩
    first | rfl | (simp; done) | (simp; omega)
  by_cases c4 : now ≤ en
  rotate_left
  · have c4' : en < now := by omega
    obtain rfl : b = false := by cases b with
      | false => rfl
      | true => (have h := HM.out.1 rfl; omega)
    clear c4
    have S := pst_in w p
    go_enter Tryz.func123, Tryz.ntmps123
    go_wp2_with fail
    refine (C.out _ S.out.bel).mono ?_
    rintro e1 w5 ⟨rfl, k5⟩
    have S := pst_next S k5
    have x1 := S.out.box.cell
    clear k5
    go_wp2_with fail
    go_ret
    refine ⟨ret_bool ?_, S.out.bel⟩
    first | rfl | (simp; done) | (simp; omega)
  by_cases c5 : en ≤ 1152921504606846976
  rotate_left
  · have c5' : 1152921504606846976 < en := by omega
    obtain rfl : b = false := by cases b with
      | false => rfl
      | true => (have h := HM.out.1 rfl; omega)
    clear c5
    have S := pst_in w p
    go_enter Tryz.func123, Tryz.ntmps123
    go_wp2_with fail
    refine (C.out _ S.out.bel).mono ?_
    rintro e1 w5 ⟨rfl, k5⟩
    have S := pst_next S k5
    have x1 := S.out.box.cell
    clear k5
    go_wp2_with fail
    go_ret
    refine ⟨ret_bool ?_, S.out.bel⟩
    first | rfl | (simp; done) | (simp; omega)
  obtain rfl : b = true := HM.out.2 ⟨rfl, c3, c4, c5⟩
  have S := pst_in w p
  go_enter Tryz.func123, Tryz.ntmps123
  go_wp2_with fail
  refine (C.out _ S.out.bel).mono ?_
  rintro e1 w5 ⟨rfl, k5⟩
  have S := pst_next S k5
  have x1 := S.out.box.cell
  clear k5
  go_wp2_with fail
  go_ret
  refine ⟨ret_bool ?_, S.out.bel⟩
  first | rfl | (simp; done) | (simp; omega)
set_option maxRecDepth 100000 in
set_option maxHeartbeats 1000000 in
theorem mayr_any (p : PowC) (now en : Int) (w : World) (ok : p.Ok w) (b : Bool) (hb : Hid (decide (MayN p now en) = b)) :
    Calls Tryz.prog 92 #[.agg #[.slice p.la p.ln p.lc, .slice p.na p.nn p.nc, .int .i64 p.sw, .int .i64 p.id, .int .i64 p.ch, .int .i64 p.qu, .int .i64 p.sl, .int .i64 p.pp], .int .i64 now, .int .i64 en] w fun e w' => e = .returned (.bool b) ∧ Below w.heap.size w w' := by
  have hb := hb.out
  obtain ⟨er, e1⟩ : ∃ z, (powR p).1 = z := ⟨_, rfl⟩
  obtain ⟨k, e2⟩ : ∃ z, (powR p).2 = z := ⟨_, rfl⟩
  have C := Lib.hid (fun w1 (h : Below w.heap.size w w1) => powerr_any p w1 (ok.below h (Nat.le_refl _)) er k (Lib.hid (Prod.ext e1 e2)))
  have hM : b = true ↔ (er = 0 ∧ 0 ≤ now ∧ now ≤ en ∧ en ≤ 1152921504606846976) := by
    rw [← hb, decide_eq_true_iff, ← e1]; rfl
  clear e1 e2 hb
  have HM := Lib.hid hM
  clear hM
  by_cases c0 : er = 0
  rotate_left
  · have c0' : (er == 0) = false := by simpa using c0
    obtain rfl : b = false := by cases b with
      | false => rfl
      | true => exact absurd (HM.out.1 rfl).1 c0
    clear c0
    have S := pst_in w p
    go_enter Tryz.func92, Tryz.ntmps92
    go_wp2_with fail
    refine (C.out _ S.out.bel).mono ?_
    rintro e1 w5 ⟨rfl, k5⟩
    have S := pst_next S k5
    have x1 := S.out.box.cell
    clear k5
    go_wp2_with fail
    go_ret
    refine ⟨ret_bool ?_, S.out.bel⟩
    first | rfl | (simp; done) | (simp; omega)
  subst c0
  by_cases c3 : 0 ≤ now
  rotate_left
  · have c3' : now < 0 := by omega
    obtain rfl : b = false := by cases b with
      | false => rfl
      | true => (have h := HM.out.1 rfl; omega)
    clear c3
    have S := pst_in w p
    go_enter Tryz.func92, Tryz.ntmps92
    go_wp2_with fail
    refine (C.out _ S.out.bel).mono ?_
    rintro e1 w5 ⟨rfl, k5⟩
    have S := pst_next S k5
    have x1 := S.out.box.cell
    clear k5
    go_wp2_with fail
    go_ret
    refine ⟨ret_bool ?_, S.out.bel⟩
    first | rfl | (simp; done) | (simp; omega)
  by_cases c4 : now ≤ en
  rotate_left
  · have c4' : en < now := by omega
    obtain rfl : b = false := by cases b with
      | false => rfl
      | true => (have h := HM.out.1 rfl; omega)
    clear c4
    have S := pst_in w p
    go_enter Tryz.func92, Tryz.ntmps92
    go_wp2_with fail
    refine (C.out _ S.out.bel).mono ?_
    rintro e1 w5 ⟨rfl, k5⟩
    have S := pst_next S k5
    have x1 := S.out.box.cell
    clear k5
    go_wp2_with fail
    go_ret
    refine ⟨ret_bool ?_, S.out.bel⟩
    first | rfl | (simp; done) | (simp; omega)
  by_cases c5 : en ≤ 1152921504606846976
  rotate_left
  · have c5' : 1152921504606846976 < en := by omega
    obtain rfl : b = false := by cases b with
      | false => rfl
      | true => (have h := HM.out.1 rfl; omega)
    clear c5
    have S := pst_in w p
    go_enter Tryz.func92, Tryz.ntmps92
    go_wp2_with fail
    refine (C.out _ S.out.bel).mono ?_
    rintro e1 w5 ⟨rfl, k5⟩
    have S := pst_next S k5
    have x1 := S.out.box.cell
    clear k5
    go_wp2_with fail
    go_ret
    refine ⟨ret_bool ?_, S.out.bel⟩
    first | rfl | (simp; done) | (simp; omega)
  obtain rfl : b = true := HM.out.2 ⟨rfl, c3, c4, c5⟩
  have S := pst_in w p
  go_enter Tryz.func92, Tryz.ntmps92
  go_wp2_with fail
  refine (C.out _ S.out.bel).mono ?_
  rintro e1 w5 ⟨rfl, k5⟩
  have S := pst_next S k5
  have x1 := S.out.box.cell
  clear k5
  go_wp2_with fail
  go_ret
  refine ⟨ret_bool ?_, S.out.bel⟩
  first | rfl | (simp; done) | (simp; omega)

theorem room_any (x0 x1 x2 now en : Int) (w : World) (h0 : 0 ≤ now) (h1 : now ≤ en) (h2 : en ≤ 1152921504606846976) (i1 : 0 ≤ x1) (j1 : x1 ≤ 100000000) (i2 : 0 ≤ x2) (j2 : x2 ≤ 100000000) :
    Calls Tryz.prog 88 #[.agg #[.int .i64 x0, .int .i64 x1, .int .i64 x2], .int .i64 now, .int .i64 en] w fun e w' => e = .returned (.int .i64 (en - now - x1 - x2)) ∧ Below w.heap.size w w' := by
  go_enter Tryz.func88, Tryz.ntmps88
  go_wp2_with fail
  go_ret
  refine ⟨?_, (Below.refl _ _).alloc (Nat.le_refl _) _⟩
  first | rfl | (refine Kit.ret_int ?_; first | rfl | go_num)

/-- two boxes -/
structure Tw (w0 w : World) (A B : Array Value) (T U : TypeId) : Prop where
  bel : Below w0.heap.size w0 w
  one : Box w w0.heap.size A T
  two : Box w (w0.heap.size + 1) B U
theorem tw_next {w0 w w1 : World} {A B : Array Value} {T U : TypeId} (h : Hid (Tw w0 w A B T U)) (k : Below w.heap.size w w1) : Hid (Tw w0 w1 A B T U) :=
  Lib.hid ⟨below_next h.out.bel k, h.out.one.next k, h.out.two.next k⟩
theorem tw_in (w : World) (A B : Array Value) (T U : TypeId) : Hid (Tw w ((w.alloc (.cells A T)).alloc (.cells B U)) A B T U) := by
  have b2 := Box.new (w.alloc (.cells A T)) B U
  rw [World.size_alloc] at b2
  exact Lib.hid ⟨((Below.refl _ _).alloc (Nat.le_refl _) _).alloc (by simp) _, (Box.new w A T).alloc _, b2⟩
set_option maxRecDepth 100000 in
set_option maxHeartbeats 1000000 in
theorem counts_any (p : PowC) (k : Nat) (now en : Int) (w : World) (may : MayN p now en) (hk : k < p.nn) (r : Int) (hr : Hid (cntN p k now en = r)) :
    Calls Tryz.prog 90 #[.agg #[.slice p.la p.ln p.lc, .slice p.na p.nn p.nc, .int .i64 p.sw, .int .i64 p.id, .int .i64 p.ch, .int .i64 p.qu, .int .i64 p.sl, .int .i64 p.pp], .agg #[.int .i64 (p.nf k 0), .int .i64 (p.nf k 1), .int .i64 (p.nf k 2)], .int .i64 now, .int .i64 en] w fun e w' => e = .returned (.int .i64 r) ∧ Below w.heap.size w w' := by
  have nb := nap_bd may.1 hk
  have rb := room_bd may hk
  have sfc := fun ns (h : 0 ≤ ns) => sf_cnt may.1 (ns := ns) h
  have pb := rest_bd may.1
  obtain ⟨-, m1, m2, m3⟩ := may
  have hr := hr.out
  obtain ⟨R, hR⟩ : ∃ R, roomN p k now en = R := ⟨_, rfl⟩
  unfold cntN at hr
  rw [hR] at hr rb
  unfold roomN at hR
  obtain ⟨-, -, -, -, ⟨pb1, pb2⟩, ⟨pb3, pb4⟩, -⟩ := pb
  generalize p.nf k 0 = x0 at *
  generalize p.nf k 1 = x1 at *
  generalize p.nf k 2 = x2 at *
  obtain ⟨⟨n0, n1⟩, ⟨n2, n3⟩, ⟨n4, n5⟩⟩ := nb
  have C := fun w1 => room_any x0 x1 x2 now en w1 m1 m2 m3 n2 n3 n4 n5
  rw [hR] at C
  have C := Lib.hid C
  clear hR
  by_cases hneg : R < 0
  · rw [if_pos hneg] at hr
    subst hr
    have S := tw_in w #[.slice p.la p.ln p.lc, .slice p.na p.nn p.nc, .int .i64 p.sw, .int .i64 p.id, .int .i64 p.ch, .int .i64 p.qu, .int .i64 p.sl, .int .i64 p.pp] #[.int .i64 x0, .int .i64 x1, .int .i64 x2] 28 120
    go_enter Tryz.func90, Tryz.ntmps90
    go_wp2_with fail
    generalize (w.alloc (.cells #[.slice p.la p.ln p.lc, .slice p.na p.nn p.nc, .int .i64 p.sw, .int .i64 p.id, .int .i64 p.ch, .int .i64 p.qu, .int .i64 p.sl, .int .i64 p.pp] 28)).alloc (.cells #[.int .i64 x0, .int .i64 x1, .int .i64 x2] 120) = W at S ⊢
    refine (C.out _).mono ?_
    rintro e1 w5 ⟨rfl, k5⟩
    have S := tw_next S k5
    have y1 := S.out.one.cell
    have y2 := S.out.two.cell
    clear k5
    go_wp2_with fail
    go_ret
    exact ⟨rfl, S.out.bel⟩
  · have hneg : 0 ≤ R := by omega
    rw [if_neg (by omega)] at hr
    have D := fun w1 => safe_any p.sl p.pp R r 0 w1 (Lib.hid (by unfold sf; rw [if_neg (by omega), sfc R hneg, hr])) ⟨by omega, by omega⟩ ⟨by omega, by omega⟩
    have D := Lib.hid D
    clear sfc hr
    have S := tw_in w #[.slice p.la p.ln p.lc, .slice p.na p.nn p.nc, .int .i64 p.sw, .int .i64 p.id, .int .i64 p.ch, .int .i64 p.qu, .int .i64 p.sl, .int .i64 p.pp] #[.int .i64 x0, .int .i64 x1, .int .i64 x2] 28 120
    go_enter Tryz.func90, Tryz.ntmps90
    go_wp2_with fail
    generalize (w.alloc (.cells #[.slice p.la p.ln p.lc, .slice p.na p.nn p.nc, .int .i64 p.sw, .int .i64 p.id, .int .i64 p.ch, .int .i64 p.qu, .int .i64 p.sl, .int .i64 p.pp] 28)).alloc (.cells #[.int .i64 x0, .int .i64 x1, .int .i64 x2] 120) = W at S ⊢
    refine (C.out _).mono ?_
    rintro e1 w5 ⟨rfl, k5⟩
    have S := tw_next S k5
    have y1 := S.out.one.cell
    have y2 := S.out.two.cell
    clear k5
    go_wp2_with fail
    refine (D.out _).mono ?_
    rintro e1 w6 ⟨rfl, k6⟩
    have S := tw_next S k6
    clear k6
    go_wp2_with fail
    go_ret
    exact ⟨rfl, S.out.bel⟩
end Go.Proofs.YtlafeijkpnpdeaaGreat.NapA

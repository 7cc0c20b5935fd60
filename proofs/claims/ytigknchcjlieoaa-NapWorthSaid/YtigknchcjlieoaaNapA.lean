/- Package nap: may, room, counts, Counts; plain, and walked. -/
import Derived.Test.YtigknchcjlieoaaLvlA
import Derived.Test.YtigknchcjlieoaaOscZ
namespace Go.Proofs.Ytigknchcjlieoaa.NapA
open Go.RowKit Base Kit Conf PowA PowB PowC PowR WideB LvlA OscPlain OscZ
set_option linter.unusedVariables false
set_option linter.unusedSimpArgs false

def MayN (p : PowC) (now en : Int) : Prop := (powR p).1 = 0 ∧ 0 ≤ now ∧ now ≤ en ∧ en ≤ 1152921504606846976
instance (p : PowC) (now en : Int) : Decidable (MayN p now en) := by unfold MayN; infer_instance
def roomN (p : PowC) (k : Nat) (now en : Int) : Int := en - now - p.nf k 1 - p.nf k 2
def cntN (p : PowC) (k : Nat) (now en : Int) : Int := if roomN p k now en < 0 then 0 else cnt p.sl (-p.pp) (roomN p k now en)
def CntR (p : PowC) (t now en : Int) : Int := if MayN p now en ∧ 0 ≤ t ∧ t < p.nn then cntN p t.toNat now en else 0
theorem nap_bd {p : PowC} (h : (powR p).1 = 0) {k : Nat} (hk : k < p.nn) : (0 ≤ p.nf k 0 ∧ p.nf k 0 ≤ 1000000) ∧ (0 ≤ p.nf k 1 ∧ p.nf k 1 ≤ 100000000) ∧ (0 ≤ p.nf k 2 ∧ p.nf k 2 ≤ 100000000) := by
  have := (rest_bd h).2.2.2.2.2.2
  unfold allN at this
  rw [Bool.and_eq_true, decide_eq_true_iff, decide_eq_true_iff] at this
  have := fb_iff.1 this.2 k hk
  unfold nap npB at this
  simp only [Bool.and_eq_true, inB_iff] at this
  exact ⟨this.1.1, this.1.2, this.2⟩
theorem nap_few {p : PowC} (h : (powR p).1 = 0) : p.nn ≤ 4 := by
  have := (rest_bd h).2.2.2.2.2.2
  unfold allN at this
  rw [Bool.and_eq_true, decide_eq_true_iff] at this
  exact this.1
theorem slow_ok {p : PowC} (h : (powR p).1 = 0) {d : Int} (h1 : -p.pp ≤ d) (h2 : d ≤ p.pp) : ¬ bad p.sl d := by
  have := rest_bd h
  unfold bad
  omega
theorem room_bd {p : PowC} {now en : Int} (may : MayN p now en) {k : Nat} (hk : k < p.nn) : roomN p k now en ≤ en - now ∧ -200000000 ≤ roomN p k now en := by
  have := nap_bd may.1 hk
  have m := may.2
  unfold roomN
  omega
theorem sf_cnt {p : PowC} (h : (powR p).1 = 0) {ns : Int} (h0 : 0 ≤ ns) : cn p.sl (-p.pp) ns = (cnt p.sl (-p.pp) ns, 0) := by
  have b := rest_bd h
  unfold cn
  rw [if_neg]
  intro h'
  rcases h' with h' | h'
  · exact slow_ok h (d := -p.pp) (by omega) (by omega) h'
  · omega

set_option maxRecDepth 100000 in
set_option maxHeartbeats 1000000 in
theorem may_any (p : PowC) (now en : Int) (w : World) (ok : p.Ok w) (b : Bool) (hb : Hid (decide (MayN p now en) = b)) :
    Calls Try.prog 53 #[.agg #[.slice p.la p.ln p.lc, .slice p.na p.nn p.nc, .int .i64 p.sw, .int .i64 p.id, .int .i64 p.ch, .int .i64 p.qu, .int .i64 p.sl, .int .i64 p.pp], .int .i64 now, .int .i64 en] w fun e w' => e = .returned (.bool b) ∧ Below w.heap.size w w' := by
  have hb := hb.out
  obtain ⟨er, e1⟩ : ∃ z, (powR p).1 = z := ⟨_, rfl⟩
  obtain ⟨k, e2⟩ : ∃ z, (powR p).2 = z := ⟨_, rfl⟩
  have C := Lib.hid (fun w1 (h : Below w.heap.size w w1) => power_any p w1 (ok.below h (Nat.le_refl _)) er k (Lib.hid (Prod.ext e1 e2)))
  have hM : b = true ↔ (er = 0 ∧ 0 ≤ now ∧ now ≤ en ∧ en ≤ 1152921504606846976) := by
    rw [← hb, decide_eq_true_iff, ← e1]; rfl
  clear e1 e2 hb
  have HM := Lib.hid hM
  clear hM
  by_cases c0 : er = 0
  rotate_left
  · have c0' : (er == 0) = false := by simpa using c0
    obtain rfl : b = false := by cases b with
      | false => rfl
      | true => exact absurd (HM.out.1 rfl).1 c0
    clear c0
    have S := pst_in w p
    go_enter Try.func53, Try.ntmps53
    go_wp2_with fail
    refine (C.out _ S.out.bel).mono ?_
    rintro e1 w5 ⟨rfl, k5⟩
    have S := pst_next S k5
    have x1 := S.out.box.cell
    clear k5
    go_wp2_with fail
    go_ret
    refine ⟨ret_bool ?_, S.out.bel⟩
    first | rfl | (simp; done) | (simp; omega)
  subst c0
  by_cases c3 : 0 ≤ now
  rotate_left
  · have c3' : now < 0 := by omega
    obtain rfl : b = false := by cases b with
      | false => rfl
      | true => (have h := HM.out.1 rfl; omega)
    clear c3
    have S := pst_in w p
    go_enter Try.func53, Try.ntmps53
    go_wp2_with fail
    refine (C.out _ S.out.bel).mono ?_
    rintro e1 w5 ⟨rfl, k5⟩
    have S := pst_next S k5
    have x1 := S.out.box.cell
    clear k5
    go_wp2_with fail
    go_ret
    refine ⟨ret_bool ?_, S.out.bel⟩
    first | rfl | (simp; done) | (simp; omega)
  by_cases c4 : now ≤ en
  rotate_left
  · have c4' : en < now := by omega
    obtain rfl : b = false := by cases b with
      | false => rfl
      | true => (have h := HM.out.1 rfl; omega)
    clear c4
    have S := pst_in w p
    go_enter Try.func53, Try.ntmps53
    go_wp2_with fail
    refine (C.out _ S.out.bel).mono ?_
    rintro e1 w5 ⟨rfl, k5⟩
    have S := pst_next S k5
    have x1 := S.out.box.cell
    clear k5
    go_wp2_with fail
    go_ret
    refine ⟨ret_bool ?_, S.out.bel⟩
    first | rfl | (simp; done) | (simp; omega)
  by_cases c5 : en ≤ 1152921504606846976
  rotate_left
  · have c5' : 1152921504606846976 < en := by omega
    obtain rfl : b = false := by cases b with
      | false => rfl
      | true => (have h := HM.out.1 rfl; omega)
    clear c5
    have S := pst_in w p
    go_enter Try.func53, Try.ntmps53
    go_wp2_with fail
    refine (C.out _ S.out.bel).mono ?_
    rintro e1 w5 ⟨rfl, k5⟩
    have S := pst_next S k5
    have x1 := S.out.box.cell
    clear k5
    go_wp2_with fail
    go_ret
    refine ⟨ret_bool ?_, S.out.bel⟩
    first | rfl | (simp; done) | (simp; omega)
  obtain rfl : b = true := HM.out.2 ⟨rfl, c3, c4, c5⟩
  have S := pst_in w p
  go_enter Try.func53, Try.ntmps53
  go_wp2_with fail
  refine (C.out _ S.out.bel).mono ?_
  rintro e1 w5 ⟨rfl, k5⟩
  have S := pst_next S k5
  have x1 := S.out.box.cell
  clear k5
  go_wp2_with fail
  go_ret
  refine ⟨ret_bool ?_, S.out.bel⟩
  first | rfl | (simp; done) | (simp; omega)
set_option maxRecDepth 100000 in
set_option maxHeartbeats 1000000 in
theorem mayr_any (p : PowC) (now en : Int) (w : World) (ok : p.Ok w) (b : Bool) (hb : Hid (decide (MayN p now en) = b)) :
    Calls Try.prog 55 #[.agg #[.slice p.la p.ln p.lc, .slice p.na p.nn p.nc, .int .i64 p.sw, .int .i64 p.id, .int .i64 p.ch, .int .i64 p.qu, .int .i64 p.sl, .int .i64 p.pp], .int .i64 now, .int .i64 en] w fun e w' => e = .returned (.bool b) ∧ Below w.heap.size w w' := by
  have hb := hb.out
  obtain ⟨er, e1⟩ : ∃ z, (powR p).1 = z := ⟨_, rfl⟩
  obtain ⟨k, e2⟩ : ∃ z, (powR p).2 = z := ⟨_, rfl⟩
  have C := Lib.hid (fun w1 (h : Below w.heap.size w w1) => powerr_any p w1 (ok.below h (Nat.le_refl _)) er k (Lib.hid (Prod.ext e1 e2)))
  have hM : b = true ↔ (er = 0 ∧ 0 ≤ now ∧ now ≤ en ∧ en ≤ 1152921504606846976) := by
    rw [← hb, decide_eq_true_iff, ← e1]; rfl
  clear e1 e2 hb
  have HM := Lib.hid hM
  clear hM
  by_cases c0 : er = 0
  rotate_left
  · have c0' : (er == 0) = false := by simpa using c0
    obtain rfl : b = false := by cases b with
      | false => rfl
      | true => exact absurd (HM.out.1 rfl).1 c0
    clear c0
    have S := pst_in w p
    go_enter Try.func55, Try.ntmps55
    go_wp2_with fail
    refine (C.out _ S.out.bel).mono ?_
    rintro e1 w5 ⟨rfl, k5⟩
    have S := pst_next S k5
    have x1 := S.out.box.cell
    clear k5
    go_wp2_with fail
    go_ret
    refine ⟨ret_bool ?_, S.out.bel⟩
    first | rfl | (simp; done) | (simp; omega)
  subst c0
  by_cases c3 : 0 ≤ now
  rotate_left
  · have c3' : now < 0 := by omega
    obtain rfl : b = false := by cases b with
      | false => rfl
      | true => (have h := HM.out.1 rfl; omega)
    clear c3
    have S := pst_in w p
    go_enter Try.func55, Try.ntmps55
    go_wp2_with fail
    refine (C.out _ S.out.bel).mono ?_
    rintro e1 w5 ⟨rfl, k5⟩
    have S := pst_next S k5
    have x1 := S.out.box.cell
    clear k5
    go_wp2_with fail
    go_ret
    refine ⟨ret_bool ?_, S.out.bel⟩
    first | rfl | (simp; done) | (simp; omega)
  by_cases c4 : now ≤ en
  rotate_left
  · have c4' : en < now := by omega
    obtain rfl : b = false := by cases b with
      | false => rfl
      | true => (have h := HM.out.1 rfl; omega)
    clear c4
    have S := pst_in w p
    go_enter Try.func55, Try.ntmps55
    go_wp2_with fail
    refine (C.out _ S.out.bel).mono ?_
    rintro e1 w5 ⟨rfl, k5⟩
    have S := pst_next S k5
    have x1 := S.out.box.cell
    clear k5
    go_wp2_with fail
    go_ret
    refine ⟨ret_bool ?_, S.out.bel⟩
    first | rfl | (simp; done) | (simp; omega)
  by_cases c5 : en ≤ 1152921504606846976
  rotate_left
  · have c5' : 1152921504606846976 < en := by omega
    obtain rfl : b = false := by cases b with
      | false => rfl
      | true => (have h := HM.out.1 rfl; omega)
    clear c5
    have S := pst_in w p
    go_enter Try.func55, Try.ntmps55
    go_wp2_with fail
    refine (C.out _ S.out.bel).mono ?_
    rintro e1 w5 ⟨rfl, k5⟩
    have S := pst_next S k5
    have x1 := S.out.box.cell
    clear k5
    go_wp2_with fail
    go_ret
    refine ⟨ret_bool ?_, S.out.bel⟩
    first | rfl | (simp; done) | (simp; omega)
  obtain rfl : b = true := HM.out.2 ⟨rfl, c3, c4, c5⟩
  have S := pst_in w p
  go_enter Try.func55, Try.ntmps55
  go_wp2_with fail
  refine (C.out _ S.out.bel).mono ?_
  rintro e1 w5 ⟨rfl, k5⟩
  have S := pst_next S k5
  have x1 := S.out.box.cell
  clear k5
  go_wp2_with fail
  go_ret
  refine ⟨ret_bool ?_, S.out.bel⟩
  first | rfl | (simp; done) | (simp; omega)

theorem room_any (x0 x1 x2 now en : Int) (w : World) (h0 : 0 ≤ now) (h1 : now ≤ en) (h2 : en ≤ 1152921504606846976) (i1 : 0 ≤ x1) (j1 : x1 ≤ 100000000) (i2 : 0 ≤ x2) (j2 : x2 ≤ 100000000) :
    Calls Try.prog 64 #[.agg #[.int .i64 x0, .int .i64 x1, .int .i64 x2], .int .i64 now, .int .i64 en] w fun e w' => e = .returned (.int .i64 (en - now - x1 - x2)) ∧ Below w.heap.size w w' := by
  go_enter Try.func64, Try.ntmps64
  go_wp2_with fail
  go_ret
  refine ⟨?_, (Below.refl _ _).alloc (Nat.le_refl _) _⟩
  first | rfl | (refine Kit.ret_int ?_; first | rfl | go_num)

/-- two boxes -/
structure Tw (w0 w : World) (A B : Array Value) (T U : TypeId) : Prop where
  bel : Below w0.heap.size w0 w
  one : Box w w0.heap.size A T
  two : Box w (w0.heap.size + 1) B U
theorem tw_next {w0 w w1 : World} {A B : Array Value} {T U : TypeId} (h : Hid (Tw w0 w A B T U)) (k : Below w.heap.size w w1) : Hid (Tw w0 w1 A B T U) :=
  Lib.hid ⟨below_next h.out.bel k, h.out.one.next k, h.out.two.next k⟩
theorem tw_in (w : World) (A B : Array Value) (T U : TypeId) : Hid (Tw w ((w.alloc (.cells A T)).alloc (.cells B U)) A B T U) := by
  have b2 := Box.new (w.alloc (.cells A T)) B U
  rw [World.size_alloc] at b2
  exact Lib.hid ⟨((Below.refl _ _).alloc (Nat.le_refl _) _).alloc (by simp) _, (Box.new w A T).alloc _, b2⟩
set_option maxRecDepth 100000 in
set_option maxHeartbeats 1000000 in
theorem counts_any (p : PowC) (k : Nat) (now en : Int) (w : World) (may : MayN p now en) (hk : k < p.nn) (r : Int) (hr : Hid (cntN p k now en = r)) :
    Calls Try.prog 54 #[.agg #[.slice p.la p.ln p.lc, .slice p.na p.nn p.nc, .int .i64 p.sw, .int .i64 p.id, .int .i64 p.ch, .int .i64 p.qu, .int .i64 p.sl, .int .i64 p.pp], .agg #[.int .i64 (p.nf k 0), .int .i64 (p.nf k 1), .int .i64 (p.nf k 2)], .int .i64 now, .int .i64 en] w fun e w' => e = .returned (.int .i64 r) ∧ Below w.heap.size w w' := by
  have nb := nap_bd may.1 hk
  have rb := room_bd may hk
  have sfc := fun ns (h : 0 ≤ ns) => sf_cnt may.1 (ns := ns) h
  have pb := rest_bd may.1
  obtain ⟨-, m1, m2, m3⟩ := may
  have hr := hr.out
  obtain ⟨R, hR⟩ : ∃ R, roomN p k now en = R := ⟨_, rfl⟩
  unfold cntN at hr
  rw [hR] at hr rb
  unfold roomN at hR
  obtain ⟨-, -, -, -, ⟨pb1, pb2⟩, ⟨pb3, pb4⟩, -⟩ := pb
  generalize p.nf k 0 = x0 at *
  generalize p.nf k 1 = x1 at *
  generalize p.nf k 2 = x2 at *
  obtain ⟨⟨n0, n1⟩, ⟨n2, n3⟩, ⟨n4, n5⟩⟩ := nb
  have C := fun w1 => room_any x0 x1 x2 now en w1 m1 m2 m3 n2 n3 n4 n5
  rw [hR] at C
  have C := Lib.hid C
  clear hR
  by_cases hneg : R < 0
  · rw [if_pos hneg] at hr
    subst hr
    have S := tw_in w #[.slice p.la p.ln p.lc, .slice p.na p.nn p.nc, .int .i64 p.sw, .int .i64 p.id, .int .i64 p.ch, .int .i64 p.qu, .int .i64 p.sl, .int .i64 p.pp] #[.int .i64 x0, .int .i64 x1, .int .i64 x2] 25 73
    go_enter Try.func54, Try.ntmps54
    go_wp2_with fail
    generalize (w.alloc (.cells #[.slice p.la p.ln p.lc, .slice p.na p.nn p.nc, .int .i64 p.sw, .int .i64 p.id, .int .i64 p.ch, .int .i64 p.qu, .int .i64 p.sl, .int .i64 p.pp] 25)).alloc (.cells #[.int .i64 x0, .int .i64 x1, .int .i64 x2] 73) = W at S ⊢
    refine (C.out _).mono ?_
    rintro e1 w5 ⟨rfl, k5⟩
    have S := tw_next S k5
    have y1 := S.out.one.cell
    have y2 := S.out.two.cell
    clear k5
    go_wp2_with fail
    go_ret
    exact ⟨rfl, S.out.bel⟩
  · have hneg : 0 ≤ R := by omega
    rw [if_neg (by omega)] at hr
    have D := fun w1 => safe_any p.sl p.pp R r 0 w1 (Lib.hid (by unfold sf; rw [if_neg (by omega), sfc R hneg, hr])) ⟨by omega, by omega⟩ ⟨by omega, by omega⟩
    have D := Lib.hid D
    clear sfc hr
    have S := tw_in w #[.slice p.la p.ln p.lc, .slice p.na p.nn p.nc, .int .i64 p.sw, .int .i64 p.id, .int .i64 p.ch, .int .i64 p.qu, .int .i64 p.sl, .int .i64 p.pp] #[.int .i64 x0, .int .i64 x1, .int .i64 x2] 25 73
    go_enter Try.func54, Try.ntmps54
    go_wp2_with fail
    generalize (w.alloc (.cells #[.slice p.la p.ln p.lc, .slice p.na p.nn p.nc, .int .i64 p.sw, .int .i64 p.id, .int .i64 p.ch, .int .i64 p.qu, .int .i64 p.sl, .int .i64 p.pp] 25)).alloc (.cells #[.int .i64 x0, .int .i64 x1, .int .i64 x2] 73) = W at S ⊢
    refine (C.out _).mono ?_
    rintro e1 w5 ⟨rfl, k5⟩
    have S := tw_next S k5
    have y1 := S.out.one.cell
    have y2 := S.out.two.cell
    clear k5
    go_wp2_with fail
    refine (D.out _).mono ?_
    rintro e1 w6 ⟨rfl, k6⟩
    have S := tw_next S k6
    clear k6
    go_wp2_with fail
    go_ret
    exact ⟨rfl, S.out.bel⟩
end Go.Proofs.Ytigknchcjlieoaa.NapA

/- Package valid: regions, objects, Part. -/
import Derived.Test.YtgkahcchekiogaaVld
import Derived.Test.YtgkahcchekiogaaPart
namespace Go.Proofs.Ytgkahcchekiogaa.Vpa
open Go.RowKit Base Kit Conf Conf2 PowA PowB Vfa Vfb Val Vld
set_option linter.unusedVariables false
set_option linter.unusedSimpArgs false

theorem rv3 {w : World} {a : Option Addr} {n : Nat} {b s : Nat → Int} {u : Nat → Bool} (h : Hid (RowsV w a n 3 (regV b s u))) : Hid (∀ k, k < n → ∃ b' off, a = some ⟨b', off, none⟩ ∧ b' < w.heap.size ∧ w.cell? ⟨b', off + k * 3, none⟩ = some (.int .i64 (b k)) ∧ w.cell? ⟨b', off + k * 3 + 1, none⟩ = some (.int .i64 (s k)) ∧ w.cell? ⟨b', off + k * 3 + 2, none⟩ = some (.bool (u k))) := by
  refine Lib.hid fun k hk => ?_
  rcases h.out.2 with h0 | ⟨b', off, e, hb, hc⟩
  · omega
  · exact ⟨b', off, e, hb, hc k hk 0 (by omega), hc k hk 1 (by omega), hc k hk 2 (by omega)⟩
theorem rv4 {w : World} {a : Option Addr} {n : Nat} {q i : Nat → Bool} {s d : Nat → Int} (h : Hid (RowsV w a n 4 (portV q i s d))) : Hid (∀ k, k < n → ∃ b' off, a = some ⟨b', off, none⟩ ∧ b' < w.heap.size ∧ w.cell? ⟨b', off + k * 4, none⟩ = some (.bool (q k)) ∧ w.cell? ⟨b', off + k * 4 + 1, none⟩ = some (.bool (i k)) ∧ w.cell? ⟨b', off + k * 4 + 2, none⟩ = some (.int .i64 (s k)) ∧ w.cell? ⟨b', off + k * 4 + 3, none⟩ = some (.int .i64 (d k))) := by
  refine Lib.hid fun k hk => ?_
  rcases h.out.2 with h0 | ⟨b', off, e, hb, hc⟩
  · omega
  · exact ⟨b', off, e, hb, hc k hk 0 (by omega), hc k hk 1 (by omega), hc k hk 2 (by omega), hc k hk 3 (by omega)⟩
theorem ri1 {w : World} {a : Option Addr} {n : Nat} {f : Nat → Nat → Int} (h : Hid (Open.RowsIn w a n 1 f)) : Hid (∀ k, k < n → ∃ b off, a = some ⟨b, off, none⟩ ∧ b < w.heap.size ∧ w.cell? ⟨b, off + k, none⟩ = some (.int .i64 (f k 0))) := by
  refine Lib.hid fun k hk => ?_
  obtain ⟨b, off, e, hb, c0, -⟩ := rows_at1 h k hk
  exact ⟨b, off, e, hb, c0⟩
theorem ri2 {w : World} {a : Option Addr} {n : Nat} {f : Nat → Nat → Int} (h : Hid (Open.RowsIn w a n 2 f)) : Hid (∀ k, k < n → ∃ b off, a = some ⟨b, off, none⟩ ∧ b < w.heap.size ∧ w.cell? ⟨b, off + k * 2, none⟩ = some (.int .i64 (f k 0)) ∧ w.cell? ⟨b, off + k * 2 + 1, none⟩ = some (.int .i64 (f k 1))) := by
  refine Lib.hid fun k hk => ?_
  obtain ⟨b, off, e, hb, c0, c1, -⟩ := rows_at2 h k hk
  exact ⟨b, off, e, hb, c0, c1⟩
theorem ri3 {w : World} {a : Option Addr} {n : Nat} {f : Nat → Nat → Int} (h : Hid (Open.RowsIn w a n 3 f)) : Hid (∀ k, k < n → ∃ b off, a = some ⟨b, off, none⟩ ∧ b < w.heap.size ∧ w.cell? ⟨b, off + k * 3, none⟩ = some (.int .i64 (f k 0)) ∧ w.cell? ⟨b, off + k * 3 + 1, none⟩ = some (.int .i64 (f k 1)) ∧ w.cell? ⟨b, off + k * 3 + 2, none⟩ = some (.int .i64 (f k 2))) := by
  refine Lib.hid fun k hk => ?_
  obtain ⟨b, off, e, hb, c0, c1, c2, -⟩ := rows_at3 h k hk
  exact ⟨b, off, e, hb, c0, c1, c2⟩

def regP (b s : Nat → Int) (k : Nat) : Bool := regB (b k) (s k) (ahI b k) (ahI s k)
def regsB (q : PartC) : Bool := allB (regP q.rb q.rs) q.rn 4
def procsB (q : PartC) : Bool := decide (1 ≤ q.pn) && allB (fun k => procB (q.pf k 0) (q.pf k 1) (q.pf k 2)) q.pn 8
def portsB (q : PartC) : Bool := allB (fun k => portB (q.oq k) (q.oi k) (q.os k) (q.od k)) q.on 8
def semsB (q : PartC) : Bool := allB (fun k => semB (q.sf k 0) (q.sf k 1)) q.sn 4
def poolsB (q : PartC) : Bool := allB (fun k => poolB (q.qf k 0) (q.qf k 1)) q.qn 4
def slatesB (q : PartC) : Bool := allB (fun k => slateB (q.tf k)) q.tn 4
def objB (q : PartC) : Bool := semsB q && inB q.fl 0 8 && poolsB q && slatesB q
def actsB (q : PartC) : Bool := allB (fun k => actB (q.cf k)) q.cn 5
def lastB (q : PartC) : Bool := inB q.cap 1 1000000000 && inB q.bud 0 1125899906842624 && inB q.lad 0 4 && decide (q.cn = 5) && actsB q
def PartR (q : PartC) : Int := if regsB q = false then 21 else if procsB q = false then 22 else if portsB q = false then 23 else if objB q = false then 24 else if lastB q = false then 20 else 0
theorem reg_ah {b s : Nat → Int} : ∀ k, (∀ j, j < k → regP b s j = true) → (0 ≤ ahI b k ∧ ahI b k ≤ 1048576) ∧ 0 ≤ ahI s k ∧ ahI s k ≤ 256
  | 0, _ => by simp [ahI]
  | k + 1, h => by
    have := h k (by omega)
    unfold regP regB at this
    simp only [Bool.and_eq_true, inB_iff, decide_eq_true_eq] at this
    show (0 ≤ b k ∧ b k ≤ 1048576) ∧ 0 ≤ s k ∧ s k ≤ 256
    omega
theorem fr_neg {P : Nat → Bool} {n : Nat} {z : Int} {r : Bool} (hz : frI P n = z) (hr : decide (fb P n = n) = r) : (z < 0 ∧ r = true) ∨ (0 ≤ z ∧ r = false) := by
  rw [← hz, ← hr]
  have := fb_le P n
  unfold frI
  by_cases e : fb P n < n
  · right; rw [if_pos e]; exact ⟨by omega, by simp; omega⟩
  · left; rw [if_neg e]; exact ⟨by omega, by simp; omega⟩
set_option maxRecDepth 100000 in
theorem regions_any (a : Option Addr) (n c : Nat) (b s : Nat → Int) (u : Nat → Bool) (r : Bool) (w : World) (h : Hid (RowsV w a n 3 (regV b s u))) (hI : ∀ i, i < n → I64 (b i) ∧ I64 (s i)) (hr : Hid (allB (regP b s) n 4 = r)) :
    Calls Try.prog 81 #[.slice a n c] w fun e w' => e = .returned (.bool r) ∧ Below w.heap.size w w' := by
  have hm := h.out.1
  have hr := hr.out
  unfold allB at hr
  by_cases hn : n ≤ 4
  · rw [show decide (n ≤ 4) = true from by simpa using hn, Bool.true_and] at hr
    obtain ⟨z, hz⟩ : ∃ z, frI (regP b s) n = z := ⟨_, rfl⟩
    have C := Lib.hid (first_reg a n c b s u (regP b s) 132 #[] z w (rv3 h) (by omega) (fun args w => by go_simp) (Lib.hid (fun k wr hk hb hP => reg_any (b k) (s k) (ahI b k) (ahI s k) (u k) (ahB u k) wr (hI k hk).1 (reg_ah k hP).1.1 (reg_ah k hP).1.2 (reg_ah k hP).2.1 (reg_ah k hP).2.2)) (Lib.hid hz))
    have zr := fr_neg hz hr
    clear hz hr
    have hn' : (n : Int) ≤ 4 := by omega
    rcases zr with ⟨hz, rfl⟩ | ⟨hz, rfl⟩
    all_goals
      go_enter Try.func81, Try.ntmps81
      go_wp2_with fail
      refine C.out.mono ?_
      rintro e1 w5 ⟨rfl, k5⟩
      have HB := Lib.hid k5
      clear k5
      go_wp2_with fail
      go_ret
      refine ⟨ret_bool ?_, HB.out⟩
      first | rfl | (simp; done) | (simp; omega)
  · have hn' : 4 < (n : Int) := by omega
    rw [show decide (n ≤ 4) = false from by simpa using hn, Bool.false_and] at hr
    subst hr
    clear hn
    go_enter Try.func81, Try.ntmps81
    go_wp2_with fail
    first
      | go_ret
      | (refine ⟨fun _ h => (by cases h), ?_⟩; go_wp2; go_ret)
    refine ⟨ret_bool ?_, Below.refl _ _⟩
    first | rfl | (simp; done) | (simp; omega)

/-- a function's world: a partition's box -/
structure Qs (w0 w : World) (q : PartC) : Prop where
  bel : Below w0.heap.size w0 w
  box : Box w w0.heap.size #[.slice q.ra q.rn q.rc, .slice q.pa q.pn q.pc, .slice q.oa q.on q.oc, .slice q.sa q.sn q.sc, .int .i64 q.fl, .slice q.qa q.qn q.qc, .slice q.ta q.tn q.tc, .int .i64 q.cap, .int .i64 q.bud, .int .i64 q.lad, .slice q.ca q.cn q.cc] 72
theorem qs_next {w0 w w1 : World} {q : PartC} (h : Hid (Qs w0 w q)) (k : Below w.heap.size w w1) : Hid (Qs w0 w1 q) := Lib.hid ⟨below_next h.out.bel k, h.out.box.next k⟩
theorem qs_in (w : World) (q : PartC) : Hid (Qs w (w.alloc (.cells #[.slice q.ra q.rn q.rc, .slice q.pa q.pn q.pc, .slice q.oa q.on q.oc, .slice q.sa q.sn q.sc, .int .i64 q.fl, .slice q.qa q.qn q.qc, .slice q.ta q.tn q.tc, .int .i64 q.cap, .int .i64 q.bud, .int .i64 q.lad, .slice q.ca q.cn q.cc] 72)) q) := Lib.hid ⟨(Below.refl _ _).alloc (Nat.le_refl _) _, Box.new _ _ _⟩
set_option maxRecDepth 100000 in
set_option maxHeartbeats 1000000 in
theorem objects_any (q : PartC) (w : World) (ok : q.Ok w) (r : Bool) (hr : Hid (objB q = r)) :
    Calls Try.prog 86 #[.agg #[.slice q.ra q.rn q.rc, .slice q.pa q.pn q.pc, .slice q.oa q.on q.oc, .slice q.sa q.sn q.sc, .int .i64 q.fl, .slice q.qa q.qn q.qc, .slice q.ta q.tn q.tc, .int .i64 q.cap, .int .i64 q.bud, .int .i64 q.lad, .slice q.ca q.cn q.cc]] w fun e w' => e = .returned (.bool r) ∧ Below w.heap.size w w' := by
  have okh := fun w1 (h : Below w.heap.size w w1) => ok.below h (Nat.le_refl _)
  have hr := hr.out
  unfold objB at hr
  obtain ⟨r0, e0⟩ : ∃ z, semsB q = z := ⟨_, rfl⟩
  obtain ⟨r1, e1⟩ : ∃ z, inB q.fl 0 8 = z := ⟨_, rfl⟩
  obtain ⟨r2, e2⟩ : ∃ z, poolsB q = z := ⟨_, rfl⟩
  obtain ⟨r3, e3⟩ : ∃ z, slatesB q = z := ⟨_, rfl⟩
  rw [e0, e1, e2, e3] at hr
  have C0 := Lib.hid (fun w1 h => all_sem q.sa q.sn q.sc 4 (fun k => q.sf k 0) (fun k => q.sf k 1) semB 137 r0 w1 (ri2 (okh w1 h).sem) ok.sem.out.1 (by omega) (fun args w => by go_simp) (Lib.hid (fun a b w => sem_any a b w)) (Lib.hid e0))
  have C1 := Lib.hid (fun w => in_any q.fl 0 8 r1 w (Lib.hid e1))
  have C2 := Lib.hid (fun w1 h => all_pool q.qa q.qn q.qc 4 (fun k => q.qf k 0) (fun k => q.qf k 1) poolB 138 r2 w1 (ri2 (okh w1 h).pool) ok.pool.out.1 (by omega) (fun args w => by go_simp) (Lib.hid (fun a b w => pool_any a b w)) (Lib.hid e2))
  have C3 := Lib.hid (fun w1 h => all_num q.ta q.tn q.tc 4 (fun k => q.tf k) slateB 139 r3 w1 (ri1 (okh w1 h).slate) ok.slate.out.1 (by omega) (fun args w => by go_simp) (Lib.hid (fun a w => slate_any a w)) (Lib.hid e3))
  clear e0 e1 e2 e3 okh
  subst hr
  cases r0
  · skip
    have S := qs_in w q
    have bc := S.out.box.cell
    go_enter Try.func86, Try.ntmps86
    go_wp2_with fail
    generalize w.alloc (.cells #[.slice q.ra q.rn q.rc, .slice q.pa q.pn q.pc, .slice q.oa q.on q.oc, .slice q.sa q.sn q.sc, .int .i64 q.fl, .slice q.qa q.qn q.qc, .slice q.ta q.tn q.tc, .int .i64 q.cap, .int .i64 q.bud, .int .i64 q.lad, .slice q.ca q.cn q.cc] 72) = W at S bc ⊢
    refine (C0.out _ S.out.bel).mono ?_
    rintro e1 w5 ⟨rfl, k5⟩
    have S := qs_next S k5
    clear k5 bc
    have bc := S.out.box.cell
    go_wp2_with fail
    go_ret
    exact ⟨rfl, S.out.bel⟩
  · cases r1
    · skip
      have S := qs_in w q
      have bc := S.out.box.cell
      go_enter Try.func86, Try.ntmps86
      go_wp2_with fail
      generalize w.alloc (.cells #[.slice q.ra q.rn q.rc, .slice q.pa q.pn q.pc, .slice q.oa q.on q.oc, .slice q.sa q.sn q.sc, .int .i64 q.fl, .slice q.qa q.qn q.qc, .slice q.ta q.tn q.tc, .int .i64 q.cap, .int .i64 q.bud, .int .i64 q.lad, .slice q.ca q.cn q.cc] 72) = W at S bc ⊢
      refine (C0.out _ S.out.bel).mono ?_
      rintro e1 w5 ⟨rfl, k5⟩
      have S := qs_next S k5
      clear k5 bc
      have bc := S.out.box.cell
      go_wp2_with fail
      refine (C1.out _).mono ?_
      rintro e1 w5 ⟨rfl, e9⟩
      cases e9
      go_wp2_with fail
      go_ret
      exact ⟨rfl, S.out.bel⟩
    · cases r2
      · skip
        have S := qs_in w q
        have bc := S.out.box.cell
        go_enter Try.func86, Try.ntmps86
        go_wp2_with fail
        generalize w.alloc (.cells #[.slice q.ra q.rn q.rc, .slice q.pa q.pn q.pc, .slice q.oa q.on q.oc, .slice q.sa q.sn q.sc, .int .i64 q.fl, .slice q.qa q.qn q.qc, .slice q.ta q.tn q.tc, .int .i64 q.cap, .int .i64 q.bud, .int .i64 q.lad, .slice q.ca q.cn q.cc] 72) = W at S bc ⊢
        refine (C0.out _ S.out.bel).mono ?_
        rintro e1 w5 ⟨rfl, k5⟩
        have S := qs_next S k5
        clear k5 bc
        have bc := S.out.box.cell
        go_wp2_with fail
        refine (C1.out _).mono ?_
        rintro e1 w5 ⟨rfl, e9⟩
        cases e9
        go_wp2_with fail
        refine (C2.out _ S.out.bel).mono ?_
        rintro e1 w5 ⟨rfl, k5⟩
        have S := qs_next S k5
        clear k5 bc
        have bc := S.out.box.cell
        go_wp2_with fail
        go_ret
        exact ⟨rfl, S.out.bel⟩
      · skip
        have S := qs_in w q
        have bc := S.out.box.cell
        go_enter Try.func86, Try.ntmps86
        go_wp2_with fail
        generalize w.alloc (.cells #[.slice q.ra q.rn q.rc, .slice q.pa q.pn q.pc, .slice q.oa q.on q.oc, .slice q.sa q.sn q.sc, .int .i64 q.fl, .slice q.qa q.qn q.qc, .slice q.ta q.tn q.tc, .int .i64 q.cap, .int .i64 q.bud, .int .i64 q.lad, .slice q.ca q.cn q.cc] 72) = W at S bc ⊢
        refine (C0.out _ S.out.bel).mono ?_
        rintro e1 w5 ⟨rfl, k5⟩
        have S := qs_next S k5
        clear k5 bc
        have bc := S.out.box.cell
        go_wp2_with fail
        refine (C1.out _).mono ?_
        rintro e1 w5 ⟨rfl, e9⟩
        cases e9
        go_wp2_with fail
        refine (C2.out _ S.out.bel).mono ?_
        rintro e1 w5 ⟨rfl, k5⟩
        have S := qs_next S k5
        clear k5 bc
        have bc := S.out.box.cell
        go_wp2_with fail
        refine (C3.out _ S.out.bel).mono ?_
        rintro e1 w5 ⟨rfl, k5⟩
        have S := qs_next S k5
        clear k5 bc
        have bc := S.out.box.cell
        go_wp2_with fail
        go_ret
        exact ⟨by cases r3 <;> rfl, S.out.bel⟩
end Go.Proofs.Ytgkahcchekiogaa.Vpa

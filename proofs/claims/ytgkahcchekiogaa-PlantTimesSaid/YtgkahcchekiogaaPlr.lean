/- Walks of the reference's plant: it never panics, and stays whole. -/
import Derived.Test.YtgkahcchekiogaaPlh
import Derived.Test.YtgkahcchekiogaaMetQ
import Derived.Test.YtgkahcchekiogaaOscB
namespace Go.Proofs.Ytgkahcchekiogaa.Plr
open Go.RowKit Base Kit RefA Alt WideA WideB Plain MetA MetB MetC MetR MetQ Conf Plb Held
set_option linter.unusedVariables false
set_option linter.unusedSimpArgs false
attribute [local go_sem ↓] Go.wp_at_zero Go.wp_at_succ
structure ROk (n ln : Nat) (s : PS) : Prop where
  now : 0 ≤ s.now ∧ s.now ≤ 2305843009213693952
  base : 0 ≤ s.base ∧ s.base ≤ 2305843009213693952
  done : 0 ≤ s.done ∧ s.done ≤ 2305843009213693952
  level : -1 ≤ s.level ∧ s.level < (ln : Int)
  ok : MOk n s.m
/-- the reference's platform, since a world -/
structure RPl (w0 w : World) (b m q cap n : Nat) (c : PowC) (s : PS) : Prop where
  bel : Below w0.heap.size w0 w
  hb : w0.heap.size ≤ b
  hm : w0.heap.size ≤ m
  hq : w0.heap.size ≤ q
  box : Box w b #[.int .i64 s.now, .int .i64 s.base, .int .i64 s.done, .int .i64 s.level, .slice c.la c.ln c.lc, .slice c.na c.nn c.nc, .int .i64 c.sw, .int .i64 c.id, .int .i64 c.ch, .int .i64 c.qu, .int .i64 c.sl, .int .i64 c.pp, .pointer (some ⟨m, 0, none⟩)] 108
  met : Hid (RMt w m q n cap s.m)
  ok : ROk n c.ln s
  co : c.Ok w0
def RX (b m : Nat) : Nat → Prop := fun i => i = b ∨ i = m
theorem rp_next {w0 w w1 : World} {b m q cap n : Nat} {c : PowC} {s : PS} (h : Hid (RPl w0 w b m q cap n c s)) (k : Below w.heap.size w w1) : Hid (RPl w0 w1 b m q cap n c s) :=
  Lib.hid ⟨below_next h.out.bel k, h.out.hb, h.out.hm, h.out.hq, h.out.box.next k, Lib.hid (h.out.met.out.below k), h.out.ok, h.out.co⟩
theorem rp_alt {S : Nat → Prop} {w0 w w1 : World} {b m q cap n : Nat} {c : PowC} {s : PS} (h : Hid (RPl w0 w b m q cap n c s)) (k : Alt S w w1) (hS : ∀ i, S i → w0.heap.size ≤ i) (h1 : ¬ S b) (h2 : ¬ S m) (h3 : ¬ S q) : Hid (RPl w0 w1 b m q cap n c s) :=
  Lib.hid ⟨k.below h.out.bel h.out.bel.size hS, h.out.hb, h.out.hm, h.out.hq, box_alt h.out.box k h1, Lib.hid (h.out.met.out.alt k h2 h3), h.out.ok, h.out.co⟩
/-- what a step leaves -/
structure RP (w0 w w' : World) (b m q n : Nat) (c : PowC) (s : PS) (q' cap' : Nat) : Prop where
  alt : Alt (RX b m) w w'
  hq : q' = q ∨ w.heap.size ≤ q'
  pl : Hid (RPl w0 w' b m q' cap' n c s)
def RPost (w0 w : World) (b m q n : Nat) (c : PowC) (e : Ending) (w' : World) : Prop := ∃ (r : Int) (s : PS) (q' cap' : Nat), e = .returned (.int .i64 r) ∧ RP w0 w w' b m q n c s q' cap'
theorem rp_same {w0 w w1 : World} {b m q cap n : Nat} {c : PowC} {s : PS} (h : Hid (RPl w0 w b m q cap n c s)) (k : Below w.heap.size w w1) : RP w0 w w1 b m q n c s q cap := ⟨Alt.of_below k, .inl rfl, rp_next h k⟩
theorem rp_set {w0 w : World} {b m q cap n : Nat} {c : PowC} {s s' : PS} (h : Hid (RPl w0 w b m q cap n c s)) {w1 : World} (hw : Alt (fun i => i = b) w w1) (hbx : ∀ vs, Box w b vs 108 → vs = #[.int .i64 s.now, .int .i64 s.base, .int .i64 s.done, .int .i64 s.level, .slice c.la c.ln c.lc, .slice c.na c.nn c.nc, .int .i64 c.sw, .int .i64 c.id, .int .i64 c.ch, .int .i64 c.qu, .int .i64 c.sl, .int .i64 c.pp, .pointer (some ⟨m, 0, none⟩)] → Box w1 b #[.int .i64 s'.now, .int .i64 s'.base, .int .i64 s'.done, .int .i64 s'.level, .slice c.la c.ln c.lc, .slice c.na c.nn c.nc, .int .i64 c.sw, .int .i64 c.id, .int .i64 c.ch, .int .i64 c.qu, .int .i64 c.sl, .int .i64 c.pp, .pointer (some ⟨m, 0, none⟩)] 108) (hm : s'.m = s.m) (ok : ROk n c.ln s') : Hid (RPl w0 w1 b m q cap n c s') := by
  have e1 := box_ne h.out.met.out.box h.out.box (by decide)
  have e2 := own_ne h.out.met.out.own h.out.box (by decide)
  exact Lib.hid ⟨hw.below h.out.bel h.out.bel.size (fun i hi => by have := h.out.hb; omega), h.out.hb, h.out.hm, h.out.hq, hbx _ h.out.box rfl, Lib.hid (by rw [hm]; exact h.out.met.out.alt hw e1 e2), ok, h.out.co⟩
theorem rp_step {w0 w w1 w2 : World} {b m q q1 q2 cap1 cap2 n : Nat} {c : PowC} {s s' : PS} (h : RP w0 w w1 b m q n c s q1 cap1) (a : Alt (RX b m) w1 w2) (hq : q2 = q1 ∨ w1.heap.size ≤ q2) (p : Hid (RPl w0 w2 b m q2 cap2 n c s')) : RP w0 w w2 b m q n c s' q2 cap2 :=
  ⟨h.alt.trans a, by have := h.hq; have := h.alt.size; omega, p⟩
theorem rsync_any {w0 w : World} {b m q cap n : Nat} {c : PowC} {s : PS} (h : Hid (RPl w0 w b m q cap n c s)) :
    Calls Try.prog 66 #[.pointer (some ⟨b, 0, none⟩)] w fun e w' => e = .returned (.tuple #[]) ∧ Alt (RX b m) w w' ∧ Hid (RPl w0 w' b m q cap n c (syncP s)) := by
  have hb := h.out.box.cell
  have hf := h.out.box.frozen
  go_enter Try.func66, Try.ntmps66
  go_wp2_with fail
  have a := (Alt.set (S := fun i => i = b) w ⟨b, 1, none⟩ (.int .i64 s.now) rfl).trans (Alt.set (S := fun i => i = b) _ ⟨b, 2, none⟩ (.int .i64 0) rfl)
  refine bodyPost_end (v := .tuple #[]) (by simp [results, Try.results66, go_sem]) rfl ⟨rfl, a.mono (fun i hi => .inl hi), ?_⟩
  exact rp_set h a (fun vs hv e => by subst e; exact (hv.set 1 (.int .i64 s.now)).set 2 (.int .i64 0)) rfl ⟨h.out.ok.now, h.out.ok.now, ⟨Int.le_refl 0, by show (0 : Int) ≤ _; omega⟩, h.out.ok.level, h.out.ok.ok⟩
theorem rp_take {w0 w : World} {b m q cap n : Nat} {c : PowC} {s : PS} (h : Hid (RPl w0 w b m q cap n c s)) (k p pw ns : Int) (i1 : I64 pw) (i2 : I64 ns) :
    Calls Try.prog 120 #[.pointer (some ⟨m, 0, none⟩), .int .i64 k, .int .i64 p, .int .i64 pw, .int .i64 ns] w fun e w' => ∃ r m' q' cap', e = .returned (.int .i64 r) ∧ Hid (Alt (fun i => i = m) w w' ∧ Box w' b #[.int .i64 s.now, .int .i64 s.base, .int .i64 s.done, .int .i64 s.level, .slice c.la c.ln c.lc, .slice c.na c.nn c.nc, .int .i64 c.sw, .int .i64 c.id, .int .i64 c.ch, .int .i64 c.qu, .int .i64 c.sl, .int .i64 c.pp, .pointer (some ⟨m, 0, none⟩)] 108 ∧ RP w0 w w' b m q n c { s with m := m' } q' cap') := by
  have := rtake_any w m q n cap s.m k p pw ns h.out.met h.out.ok.ok i1 i2
  have e1 := box_ne h.out.met.out.box h.out.box (by decide)
  refine this.mono ?_
  rintro e w' ⟨q', cap', rfl, a, hq, hM⟩
  have hb := box_alt h.out.box a (fun e => e1 e.symm)
  have h0 := h.out.bel.size
  exact ⟨_, (tk n s.m k p pw ns).2, q', cap', rfl, Lib.hid ⟨a, hb, a.mono (fun i hi => .inr hi), hq, Lib.hid ⟨a.below h.out.bel h0 (fun i hi => by have := h.out.hm; omega), h.out.hb, h.out.hm, by have := h.out.hq; omega, hb, hM, ⟨h.out.ok.now, h.out.ok.base, h.out.ok.done, h.out.ok.level, tk_ok _ _ _ _ _ _ h.out.ok.ok⟩, h.out.co⟩⟩⟩
end Go.Proofs.Ytgkahcchekiogaa.Plr

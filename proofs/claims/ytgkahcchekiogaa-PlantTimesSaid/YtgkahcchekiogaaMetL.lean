/- The laws of meter: what works; Adds; Sums. -/
import Derived.Test.YtgkahcchekiogaaMetC
namespace Go.Proofs.Ytgkahcchekiogaa.MetL
open Go.RowKit Base Kit RefA Alt WideA WideB Plain MetA MetB MetC
set_option linter.unusedVariables false
set_option linter.unusedSimpArgs false

/-- a meter, since a world -/
structure St (w0 w : World) (m g n : Nat) (s : MS) : Prop where
  bel : Below w0.heap.size w0 w
  hm : w0.heap.size ≤ m
  hg : w0.heap.size ≤ g
  met : Hid (Mtr w m g n n s)
  ok : MOk n s
theorem st_next {w0 w w1 : World} {m g n : Nat} {s : MS} (h : Hid (St w0 w m g n s)) (k : Below w.heap.size w w1) : Hid (St w0 w1 m g n s) :=
  Lib.hid ⟨below_next h.out.bel k, h.out.hm, h.out.hg, Lib.hid (h.out.met.out.below k), h.out.ok⟩
theorem st_drew {w0 w : World} {m g n : Nat} {s : MS} (h : Hid (St w0 w m g n s)) : Hid (St w0 w.drew m g n s) := st_next h ((Below.refl _ _).drew)
theorem st_take {w0 w : World} {m g n : Nat} {s : MS} (h : Hid (St w0 w m g n s)) (k p pw ns : Int) (i1 : I64 pw) (i2 : I64 ns) {r : Int} {s' : MS} (hr : Hid (tk n s k p pw ns = (r, s'))) :
    Calls Try.prog 127 #[.pointer (some ⟨m, 0, none⟩), .int .i64 k, .int .i64 p, .int .i64 pw, .int .i64 ns] w fun e w' => e = .returned (.int .i64 r) ∧ Hid (St w0 w' m g n s') := by
  have hok := tk_ok n s k p pw ns h.out.ok
  have := take_any w m g n n s k p pw ns h.out.met h.out.ok i1 i2
  rw [hr.out] at this hok
  exact this.mono fun e w' hh => ⟨hh.1, Lib.hid ⟨hh.2.1.below h.out.bel h.out.bel.size (fun i hi => by have := h.out.hm; have := h.out.hg; rcases hi with rfl | rfl <;> omega), h.out.hm, h.out.hg, hh.2.2, hok⟩⟩
theorem st_new (w0 w : World) (p : Int) (h : Hid (Below w0.heap.size w0 w)) : Calls Try.prog 59 #[.int .i64 p] w fun e w' => ∃ m g, e = .returned (.pointer (some ⟨m, 0, none⟩)) ∧ Hid (St w0 w' m g (many p) nil) := by
  refine (new_any w p).mono ?_
  rintro e w' ⟨m, g, rfl, hm, hg, hb, hM⟩
  exact ⟨m, g, rfl, Lib.hid ⟨below_next h.out hb, Nat.le_trans h.out.size hm, Nat.le_trans h.out.size hg, hM, nil_ok _ (many_le p)⟩⟩
theorem st_total {w0 w : World} {m g n : Nat} {s : MS} (h : Hid (St w0 w m g n s)) {t : Int} (ht : Hid (tot n s = t)) :
    Calls Try.prog 58 #[.pointer (some ⟨m, 0, none⟩)] w fun e w' => e = .returned (.int .i64 t) ∧ Hid (St w0 w' m g n s) := by
  have := ht.out; subst this
  exact (total_any w m g n n s h.out.met).mono fun e w' hh => ⟨hh.1, by rw [← hh.2]; exact h⟩
theorem st_time {w0 w : World} {m g n : Nat} {s : MS} (h : Hid (St w0 w m g n s)) {t : Int} (ht : Hid (s.tim = t)) :
    Calls Try.prog 20 #[.pointer (some ⟨m, 0, none⟩)] w fun e w' => e = .returned (.int .i64 t) ∧ Hid (St w0 w' m g n s) := by
  have := ht.out; subst this
  exact (time_any w m g n n s h.out.met).mono fun e w' hh => ⟨hh.1, by rw [← hh.2]; exact h⟩

end Go.Proofs.Ytgkahcchekiogaa.MetL

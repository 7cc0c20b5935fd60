/- Walks of the laws of osc: Counts. -/
import Derived.Test.YtgifhcjbaljenaaOscE
import Derived.Deep.RegionHeld3
namespace Go.Proofs.Ytgifhcjbaljenaa.OscG
open Go.RowKit Base WideA WideB OscPlain OscA OscB OscC OscD
set_option linter.unusedVariables false
set_option linter.unusedSimpArgs false

theorem keep' {W w1 : World} (hb : Below W.heap.size W w1) {a : Addr} {v : Value} (h : W.cell? a = some v) : w1.cell? a = some v := keep hb h (lt_of_cell h)
theorem cn_bd (h p ns : Int) : 0 ≤ (cn h p ns).2 ∧ (cn h p ns).2 ≤ 2 := by
  unfold cn; split <;> simp
theorem chk_bd (h p : Int) : 0 ≤ chk h p ∧ chk h p ≤ 2 := by unfold chk; split <;> simp

set_option maxHeartbeats 4000000 in
theorem lawcounts_any (h p n : Int) (w : World) (hh : I64 h) (hp : I64 p) (hn : I64 n) :
    Calls Try.prog 3 #[.agg #[.int .i64 h, .int .i64 p], .int .i64 n] w fun e w' => e = .returned (.bool true) ∧ Below w.heap.size w w' := by
  obtain ⟨s1, s2⟩ := cn_bd h p n
  obtain ⟨t1, t2⟩ := el_bd h p n
  obtain ⟨k1, k2⟩ := chk_bd h p
  obtain ⟨a, ha⟩ : ∃ a, (el h p n).1 = a := ⟨_, rfl⟩
  obtain ⟨x, hx⟩ : ∃ x, (el h p n).2 = x := ⟨_, rfl⟩
  obtain ⟨c, hc⟩ : ∃ c, (cn h p n).1 = c := ⟨_, rfl⟩
  obtain ⟨g, hg⟩ : ∃ g, (cn h p n).2 = g := ⟨_, rfl⟩
  have C1 := Lib.hid (fun w => elapsed_any h p n a x w (by rw [← ha, ← hx]; rfl) hn)
  have C2 := Lib.hid (fun w => elapsedr_any h p n a x w (by rw [← ha, ← hx]; rfl) hn)
  have C3 := Lib.hid (fun w => counts_any h p n c g w (by rw [← hc, ← hg]; rfl) hn)
  have C4 := Lib.hid (fun w => countsr_any h p n c g w (by rw [← hc, ← hg]; rfl) hn)
  have C5 := fun w => check_any h p w
  have C6 := fun w => checkr_any h p w
  rw [hx] at t1 t2
  rw [hg] at s1 s2
  generalize chk h p = k at *
  have C5 := Lib.hid C5; have C6 := Lib.hid C6
  clear ha hx hc hg
  go_enter Try.func3, Try.ntmps3
  go_wp2_with fail
  refine (C1.out _).mono ?_
  rintro e1 w1 ⟨rfl, hb1⟩
  have o1 := (show Cell _ w.heap.size 0 (.int .i64 h) from ⟨by go_simp, by go_simp⟩ : Cell ((w.alloc (Obj.cells #[Value.int IntKind.i64 h, Value.int IntKind.i64 p] 23)).alloc (Obj.cells #[Value.int IntKind.i64 h, Value.int IntKind.i64 p] 24)) _ _ _).below hb1 (by simp; omega)
  have o2 := (show Cell _ w.heap.size 1 (.int .i64 p) from ⟨by go_simp, by go_simp⟩ : Cell ((w.alloc (Obj.cells #[Value.int IntKind.i64 h, Value.int IntKind.i64 p] 23)).alloc (Obj.cells #[Value.int IntKind.i64 h, Value.int IntKind.i64 p] 24)) _ _ _).below hb1 (by simp; omega)
  have c1 := (show Cell _ (w.heap.size + 1) 0 (.int .i64 h) from ⟨by go_simp, by go_simp⟩ : Cell ((w.alloc (Obj.cells #[Value.int IntKind.i64 h, Value.int IntKind.i64 p] 23)).alloc (Obj.cells #[Value.int IntKind.i64 h, Value.int IntKind.i64 p] 24)) _ _ _).below hb1 (by simp)
  have c2 := (show Cell _ (w.heap.size + 1) 1 (.int .i64 p) from ⟨by go_simp, by go_simp⟩ : Cell ((w.alloc (Obj.cells #[Value.int IntKind.i64 h, Value.int IntKind.i64 p] 23)).alloc (Obj.cells #[Value.int IntKind.i64 h, Value.int IntKind.i64 p] 24)) _ _ _).below hb1 (by simp)
  obtain ⟨o1, _⟩ := o1
  obtain ⟨o2, _⟩ := o2
  obtain ⟨c1, _⟩ := c1
  obtain ⟨c2, _⟩ := c2
  have hz1 : w.heap.size + 1 < w1.heap.size := by have := hb1.size; simp at this; omega
  have hB : Below w.heap.size w w1 := (((Below.refl _ _).alloc (Nat.le_refl _) _).alloc (by simp) _).trans (hb1.mono (by simp; omega))
  have HB := Lib.hid hB
  clear hb1 hB
  go_wp2_with fail
  refine (C2.out _).mono ?_
  rintro e1 w2 ⟨rfl, hb2⟩
  have o1 := keep hb2 o1 (by first | (simp; done) | (simp; omega))
  have o2 := keep hb2 o2 (by first | (simp; done) | (simp; omega))
  have c1 := keep hb2 c1 (by first | (simp; done) | (simp; omega))
  have c2 := keep hb2 c2 (by first | (simp; done) | (simp; omega))
  have hz2 : w.heap.size + 1 < w2.heap.size := Nat.lt_of_lt_of_le hz1 hb2.size
  have HB := Lib.hid (HB.out.trans (hb2.mono HB.out.size))
  clear hb2
  go_wp2_with fail
  refine (C3.out _).mono ?_
  rintro e1 w3 ⟨rfl, hb2⟩
  have o1 := keep hb2 o1 (by first | (simp; done) | (simp; omega))
  have o2 := keep hb2 o2 (by first | (simp; done) | (simp; omega))
  have c1 := keep hb2 c1 (by first | (simp; done) | (simp; omega))
  have c2 := keep hb2 c2 (by first | (simp; done) | (simp; omega))
  have hz3 : w.heap.size + 1 < w3.heap.size := Nat.lt_of_lt_of_le hz2 hb2.size
  have HB := Lib.hid (HB.out.trans (hb2.mono HB.out.size))
  clear hb2
  go_wp2_with fail
  refine (C4.out _).mono ?_
  rintro e1 w4 ⟨rfl, hb2⟩
  have o1 := keep hb2 o1 (by first | (simp; done) | (simp; omega))
  have o2 := keep hb2 o2 (by first | (simp; done) | (simp; omega))
  have c1 := keep hb2 c1 (by first | (simp; done) | (simp; omega))
  have c2 := keep hb2 c2 (by first | (simp; done) | (simp; omega))
  have hz4 : w.heap.size + 1 < w4.heap.size := Nat.lt_of_lt_of_le hz3 hb2.size
  have HB := Lib.hid (HB.out.trans (hb2.mono HB.out.size))
  clear hb2
  go_wp2_with fail
  have W := Lib.hid (fun w => works_any w)
  go_region_held3 (fun w' => (w'.cell? ⟨w.heap.size, 0, none⟩ = some (.int .i64 h) ∧ w'.cell? ⟨w.heap.size, 1, none⟩ = some (.int .i64 p) ∧ w'.cell? ⟨w.heap.size + 1, 0, none⟩ = some (.int .i64 h) ∧ w'.cell? ⟨w.heap.size + 1, 1, none⟩ = some (.int .i64 p)))
    (first
      | exact ⟨o1, o2, c1, c2⟩
      | go_keep
      | (go_split_ands
         refine ⟨?_, ?_, ?_, ?_⟩ <;> exact keep' hb5 (by assumption)))
    (first
      | (go_at_call 16; refine (C5.out _).mono ?_; rintro e1 w5 ⟨rfl, hb5⟩; have HB := Lib.hid (show Below w.heap.size w w5 by first | exact HB.out.trans (hb5.mono HB.out.size) | exact HB.out.drew.trans (hb5.mono HB.out.size)))
      | (go_at_call 17; refine (C6.out _).mono ?_; rintro e1 w5 ⟨rfl, hb5⟩; have HB := Lib.hid (show Below w.heap.size w w5 by first | exact HB.out.trans (hb5.mono HB.out.size) | exact HB.out.drew.trans (hb5.mono HB.out.size)))
      | (go_at_call 18; refine (W.out _).mono ?_; rintro e1 w5 ⟨rfl, hb5⟩; have HB := Lib.hid (show Below w.heap.size w w5 by first | exact HB.out.trans (hb5.mono HB.out.size) | exact HB.out.drew.trans (hb5.mono HB.out.size))))
  go_wp2_with fail
  go_ret
  exact ⟨rfl, HB.out⟩

end Go.Proofs.Ytgifhcjbaljenaa.OscG

/- The law of battery: Sums, of no acts. -/
import Derived.Test.YtgifhcjbaljenaaBatD
namespace Go.Proofs.Ytgifhcjbaljenaa.BatE
open Go.RowKit Base WideA WideB BatA BatB BatC BatD
set_option linter.unusedVariables false
set_option linter.unusedSimpArgs false

set_option maxRecDepth 100000 in
set_option maxHeartbeats 8000000 in
theorem sums_none (F F0 S : Int) (sl : Option Addr) (cap : Nat) (w : World) (hb : ¬ bad F F0 S) :
    Calls Try.prog 9 #[.agg #[.int .i64 F, .int .i64 F0, .int .i64 S], .slice sl 0 cap] w fun e w' => e = .returned (.bool true) ∧ Below w.heap.size w w' := by
  have C1 := Lib.hid (fun w => of_any F F0 S w)
  have C2 := Lib.hid (fun w => new_good F F0 S w hb)
  obtain ⟨g1, g2, g3, g4, g5, g6⟩ := good hb
  have CR := Lib.hid (fun w b (L W : Int) (hL : 0 ≤ L ∧ L ≤ F) (h : Bat w b F F0 S L W) => reading_any w b F F0 S L W h (by unfold I64; omega) (by unfold I64; omega) (by unfold I64; omega))
  obtain ⟨r1, r2⟩ := rd_bd (L := F0) g3 g4 g1 g5 g6
  have HR0 := Lib.hid (show rd F0 S F = rd F0 S F from rfl)
  obtain ⟨r0, hr0⟩ : ∃ r0, rd F0 S F = r0 := ⟨_, rfl⟩
  have CR0 := fun w b h => CR.out w b F0 0 (by omega) h
  rw [hr0] at CR0 r1 r2
  have CR0 := Lib.hid CR0
  have HR := Lib.hid hr0
  clear hb hr0 HR0
  go_enter Try.func9, Try.ntmps9
  go_wp2_with fail
  refine (C1.out _).mono ?_
  rintro e1 w1 ⟨rfl, hb1⟩
  have o0 := ((show Cell _ w.heap.size 0 (.int .i64 F) from ⟨by go_simp, by go_simp⟩ : Cell (w.alloc (Obj.cells #[Value.int IntKind.i64 F, Value.int IntKind.i64 F0, Value.int IntKind.i64 S] 42)) _ _ _).below hb1 (by simp)).1
  have o1 := ((show Cell _ w.heap.size 1 (.int .i64 F0) from ⟨by go_simp, by go_simp⟩ : Cell (w.alloc (Obj.cells #[Value.int IntKind.i64 F, Value.int IntKind.i64 F0, Value.int IntKind.i64 S] 42)) _ _ _).below hb1 (by simp)).1
  have o2 := ((show Cell _ w.heap.size 2 (.int .i64 S) from ⟨by go_simp, by go_simp⟩ : Cell (w.alloc (Obj.cells #[Value.int IntKind.i64 F, Value.int IntKind.i64 F0, Value.int IntKind.i64 S] 42)) _ _ _).below hb1 (by simp)).1
  have hz1 : w.heap.size < w1.heap.size := by have := hb1.size; simp at this; omega
  have HB := Lib.hid (((Below.refl w.heap.size w).alloc (Nat.le_refl _) _).trans (hb1.mono (by simp)))
  clear hb1
  go_wp2_with fail
  refine (C2.out _).mono ?_
  rintro e1 w2 ⟨b, rfl, hb2, hbl, hbat⟩
  have o0 := keep hb2 o0 (by first | (simp; done) | (simp; omega))
  have o1 := keep hb2 o1 (by first | (simp; done) | (simp; omega))
  have o2 := keep hb2 o2 (by first | (simp; done) | (simp; omega))
  have hz2 : w.heap.size < w2.heap.size := Nat.lt_of_lt_of_le hz1 hb2.size
  have HB := Lib.hid (HB.out.trans (hb2.mono (Nat.le_of_lt hz1)))
  clear hb2
  have HT := Lib.hid hbat
  have hbl : w.heap.size < b := by omega
  clear hbat C1 C2
  go_wp2_with fail
  go_region_held3 (fun w' => (w'.cell? ⟨w.heap.size, 1, none⟩ = some (.int .i64 F0)))
    (first
      | exact o1
      | go_keep
      | (go_split_ands; exact keep' hb5 (by assumption)))
    (first
      | (go_at_call 34; refine (CR0.out _ b (by exact HT.out)).mono ?_; rintro e1 w5 ⟨rfl, hb5⟩))
  have HT := Lib.hid (Bat.below (w := w2.drew) (by exact HT.out) hb5)
  have HB := Lib.hid ((show Below w.heap.size w w2.drew from HB.out.drew).trans (hb5.mono (Nat.le_of_lt hz2)))
  have p0 := keep' (w1 := w5) hb5 (show w2.drew.cell? ⟨w.heap.size, 0, none⟩ = _ from o0)
  have p2 := keep' (w1 := w5) hb5 (show w2.drew.cell? ⟨w.heap.size, 2, none⟩ = _ from o2)
  have hz5 : w.heap.size < w5.heap.size := Nat.lt_of_lt_of_le hz2 hb5.size
  have HP := Lib.hid (show w5.cell? ⟨w.heap.size, 0, none⟩ = some (.int .i64 F) ∧ w5.cell? ⟨w.heap.size, 2, none⟩ = some (.int .i64 S) from ⟨p0, p2⟩)
  clear p0 p2 o0 o1 o2 hb5 CR0
  go_wp2_with fail
  refine wp_loop_rounds 1 ?_
  rw [rounds_succ]
  go_wp2_with fail
  refine (works_any _).mono ?_
  rintro e1 w7 ⟨rfl, hb7⟩
  go_wp2_with fail
  go_ret
  exact ⟨rfl, HB.out.trans (hb7.mono (Nat.le_of_lt (by omega)))⟩

end Go.Proofs.Ytgifhcjbaljenaa.BatE

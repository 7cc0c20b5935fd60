/- slices.SortedFunc of slices.Values over entries. -/
import Derived.Maps.OwnIn
import Derived.Test.YtlafeijkpnpdeaaAgza
import Derived.Test.YtlafeijkpnpdeaaAgy
namespace Go.Proofs.Ytlafeijkpnpdeaa.Agzb
open Go.RowKit Go.Shelf Base Kit Alt Held Agp Aga Agb Agc Agd Age Agf Agg Agh Agi Agk Agm Agn Agx Agy Agza
set_option linter.unusedVariables false
set_option linter.unusedSimpArgs false
theorem Len0 (w : World) : Calls Try.prog 42 #[.int .u64 0] w fun e w' => e = .returned (.int .i64 0) ∧ w = w' := by
  have h := Any.bits_Len (SlLaysF0.n15.bits (P := Try.prog) (ρ := sortE_ren) { sortE with }) 0 w (by omega) (by omega)
  exact h.mono (fun e w' h => ⟨h.1, h.2.symm⟩)
theorem Ins0 (a : Option Addr) (cap : Nat) (f : Value) (w : World) : Calls Try.prog 43 #[.slice a 0 cap, .int .i64 0, .int .i64 0, f] w fun e w' => e = .returned (.tuple #[]) ∧ w = w' := by
  go_enter Try.func43, Try.ntmps43
  go_wp2_with fail
  refine wp_loop_rounds 1 ?_
  rw [rounds_succ]
  go_wp2_with fail
  go_end0
  exact ⟨rfl, rfl⟩
theorem Pdq0 (a : Option Addr) (cap : Nat) (l : Int) (f : Value) (w : World) : Calls Try.prog 41 #[.slice a 0 cap, .int .i64 0, .int .i64 0, .int .i64 l, f] w fun e w' => e = .returned (.tuple #[]) ∧ w = w' := by
  have e0 : IntKind.i64.wrap 0 = 0 := rfl
  go_enter Try.func41, Try.ntmps41
  go_wp2_with fail
  refine wp_loop_rounds 1 ?_
  rw [rounds_succ]
  go_wp2_with fail
  refine (Ins0 a cap f w).mono ?_
  rintro e w1 ⟨rfl, e9⟩
  cases e9
  go_wp2_with fail
  exact bodyPost_ret (results_none rfl _ _ _) rfl ⟨rfl, rfl⟩
theorem Sort0 (a : Option Addr) (cap : Nat) (f : Value) (w : World) : Calls Try.prog 35 #[.slice a 0 cap, f] w fun e w' => e = .returned (.tuple #[]) ∧ w = w' := by
  have e0 : IntKind.u64.wrap 0 = 0 := rfl
  go_enter Try.func35, Try.ntmps35
  go_wp2_with fail
  refine (Len0 w).mono ?_
  rintro e w1 ⟨rfl, e9⟩
  cases e9
  go_wp2_with fail
  refine (Pdq0 a cap 0 f w).mono ?_
  rintro e w1 ⟨rfl, e9⟩
  cases e9
  go_wp2_with fail
  go_end0
  exact ⟨rfl, rfl⟩
def SoPost (w : World) (n : Nat) (L : List E) (r : Ending) (w' : World) : Prop := ∃ (v : Value) (D : List E), r = .returned v ∧ D.Perm L ∧ (∀ i j, i < j → j < n → ¬ lt (at_ D j) (at_ D i)) ∧ w'.ownsRow w.heap.size 33 3 v n (encE D) ∧ Below w.heap.size w w'
theorem Sorted_any (Bc cap : Nat) (a : Option Addr) (L : List E) (w : World) (hBc : Bc < w.heap.size) (hc : w.cell? ⟨Bc, 0, none⟩ = some (.slice a L.length cap)) (hl : L.length ≤ 1000) (h : Hid (Ents w a L w.heap.size w.heap.size)) :
    Calls Try.prog 28 #[.func (.func 36) #[] #[.pointer (some ⟨Bc, 0, none⟩)], .func (.func 26) #[] #[]] w (SoPost w L.length L) := by
  have C := Lib.hid (Collect_any Bc cap a L w hBc hc hl h)
  clear hc
  go_enter Try.func28, Try.ntmps28
  go_wp2_with fail
  refine C.out.mono ?_
  rintro e w1 ⟨v, rfl, ho, hb⟩
  have HO := Lib.hid ho
  have HB := Lib.hid hb
  obtain ⟨a1, cap1, rfl⟩ := own_val ho
  clear ho hb
  by_cases hn : L.length = 0
  · obtain rfl : L = [] := List.eq_nil_of_length_eq_zero hn
    have HO : Hid (w1.ownsRow w.heap.size 33 3 (.slice a1 0 cap1) 0 (encE [])) := HO
    simp only [List.length_nil]
    go_wp2_with fail
    refine (Sort0 a1 cap1 _ w1).mono ?_
    rintro e w2 ⟨rfl, e9⟩
    cases e9
    go_wp2_with fail
    go_ret
    exact ⟨_, [], rfl, .refl _, fun i j _ h => absurd h (by simp), HO.out, HB.out⟩
  · obtain ⟨g, c, ev1, hg1, hg2⟩ := own_form HO.out (fun e => by simp only [Value.slice.injEq] at e; exact hn e.2.1)
    simp only [Value.slice.injEq, true_and] at ev1
    obtain ⟨rfl, rfl⟩ := ev1
    have S := Lib.hid (Sort_any w.heap.size g L.length cap1 L w1 rfl hl HO.out)
    generalize L.length = n at *
    go_wp2_with fail
    refine S.out.mono ?_
    rintro e w2 ⟨rfl, D, h1, h2, h3, h4⟩
    replace h1 := Lib.hid h1
    replace h2 := Lib.hid h2
    replace h3 := Lib.hid h3
    replace h4 := Lib.hid h4
    go_wp2_with fail
    go_ret
    exact ⟨_, D, rfl, h1.out, h2.out, h3.out, fromGrown HB.out h4.out HB.out.size hg1⟩
end Go.Proofs.Ytlafeijkpnpdeaa.Agzb

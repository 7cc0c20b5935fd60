/- rate.Order of any processes. -/
import Derived.Test.YtgkahcchekiogaaRtv
import Derived.Test.YtgkahcchekiogaaRti
namespace Go.Proofs.Ytgkahcchekiogaa.Rtx
open Go.RowKit Go.Shelf Base Kit WideA WideB Plain RefA Alt Held Rtf Rtg Rti Rto Rtq Rtj Rtk Rtl Rtm Rtn Rtu Rtv
set_option linter.unusedVariables false
set_option linter.unusedSimpArgs false
theorem Ins0 (lb : Nat) (w : World) : Calls Try.prog 168 #[.slice none 0 0, .int .i64 0, .int .i64 0, (.func (.func 117) #[] #[.pointer (some ⟨lb, 0, none⟩)])] w fun e w' => e = .returned (.tuple #[]) ∧ w = w' := by
  go_enter Try.func168, Try.ntmps168
  go_wp2_with fail
  refine wp_loop_rounds 1 ?_
  rw [rounds_succ]
  go_wp2_with fail
  refine bodyPost_end (v := .tuple #[]) ?_ rfl ⟨rfl, rfl⟩
  simp [results, Try.results168, go_sem]
theorem Stable0 (lb : Nat) (w : World) : Calls Try.prog 152 #[.slice none 0 0, .int .i64 0, (.func (.func 117) #[] #[.pointer (some ⟨lb, 0, none⟩)])] w fun e w' => e = .returned (.tuple #[]) ∧ w = w' := by
  go_enter Try.func152, Try.ntmps152
  go_wp2_with fail
  refine wp_loop_rounds 1 ?_
  rw [rounds_succ]
  go_wp2_with fail
  refine (Ins0 lb w).mono ?_
  rintro e w1 ⟨rfl, e9⟩
  cases e9
  go_wp2_with fail
  refine wp_loop_rounds 1 ?_
  rw [rounds_succ]
  go_wp2_with fail
  refine bodyPost_end (v := .tuple #[]) ?_ rfl ⟨rfl, rfl⟩
  simp [results, Try.results152, go_sem]
theorem Sort0 (lb : Nat) (w : World) : Calls Try.prog 116 #[.slice none 0 0, (.func (.func 117) #[] #[.pointer (some ⟨lb, 0, none⟩)])] w fun e w' => e = .returned (.tuple #[]) ∧ w = w' := by
  go_enter Try.func116, Try.ntmps116
  go_wp2_with fail
  refine (Stable0 lb w).mono ?_
  rintro e w1 ⟨rfl, e9⟩
  cases e9
  go_wp2_with fail
  refine bodyPost_end (v := .tuple #[]) ?_ rfl ⟨rfl, rfl⟩
  simp [results, Try.results116, go_sem]
theorem sort_any (f : Nat → Nat → Int) (lb g n cap : Nat) (d : D) (w0 w : World) (C : Hid (Cmp n f w0 g lb)) (hf : Hid (∀ x, x < n → f x 1 ≤ 9223372036854775807)) (H : Hid (Sw w0 w g n cap d)) (G : Hid (Gdo (ky f) d n)) :
    Calls Try.prog 116 #[.slice (some ⟨g, 0, none⟩) n cap, (.func (.func 117) #[] #[.pointer (some ⟨lb, 0, none⟩)])] w (SoP w0 g n cap (ky f) d 0 n) := by
  have S := Lib.hid (stable_any f lb g n cap d w0 w C hf H G)
  go_enter Try.func116, Try.ntmps116
  go_wp2_with fail
  refine S.out.mono ?_
  rintro e w1 ⟨rfl, d2, H2, F⟩
  go_wp2_with fail
  refine bodyPost_end (v := .tuple #[]) ?_ rfl ⟨rfl, d2, H2, F⟩
  simp [results, Try.results116, go_sem]
theorem upL_row (n : Nat) : upL n = row (fun i => ((i : Nat) : Int)) n := rfl
theorem gdo_id (k : Nat → Int) (n : Nat) : Gdo k (fun i => i) n := ⟨⟨fun i h => h, fun i j _ _ e => e⟩, fun i j h _ _ => h⟩
/-- the places in order -/
def OrP (f : Nat → Nat → Int) (n : Nat) (w : World) (e : Ending) (w' : World) : Prop :=
  ∃ v d, e = .returned v ∧ w'.ownsRow w.heap.size 3 1 v n (row (fun i => ((d i : Nat) : Int)) n) ∧ Hid (Gdo (ky f) d n ∧ Sr (ky f) d 0 n) ∧ Below w.heap.size w w'
set_option maxRecDepth 100000 in
set_option maxHeartbeats 4000000 in
theorem order_any (a : Option Addr) (n c : Nat) (f : Nat → Nat → Int) (w : World) (h : Hid (Open.RowsIn w a n 3 f)) (hn : n ≤ 100) :
    Calls Try.prog 56 #[.slice a n c] w (OrP f n w) := by
  have hf : Hid (∀ x, x < n → f x 1 ≤ 9223372036854775807) := Lib.hid (fun x hx => by
    obtain ⟨b, off, _, _, _, _, _, _, i1, _⟩ := rows_at3 h x hx
    exact i1.2)
  have B0 := Lib.hid (Box.new w #[.slice a n c] 67)
  have HB0 := Lib.hid ((Below.refl w.heap.size w).alloc (Nat.le_refl _) (.cells #[.slice a n c] 67))
  have SZ : Hid ((w.alloc (.cells #[.slice a n c] 67)).heap.size = w.heap.size + 1) := Lib.hid (by simp)
  have bc := B0.out.cell
  go_enter Try.func56, Try.ntmps56
  go_wp2_with fail
  generalize w.alloc (.cells #[.slice a n c] 67) = W at *
  go_loopw [3, 7] (fun v i wr => ∃ k : Nat, k ≤ n ∧ i = .int .i64 k ∧ wr.ownsRow W.heap.size 3 1 v k (upL k) ∧ Hid (Below W.heap.size W wr) ∧ Hid (k = 0 → v = .slice none 0 0)) (fun _ i _ => n - (intOf i).toNat)
  case atStart => exact ⟨0, Nat.zero_le _, rfl, World.ownsRow_nil _ _ _ _, Lib.hid (Below.refl _ _), Lib.hid (fun _ => rfl)⟩
  case round =>
    obtain ⟨k, hk, rfl, hown, hbel, hk0⟩ := hrel
    by_cases hl : k < n
    · go_wp2_with (at_builtin; go_loud (refine append1 wr rfl _ _ 55 rfl W.heap.size 3 (.int .i64 0) 8 Try.underlying55 infoInt rfl _ (.int .i64 (k : Int)) _ _ _ rfl (by exact hown) rfl rfl ?c1 ?c2 ?c3 ?_))
      case c1 => unfold maxLen; omega
      case c2 => omega
      case c3 => exact hbel.out.size
      intro v' w1 hown1 hsz hb1 _
      go_wp2_with fail
      go_roundw
      case rel => exact ⟨k + 1, by omega, by go_num, by rw [upL_succ]; exact hown1, Lib.hid (hbel.out.trans hb1), Lib.hid (fun z => by omega)⟩
      case measure => simp [intOf]; omega
    · obtain rfl : n = k := by omega
      by_cases hz : n = 0
      · have hv := hk0.out hz
        subst hz
        subst hv
        have HB1 := Lib.hid (HB0.out.trans (hbel.out.mono (by rw [SZ.out]; omega)))
        have S := Lib.hid (Sort0 w.heap.size wr)
        go_wp2_with fail
        refine S.out.mono ?_
        rintro e1 w5 ⟨rfl, e9⟩
        cases e9
        go_wp2_with fail
        go_ret
        exact ⟨_, fun i => i, rfl, World.ownsRow_nil _ _ _ _, Lib.hid ⟨gdo_id _ _, fun s t _ _ h => by omega⟩, HB1.out⟩
      · obtain ⟨g, cap, rfl, hg1, hg2⟩ := ownsRow_open hown (by omega)
        have HB1 := Lib.hid (HB0.out.trans (hbel.out.mono (by rw [SZ.out]; omega)))
        have lbn : w.heap.size ≠ g := by have := SZ.out; omega
        have C : Hid (Cmp n f wr g w.heap.size) := Lib.hid (cmp_of a n c f w.heap.size g wr (Lib.hid (rows_below h.out HB1.out (Nat.le_refl _))) (Lib.hid (B0.out.below hbel.out B0.out.lt)) lbn (fun q off e => by
          obtain ⟨b, off2, e2, hlt, _⟩ := rows_at h 0 (by omega)
          rw [e] at e2
          simp only [Option.some.injEq, Addr.mk.injEq] at e2
          have := SZ.out
          omega))
        have S0 : Hid (Sw wr wr g n cap (fun i => i)) := Lib.hid ⟨Alt.refl _ _, own_base hown (fun _ _ => Nat.zero_le _), hn⟩
        have S := Lib.hid (sort_any f w.heap.size g n cap (fun i => i) wr wr C hf S0 (Lib.hid (gdo_id _ n)))
        clear C S0
        go_wp2_with fail
        refine S.out.mono ?_
        rintro e1 w5 ⟨rfl, d2, H2, F⟩
        have OB : Hid (w5.ownsRow w.heap.size 3 1 (.slice (some ⟨g, 0, none⟩) n cap) n (row (fun i => ((d2 i : Nat) : Int)) n)) := Lib.hid (own_base H2.out.own (fun q hq => by
          simp only [Value.ownBlock, Option.some.injEq] at hq
          have := SZ.out
          omega))
        go_wp2_with fail
        go_ret
        exact ⟨_, d2, rfl, OB.out, Lib.hid ⟨F.out.1, F.out.2.2⟩, H2.out.alt.below HB1.out HB1.out.size (fun i hi => by have := SZ.out; omega)⟩
end Go.Proofs.Ytgkahcchekiogaa.Rtx

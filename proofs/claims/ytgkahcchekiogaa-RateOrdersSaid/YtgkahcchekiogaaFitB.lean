/- Walks of package fit, and of its reference: Need, Supply, Cost. -/
import Derived.Test.YtgkahcchekiogaaFitA
namespace Go.Proofs.Ytgkahcchekiogaa.FitB
open Go.RowKit Base Kit WideA WideB Plain FitA
set_option linter.unusedVariables false
set_option linter.unusedSimpArgs false

theorem of_any (a : Option Addr) (n c : Nat) (f : Nat → Nat → Int) (nv : Value) (sw : Int) (id ch qu sl pp : Value) (fq pw : Int) (w : World) (h : Hid (Open.RowsIn w a n 2 f)) (e0 : Hid (top n f 0 = fq)) (e1 : Hid (top n f 1 = pw)) :
    Calls Try.prog 106 #[.agg #[.slice a n c, nv, .int .i64 sw, id, ch, qu, sl, pp]] w fun e w' => e = .returned (.agg #[.int .i64 fq, .int .i64 pw, .int .i64 sw]) ∧ Below w.heap.size w w' := by
  have C := fun w h => top_any a n c f nv (.int .i64 sw) id ch qu sl pp w h
  rw [e0.out, e1.out] at C
  have C := Lib.hid C
  have h1 := Lib.hid (rows_below h.out (((Below.refl w.heap.size w).alloc (Nat.le_refl _) (.cells #[.slice a n c, nv, .int .i64 sw, id, ch, qu, sl, pp] 25)).alloc (by simp) (.cells #[.int .i64 0, .int .i64 0, .int .i64 0] 168)) (Nat.le_refl _))
  go_enter Try.func106, Try.ntmps106
  go_wp2_with fail
  have b0 := (Box.new w #[.slice a n c, nv, .int .i64 sw, id, ch, qu, sl, pp] 25).alloc (.cells #[.int .i64 0, .int .i64 0, .int .i64 0] 168)
  have b1 := Box.new (w.alloc (.cells #[.slice a n c, nv, .int .i64 sw, id, ch, qu, sl, pp] 25)) #[.int .i64 0, .int .i64 0, .int .i64 0] 168
  have HB0 : Hid (Below w.heap.size w _) := Lib.hid ((((Below.refl w.heap.size w).alloc (Nat.le_refl _) (.cells #[.slice a n c, nv, .int .i64 sw, id, ch, qu, sl, pp] 25)).alloc (by simp) (.cells #[.int .i64 0, .int .i64 0, .int .i64 0] 168)))
  rw [World.size_alloc] at b1
  generalize (w.alloc (.cells #[.slice a n c, nv, .int .i64 sw, id, ch, qu, sl, pp] 25)).alloc (.cells #[.int .i64 0, .int .i64 0, .int .i64 0] 168) = w1 at b0 b1 h1 HB0 ⊢
  have B0 := Lib.hid b0.drew
  have B1 := Lib.hid b1.drew
  have r0 := b0.drew.cell
  have h1 := rows_drew h1
  have HB0 := below_drew HB0
  clear b0 b1
  go_region_held3 (fun w' => ∀ i, w'.cell? ⟨w.heap.size, i, none⟩ = (#[.slice a n c, nv, .int .i64 sw, id, ch, qu, sl, pp] : Array Value)[i]?)
    (first
      | exact r0
      | exact r5
      | exact rule_set (rule_set (rule_set r5 _ _ (by simp)) _ _ (by simp)) _ _ (by simp))
    (first
      | (go_at_call 150; refine (C.out _ (by exact h1)).mono ?_; rintro e1 w5 ⟨rfl, hb5⟩; have r5 := (B0.out.next hb5).cell; have q5 := (B1.out.next hb5).cell; have f5 := (B1.out.next hb5).frozen))
  have B6 : Hid (Box _ (w.heap.size + 1) #[.int .i64 fq, .int .i64 pw, .int .i64 sw] 168) := Lib.hid ((((B1.out.next hb5).set 0 (.int .i64 fq)).set 1 (.int .i64 pw)).set 2 (.int .i64 sw))
  have HB6 := Lib.hid ((((below_next HB0.out hb5).setCell (p := ⟨w.heap.size + 1, 0, none⟩) (by simp) (.int .i64 fq)).setCell (p := ⟨w.heap.size + 1, 1, none⟩) (by simp) (.int .i64 pw)).setCell (p := ⟨w.heap.size + 1, 2, none⟩) (by simp) (.int .i64 sw))
  generalize ((w5.setCell ⟨w.heap.size + 1, 0, none⟩ (.int .i64 fq)).setCell ⟨w.heap.size + 1, 1, none⟩ (.int .i64 pw)).setCell ⟨w.heap.size + 1, 2, none⟩ (.int .i64 sw) = w6 at B6 HB6 ⊢
  have r6 := B6.out.cell
  clear r5 q5 f5
  go_wp2_with fail
  refine bodyPost_ret (v := .agg #[.int .i64 fq, .int .i64 pw, .int .i64 sw]) ?_ rfl ⟨rfl, ?_⟩
  · simp [results, Try.results106, go_sem, r6]
  exact HB6.out

theorem speedis_any (fq pw : Int) (w : World) :
    Calls Try.prog 151 #[.agg #[.int .i64 fq, .int .i64 pw]] w fun e w' => e = .returned (.bool (decide (0 < fq))) ∧ Below w.heap.size w w' := by
  go_enter Try.func151, Try.ntmps151
  go_wp2_with fail
  go_ret
  refine ⟨rfl, ?_⟩
  all_goals (repeat (first | exact Below.refl _ _ | exact HB.out | exact below_in _ (by assumption) | assumption | exact Nat.le_refl _ | refine Below.setCell ?_ (by first | (simp; done) | (simp; omega) | omega) _ | refine Below.alloc ?_ (by first | exact Nat.le_refl _ | (simp; done) | (simp; omega) | omega) _ | refine Below.drew ?_))

theorem may_any (fq pw sw n : Int) (ok : Bool) (w : World) (hok : Hid (decide (0 ≤ n ∧ 0 ≤ sw ∧ 0 < fq) = ok)) :
    Calls Try.prog 107 #[.agg #[.int .i64 fq, .int .i64 pw, .int .i64 sw], .int .i64 n] w fun e w' => e = .returned (.bool ok) ∧ Below w.heap.size w w' := by
  go_enter Try.func107, Try.ntmps107
  go_wp2_with (go_at_call 151; refine (speedis_any _ _ _).mono ?_; rintro e1 w5 ⟨rfl, hb5⟩)
  all_goals go_ret
  all_goals refine ⟨ret_bool ?_, ?_⟩
  all_goals first | (rw [← hok.out]; simp; done) | (rw [← hok.out]; simp; omega) | (rw [← hok.out]; simp [*]; done) | skip
  all_goals (repeat (first | exact Below.refl _ _ | exact HB.out | exact below_in _ (by assumption) | assumption | exact Nat.le_refl _ | refine Below.setCell ?_ (by first | (simp; done) | (simp; omega) | omega) _ | refine Below.alloc ?_ (by first | exact Nat.le_refl _ | (simp; done) | (simp; omega) | omega) _ | refine Below.drew ?_))

theorem md_bd (a b c : Int) (up : Bool) (hc : 1 ≤ c → 0 ≤ a → 0 ≤ b → True) : 0 ≤ (md a b c up).1 ∧ (md a b c up).1 ≤ 9223372036854775807 ∧ 0 ≤ (md a b c up).2 ∧ (md a b c up).2 ≤ 6 := by
  unfold md
  split
  · simp
  · rename_i h
    have h1 : 0 ≤ a := by omega
    have h2 : 0 ≤ b := by omega
    have h3 : 1 ≤ c := by omega
    have hp : 0 ≤ a * b := Int.mul_nonneg h1 h2
    have hq : 0 ≤ mdQ a b c up := by
      unfold mdQ; split
      · exact Int.ediv_nonneg (by omega) (by omega)
      · exact Int.ediv_nonneg (by omega) (by omega)
    split
    · exact ⟨hq, by assumption, by simp, by simp⟩
    · simp

/-- what cycles need, what a time supplies, what cycles cost -/
def nd (fq sw cyc : Int) : Int × Int :=
  if cyc < 0 ∨ sw < 0 ∨ fq < 1 then (0, 2) else if (md cyc 1000 fq true).2 ≠ 0 then (0, (md cyc 1000 fq true).2)
  else if 9223372036854775807 < sw + (md cyc 1000 fq true).1 then (0, 6) else (sw + (md cyc 1000 fq true).1, 0)
def sp (fq sw len : Int) : Int × Int := if len < 0 ∨ sw < 0 ∨ fq < 1 then (0, 2) else if len < sw then (0, 0) else md (len - sw) fq 1000 false
def cs (fq pw cyc : Int) : Int × Int :=
  if cyc < 0 ∨ fq < 1 ∨ pw < 0 then (0, 2) else if (md 1000 pw 1 false).2 ≠ 0 then (0, (md 1000 pw 1 false).2) else md cyc (md 1000 pw 1 false).1 fq true

theorem sum_two (x y : Int) (hx : 0 ≤ x) (hy : 0 ≤ y) : sumR (fun i => if i = 0 then x else y) 2 = if 9223372036854775807 < x + y then (0, 6) else (x + y, 0) := by
  unfold sumR
  rw [negTo_false.2 (fun i hi => by split <;> assumption)]
  simp [sumTo]
theorem ints_two (w : World) (b : Nat) (x y : Int) (T : TypeId) (hb : Box w b #[.int .i64 x, .int .i64 y] T) (hx : I64 x) (hy : I64 y) : WideS.IntsIn w (some ⟨b, 0, none⟩) 2 (fun i => if i = 0 then x else y) := by
  refine ⟨by omega, .inr ⟨b, 0, rfl, hb.lt, fun i hi => ?_⟩, fun i hi => ?_⟩
  · rw [hb.cell]
    match i with
    | 0 => rfl
    | 1 => rfl
  · dsimp only
    split
    · exact hx
    · exact hy

theorem time_any (fq pw cyc : Int) (w : World) (h1 : I64 fq) (h2 : I64 cyc) :
    Calls Try.prog 165 #[.agg #[.int .i64 fq, .int .i64 pw], .int .i64 cyc] w fun e w' => e = .returned (.tuple #[.int .i64 (md cyc 1000 fq true).1, .int .i64 (md cyc 1000 fq true).2]) ∧ Below w.heap.size w w' := by
  go_enter Try.func165, Try.ntmps165
  go_wp2_with fail
  refine (md_any cyc 1000 fq true _ h2.1 h2.2 (by omega) (by omega) h1.1 h1.2).mono ?_
  rintro e w2 ⟨rfl, hb2⟩
  go_wp2_with fail
  go_ret2
  exact ⟨rfl, below_in _ hb2⟩
theorem cycles_any (fq pw ns : Int) (w : World) (h1 : I64 fq) (h2 : I64 ns) :
    Calls Try.prog 108 #[.agg #[.int .i64 fq, .int .i64 pw], .int .i64 ns] w fun e w' => e = .returned (.tuple #[.int .i64 (md ns fq 1000 false).1, .int .i64 (md ns fq 1000 false).2]) ∧ Below w.heap.size w w' := by
  go_enter Try.func108, Try.ntmps108
  go_wp2_with fail
  refine (md_any ns fq 1000 false _ h2.1 h2.2 h1.1 h1.2 (by omega) (by omega)).mono ?_
  rintro e w2 ⟨rfl, hb2⟩
  go_wp2_with fail
  go_ret2
  exact ⟨rfl, below_in _ hb2⟩

set_option maxRecDepth 100000 in
set_option maxHeartbeats 1000000 in
theorem need_any (a : Option Addr) (n c : Nat) (f : Nat → Nat → Int) (nv : Value) (sw : Int) (id ch qu sl pp : Value) (cyc r1 r2 : Int) (w : World) (h : Hid (Open.RowsIn w a n 2 f)) (hs : I64 sw) (hcy : I64 cyc) (hr : Hid (nd (top n f 0) sw cyc = (r1, r2))) :
    Calls Try.prog 147 #[.agg #[.slice a n c, nv, .int .i64 sw, id, ch, qu, sl, pp], .int .i64 cyc] w fun e w' => e = .returned (.tuple #[.int .i64 r1, .int .i64 r2]) ∧ Below w.heap.size w w' := by
  have hr := hr.out
  obtain ⟨fq, hfq⟩ : ∃ fq, top n f 0 = fq := ⟨_, rfl⟩
  obtain ⟨pw, hpw⟩ : ∃ pw, top n f 1 = pw := ⟨_, rfl⟩
  have i0 := top_i64 h 0 (by omega)
  rw [hfq] at hr i0
  have C1 := Lib.hid (fun w h => of_any a n c f nv sw id ch qu sl pp fq pw w h (Lib.hid hfq) (Lib.hid hpw))
  clear hfq hpw
  have pre : ∀ ok : Bool, Hid (decide (0 ≤ cyc ∧ 0 ≤ sw ∧ 0 < fq) = ok) → (ok = true → True) → True := fun _ _ _ => trivial
  by_cases hbad : cyc < 0 ∨ sw < 0 ∨ fq < 1
  · unfold nd at hr
    rw [if_pos hbad] at hr
    obtain ⟨rfl, rfl⟩ : r1 = 0 ∧ r2 = 2 := by simpa using hr.symm
    have C2 := Lib.hid (fun w => may_any fq pw sw cyc false w (Lib.hid (by simp; omega)))
    clear hr hbad
    go_enter Try.func147, Try.ntmps147
    go_wp2_with fail
    refine (C1.out _ (rows_alloc h _)).mono ?_
    rintro e1 w2 ⟨rfl, hb2⟩
    have HB := Lib.hid (below_in _ hb2)
    clear hb2
    go_wp2_with fail
    refine (C2.out _).mono ?_
    rintro e1 w3 ⟨rfl, hb3⟩
    have HB := below_alloc _ HB hb3
    clear hb3
    go_wp2_with fail
    go_ret2
    exact ⟨rfl, HB.out⟩
  · unfold nd at hr
    rw [if_neg hbad] at hr
    have C2 := Lib.hid (fun w => may_any fq pw sw cyc true w (Lib.hid (by simp; omega)))
    obtain ⟨m, hm⟩ : ∃ m, (md cyc 1000 fq true).1 = m := ⟨_, rfl⟩
    obtain ⟨e, he⟩ : ∃ e, (md cyc 1000 fq true).2 = e := ⟨_, rfl⟩
    obtain ⟨m0, m1, m2, m3⟩ := md_bd cyc 1000 fq true (fun _ _ _ => trivial)
    have C3 := fun w => time_any fq pw cyc w i0 hcy
    rw [hm] at hr m0 m1 C3
    rw [he] at hr m2 m3 C3
    have C3 := Lib.hid C3
    clear hm he
    by_cases hez : e = 0
    · subst hez
      rw [if_neg (by simp)] at hr
      have C4 := fun w b hb => WideS.sum_any (some ⟨b, 0, none⟩) 2 2 (fun i => if i = 0 then sw else m) w (ints_two w b sw m 3 hb hs ⟨by omega, by omega⟩)
      rw [sum_two sw m (by omega) m0, hr] at C4
      have C4 := Lib.hid C4
      have hsw : 0 ≤ sw := by omega
      clear hr hbad
      go_enter Try.func147, Try.ntmps147
      go_wp2_with fail
      refine (C1.out _ (rows_alloc h _)).mono ?_
      rintro e1 w2 ⟨rfl, hb2⟩
      have HB := Lib.hid (below_in _ hb2)
      clear hb2
      go_wp2_with fail
      refine (C2.out _).mono ?_
      rintro e1 w3 ⟨rfl, hb3⟩
      have HB := below_alloc _ HB hb3
      have BX := Lib.hid ((Box.new w2 _ _).next hb3)
      have bc := BX.out.cell
      clear hb3
      go_wp2_with fail
      refine (C3.out _).mono ?_
      rintro e1 w4 ⟨rfl, hb4⟩
      have HB := below_hid HB hb4
      have BX := Lib.hid (BX.out.next hb4)
      clear bc
      have bc := BX.out.cell
      clear hb4
      go_wp2_with fail
      refine (C4.out _ _ (by exact Box.new w4 _ _)).mono ?_
      rintro e1 w5 ⟨rfl, hb5⟩
      have HB := below_alloc _ HB hb5
      clear hb5
      go_wp2_with fail
      go_ret2
      exact ⟨rfl, HB.out⟩
    · rw [if_pos hez] at hr
      obtain ⟨rfl, rfl⟩ : r1 = 0 ∧ r2 = e := by simpa using hr.symm
      have hez' : (r2 != 0) = true := by simpa using hez
      clear hr hbad hez
      go_enter Try.func147, Try.ntmps147
      go_wp2_with fail
      refine (C1.out _ (rows_alloc h _)).mono ?_
      rintro e1 w2 ⟨rfl, hb2⟩
      have HB := Lib.hid (below_in _ hb2)
      clear hb2
      go_wp2_with fail
      refine (C2.out _).mono ?_
      rintro e1 w3 ⟨rfl, hb3⟩
      have HB := below_alloc _ HB hb3
      have BX := Lib.hid ((Box.new w2 _ _).next hb3)
      have bc := BX.out.cell
      clear hb3
      go_wp2_with fail
      refine (C3.out _).mono ?_
      rintro e1 w4 ⟨rfl, hb4⟩
      have HB := below_hid HB hb4
      clear hb4
      go_wp2_with fail
      go_ret2
      exact ⟨rfl, HB.out⟩
end Go.Proofs.Ytgkahcchekiogaa.FitB

import Derived.Laws.StructEq
import Derived.Test.YtlafeijkpnpdeaaGreatMg9
import Derived.Test.YtlafeijkpnpdeaaGreatMg4
import Derived.Test.YtlafeijkpnpdeaaGreatMg5

/- Walks of package fit, and of its reference: full speed. -/
namespace Go.Proofs.YtlafeijkpnpdeaaGreat.FitA
open Go.RowKit Base Kit WideA WideB Plain
set_option linter.unusedVariables false
set_option linter.unusedSimpArgs false

/-- full speed's Freq (0), and Power (1) -/
def top (n : Nat) (f : Nat → Nat → Int) (j : Nat) : Int := if n = 0 then 0 else f (n - 1) j

theorem top_i64 {w : World} {a : Option Addr} {n : Nat} {f : Nat → Nat → Int} (h : Hid (Open.RowsIn w a n 2 f)) (j : Nat) (hj : j < 2) : I64 (top n f j) := by
  unfold top; split
  · exact ⟨by omega, by omega⟩
  · exact h.out.2.2 (n - 1) (by omega) j hj

theorem run_field (x y : Int) (w : World) : (Instr.field 88 (.agg #[.int .i64 x, .int .i64 y]) 0).run Tryz.prog w = .ok (.int .i64 x) w := by kernel_rfl
theorem feq (x y : Int) (w : World) : (binOp .eql 88 (.agg #[.int .i64 x, .int .i64 y]) (.agg #[.int .i64 x, .int .i64 y])).run Tryz.prog w = .ok (.bool true) w := by
  have h1 : Tryz.prog.underlying 88 = some (.struct (Tryz.prog.fieldsOf 88)) := by kernel_rfl
  have h2 : Tryz.prog.stoodInHeld 88 = false := by kernel_rfl
  rw [run_eql_struct, run_equalIn_struct w 9999 _ _ _ h1 h2]
  unfold Program.fieldsOf
  rw [Tryz.underlying88]
  simp [go_sem, run_equalIn_int (P := Tryz.prog) _ 9998 3 .i64 .i64 _ _ Tryz.underlying3]
theorem top_any (a : Option Addr) (n c : Nat) (f : Nat → Nat → Int) (nv : Value) (sw id ch qu sl pp : Value) (w : World) (h : Hid (Open.RowsIn w a n 2 f)) :
    Calls Tryz.prog 95 #[.agg #[.slice a n c, nv, sw, id, ch, qu, sl, pp]] w fun e w' => e = .returned (.agg #[.int .i64 (top n f 0), .int .i64 (top n f 1)]) ∧ Below w.heap.size w w' := by
  have hm := h.out.1
  by_cases h0 : n = 0
  · have e0 : top n f 0 = 0 := by unfold top; rw [if_pos h0]
    have e1 : top n f 1 = 0 := by unfold top; rw [if_pos h0]
    rw [e0, e1]
    subst h0
    clear e0 e1
    go_enter Tryz.func95, Tryz.ntmps95
    go_wp2_with fail
    refine bodyPost_ret (v := .agg #[.int .i64 0, .int .i64 0]) ?_ rfl ⟨rfl, ?_⟩
    · simp [results, Tryz.results95, go_sem]
    all_goals (repeat (first | exact Below.refl _ _ | exact HB.out | exact below_in _ (by assumption) | assumption | exact Nat.le_refl _ | refine Below.setCell ?_ (by first | (simp; done) | (simp; omega) | omega) _ | refine Below.alloc ?_ (by first | exact Nat.le_refl _ | (simp; done) | (simp; omega) | omega) _ | refine Below.drew ?_))
  · obtain ⟨b, off, rfl, hlt, c0, c1, i0, i1⟩ := rows_at2 h (n - 1) (by omega)
    have e0 : top n f 0 = f (n - 1) 0 := by unfold top; rw [if_neg h0]
    have e1 : top n f 1 = f (n - 1) 1 := by unfold top; rw [if_neg h0]
    rw [e0, e1]
    generalize f (n - 1) 0 = x at *
    generalize f (n - 1) 1 = y at *
    have h1 : 1 ≤ n := by omega
    have hnb : ((n : Int) == 0) = false := by simp; omega
    clear e0 e1
    go_enter Tryz.func95, Tryz.ntmps95
    go_wp2_with fail
    refine bodyPost_ret (v := .agg #[.int .i64 x, .int .i64 y]) ?_ rfl ⟨rfl, ?_⟩
    · simp [results, Tryz.results95, go_sem]
    all_goals (repeat (first | exact Below.refl _ _ | exact HB.out | exact below_in _ (by assumption) | assumption | exact Nat.le_refl _ | refine Below.setCell ?_ (by first | (simp; done) | (simp; omega) | omega) _ | refine Below.alloc ?_ (by first | exact Nat.le_refl _ | (simp; done) | (simp; omega) | omega) _ | refine Below.drew ?_))
theorem topr_any (a : Option Addr) (n c : Nat) (f : Nat → Nat → Int) (nv : Value) (sw id ch qu sl pp : Value) (w : World) (h : Hid (Open.RowsIn w a n 2 f)) :
    Calls Tryz.prog 126 #[.agg #[.slice a n c, nv, sw, id, ch, qu, sl, pp]] w fun e w' => e = .returned (.agg #[.int .i64 (top n f 0), .int .i64 (top n f 1)]) ∧ Below w.heap.size w w' := by
  have hm := h.out.1
  by_cases h0 : n = 0
  · have e0 : top n f 0 = 0 := by unfold top; rw [if_pos h0]
    have e1 : top n f 1 = 0 := by unfold top; rw [if_pos h0]
    rw [e0, e1]
    subst h0
    clear e0 e1
    go_enter Tryz.func126, Tryz.ntmps126
    go_wp2_with fail
    refine bodyPost_ret (v := .agg #[.int .i64 0, .int .i64 0]) ?_ rfl ⟨rfl, ?_⟩
    · simp [results, Tryz.results126, go_sem]
    all_goals (repeat (first | exact Below.refl _ _ | exact HB.out | exact below_in _ (by assumption) | assumption | exact Nat.le_refl _ | refine Below.setCell ?_ (by first | (simp; done) | (simp; omega) | omega) _ | refine Below.alloc ?_ (by first | exact Nat.le_refl _ | (simp; done) | (simp; omega) | omega) _ | refine Below.drew ?_))
  · obtain ⟨b, off, rfl, hlt, c0, c1, i0, i1⟩ := rows_at2 h (n - 1) (by omega)
    have e0 : top n f 0 = f (n - 1) 0 := by unfold top; rw [if_neg h0]
    have e1 : top n f 1 = f (n - 1) 1 := by unfold top; rw [if_neg h0]
    rw [e0, e1]
    generalize f (n - 1) 0 = x at *
    generalize f (n - 1) 1 = y at *
    have h1 : 1 ≤ n := by omega
    have hnb : ((n : Int) == 0) = false := by simp; omega
    clear e0 e1
    go_enter Tryz.func126, Tryz.ntmps126
    go_wp2_with fail
    refine bodyPost_ret (v := .agg #[.int .i64 x, .int .i64 y]) ?_ rfl ⟨rfl, ?_⟩
    · simp [results, Tryz.results126, go_sem]
    all_goals (repeat (first | exact Below.refl _ _ | exact HB.out | exact below_in _ (by assumption) | assumption | exact Nat.le_refl _ | refine Below.setCell ?_ (by first | (simp; done) | (simp; omega) | omega) _ | refine Below.alloc ?_ (by first | exact Nat.le_refl _ | (simp; done) | (simp; omega) | omega) _ | refine Below.drew ?_))
end Go.Proofs.YtlafeijkpnpdeaaGreat.FitA

/- Walks of package fit, and of its reference: Need, Supply, Cost. -/
namespace Go.Proofs.YtlafeijkpnpdeaaGreat.FitB
open Go.RowKit Base Kit WideA WideB Plain FitA
set_option linter.unusedVariables false
set_option linter.unusedSimpArgs false

theorem of_any (a : Option Addr) (n c : Nat) (f : Nat → Nat → Int) (nv : Value) (sw : Int) (id ch qu sl pp : Value) (fq pw : Int) (w : World) (h : Hid (Open.RowsIn w a n 2 f)) (e0 : Hid (top n f 0 = fq)) (e1 : Hid (top n f 1 = pw)) :
    Calls Tryz.prog 63 #[.agg #[.slice a n c, nv, .int .i64 sw, id, ch, qu, sl, pp]] w fun e w' => e = .returned (.agg #[.int .i64 fq, .int .i64 pw, .int .i64 sw]) ∧ Below w.heap.size w w' := by
  have C := fun w h => top_any a n c f nv (.int .i64 sw) id ch qu sl pp w h
  rw [e0.out, e1.out] at C
  have C := Lib.hid C
  have h1 := Lib.hid (rows_below h.out (((Below.refl w.heap.size w).alloc (Nat.le_refl _) (.cells #[.slice a n c, nv, .int .i64 sw, id, ch, qu, sl, pp] 28)).alloc (by simp) (.cells #[.int .i64 0, .int .i64 0, .int .i64 0] 124)) (Nat.le_refl _))
  go_enter Tryz.func63, Tryz.ntmps63
  go_wp2_with fail
  have b0 := (Box.new w #[.slice a n c, nv, .int .i64 sw, id, ch, qu, sl, pp] 28).alloc (.cells #[.int .i64 0, .int .i64 0, .int .i64 0] 124)
  have b1 := Box.new (w.alloc (.cells #[.slice a n c, nv, .int .i64 sw, id, ch, qu, sl, pp] 28)) #[.int .i64 0, .int .i64 0, .int .i64 0] 124
  have HB0 : Hid (Below w.heap.size w _) := Lib.hid ((((Below.refl w.heap.size w).alloc (Nat.le_refl _) (.cells #[.slice a n c, nv, .int .i64 sw, id, ch, qu, sl, pp] 28)).alloc (by simp) (.cells #[.int .i64 0, .int .i64 0, .int .i64 0] 124)))
  rw [World.size_alloc] at b1
  generalize (w.alloc (.cells #[.slice a n c, nv, .int .i64 sw, id, ch, qu, sl, pp] 28)).alloc (.cells #[.int .i64 0, .int .i64 0, .int .i64 0] 124) = w1 at b0 b1 h1 HB0 ⊢
  have B0 := Lib.hid b0.drew
  have B1 := Lib.hid b1.drew
  have r0 := b0.drew.cell
  have h1 := rows_drew h1
  have HB0 := below_drew HB0
  clear b0 b1
  go_region_held3 (fun w' => ∀ i, w'.cell? ⟨w.heap.size, i, none⟩ = (#[.slice a n c, nv, .int .i64 sw, id, ch, qu, sl, pp] : Array Value)[i]?)
    (first
      | exact r0
      | exact r5
      | exact rule_set (rule_set (rule_set r5 _ _ (by simp)) _ _ (by simp)) _ _ (by simp))
    (first
      | (go_at_call 95; refine (C.out _ (by exact h1)).mono ?_; rintro e1 w5 ⟨rfl, hb5⟩; have r5 := (B0.out.next hb5).cell; have q5 := (B1.out.next hb5).cell; have f5 := (B1.out.next hb5).frozen))
  have B6 : Hid (Box _ (w.heap.size + 1) #[.int .i64 fq, .int .i64 pw, .int .i64 sw] 124) := Lib.hid ((((B1.out.next hb5).set 0 (.int .i64 fq)).set 1 (.int .i64 pw)).set 2 (.int .i64 sw))
  have HB6 := Lib.hid ((((below_next HB0.out hb5).setCell (p := ⟨w.heap.size + 1, 0, none⟩) (by simp) (.int .i64 fq)).setCell (p := ⟨w.heap.size + 1, 1, none⟩) (by simp) (.int .i64 pw)).setCell (p := ⟨w.heap.size + 1, 2, none⟩) (by simp) (.int .i64 sw))
  generalize ((w5.setCell ⟨w.heap.size + 1, 0, none⟩ (.int .i64 fq)).setCell ⟨w.heap.size + 1, 1, none⟩ (.int .i64 pw)).setCell ⟨w.heap.size + 1, 2, none⟩ (.int .i64 sw) = w6 at B6 HB6 ⊢
  have r6 := B6.out.cell
  clear r5 q5 f5
  go_wp2_with fail
  refine bodyPost_ret (v := .agg #[.int .i64 fq, .int .i64 pw, .int .i64 sw]) ?_ rfl ⟨rfl, ?_⟩
  · simp [results, Tryz.results63, go_sem, r6]
  exact HB6.out

theorem speedis_any (fq pw : Int) (w : World) :
    Calls Tryz.prog 96 #[.agg #[.int .i64 fq, .int .i64 pw]] w fun e w' => e = .returned (.bool (decide (0 < fq))) ∧ Below w.heap.size w w' := by
  go_enter Tryz.func96, Tryz.ntmps96
  go_wp2_with fail
  go_ret
  refine ⟨rfl, ?_⟩
  all_goals (repeat (first | exact Below.refl _ _ | exact HB.out | exact below_in _ (by assumption) | assumption | exact Nat.le_refl _ | refine Below.setCell ?_ (by first | (simp; done) | (simp; omega) | omega) _ | refine Below.alloc ?_ (by first | exact Nat.le_refl _ | (simp; done) | (simp; omega) | omega) _ | refine Below.drew ?_))

theorem may_any (fq pw sw n : Int) (ok : Bool) (w : World) (hok : Hid (decide (0 ≤ n ∧ 0 ≤ sw ∧ 0 < fq) = ok)) :
    Calls Tryz.prog 64 #[.agg #[.int .i64 fq, .int .i64 pw, .int .i64 sw], .int .i64 n] w fun e w' => e = .returned (.bool ok) ∧ Below w.heap.size w w' := by
  go_enter Tryz.func64, Tryz.ntmps64
  go_wp2_with (go_at_call 96; refine (speedis_any _ _ _).mono ?_; rintro e1 w5 ⟨rfl, hb5⟩)
  all_goals go_ret
  all_goals refine ⟨ret_bool ?_, ?_⟩
  all_goals first | (rw [← hok.out]; simp; done) | (rw [← hok.out]; simp; omega) | (rw [← hok.out]; simp [*]; done) | skip
  all_goals (repeat (first | exact Below.refl _ _ | exact HB.out | exact below_in _ (by assumption) | assumption | exact Nat.le_refl _ | refine Below.setCell ?_ (by first | (simp; done) | (simp; omega) | omega) _ | refine Below.alloc ?_ (by first | exact Nat.le_refl _ | (simp; done) | (simp; omega) | omega) _ | refine Below.drew ?_))

theorem md_bd (a b c : Int) (up : Bool) (hc : 1 ≤ c → 0 ≤ a → 0 ≤ b → True) : 0 ≤ (md a b c up).1 ∧ (md a b c up).1 ≤ 9223372036854775807 ∧ 0 ≤ (md a b c up).2 ∧ (md a b c up).2 ≤ 6 := by
  unfold md
  split
  · simp
  · rename_i h
    have h1 : 0 ≤ a := by omega
    have h2 : 0 ≤ b := by omega
    have h3 : 1 ≤ c := by omega
    have hp : 0 ≤ a * b := Int.mul_nonneg h1 h2
    have hq : 0 ≤ mdQ a b c up := by
      unfold mdQ; split
      · exact Int.ediv_nonneg (by omega) (by omega)
      · exact Int.ediv_nonneg (by omega) (by omega)
    split
    · exact ⟨hq, by assumption, by simp, by simp⟩
    · simp

/-- what cycles need, what a time supplies, what cycles cost -/
def nd (fq sw cyc : Int) : Int × Int :=
  if cyc < 0 ∨ sw < 0 ∨ fq < 1 then (0, 2) else if (md cyc 1000 fq true).2 ≠ 0 then (0, (md cyc 1000 fq true).2)
  else if 9223372036854775807 < sw + (md cyc 1000 fq true).1 then (0, 6) else (sw + (md cyc 1000 fq true).1, 0)
def sp (fq sw len : Int) : Int × Int := if len < 0 ∨ sw < 0 ∨ fq < 1 then (0, 2) else if len < sw then (0, 0) else md (len - sw) fq 1000 false
def cs (fq pw cyc : Int) : Int × Int :=
  if cyc < 0 ∨ fq < 1 ∨ pw < 0 then (0, 2) else if (md 1000 pw 1 false).2 ≠ 0 then (0, (md 1000 pw 1 false).2) else md cyc (md 1000 pw 1 false).1 fq true

theorem sum_two (x y : Int) (hx : 0 ≤ x) (hy : 0 ≤ y) : sumR (fun i => if i = 0 then x else y) 2 = if 9223372036854775807 < x + y then (0, 6) else (x + y, 0) := by
  unfold sumR
  rw [negTo_false.2 (fun i hi => by split <;> assumption)]
  simp [sumTo]
theorem ints_two (w : World) (b : Nat) (x y : Int) (T : TypeId) (hb : Box w b #[.int .i64 x, .int .i64 y] T) (hx : I64 x) (hy : I64 y) : WideS.IntsIn w (some ⟨b, 0, none⟩) 2 (fun i => if i = 0 then x else y) := by
  refine ⟨by omega, .inr ⟨b, 0, rfl, hb.lt, fun i hi => ?_⟩, fun i hi => ?_⟩
  · rw [hb.cell]
    match i with
    | 0 => rfl
    | 1 => rfl
  · dsimp only
    split
    · exact hx
    · exact hy

theorem time_any (fq pw cyc : Int) (w : World) (h1 : I64 fq) (h2 : I64 cyc) :
    Calls Tryz.prog 65 #[.agg #[.int .i64 fq, .int .i64 pw], .int .i64 cyc] w fun e w' => e = .returned (.tuple #[.int .i64 (md cyc 1000 fq true).1, .int .i64 (md cyc 1000 fq true).2]) ∧ Below w.heap.size w w' := by
  go_enter Tryz.func65, Tryz.ntmps65
  go_wp2_with fail
  refine (md_any cyc 1000 fq true _ h2.1 h2.2 (by omega) (by omega) h1.1 h1.2).mono ?_
  rintro e w2 ⟨rfl, hb2⟩
  go_wp2_with fail
  go_ret2
  exact ⟨rfl, below_in _ hb2⟩
set_option maxRecDepth 100000 in
set_option maxHeartbeats 1000000 in
theorem need_any (a : Option Addr) (n c : Nat) (f : Nat → Nat → Int) (nv : Value) (sw : Int) (id ch qu sl pp : Value) (cyc r1 r2 : Int) (w : World) (h : Hid (Open.RowsIn w a n 2 f)) (hs : I64 sw) (hcy : I64 cyc) (hr : Hid (nd (top n f 0) sw cyc = (r1, r2))) :
    Calls Tryz.prog 36 #[.agg #[.slice a n c, nv, .int .i64 sw, id, ch, qu, sl, pp], .int .i64 cyc] w fun e w' => e = .returned (.tuple #[.int .i64 r1, .int .i64 r2]) ∧ Below w.heap.size w w' := by
  have hr := hr.out
  obtain ⟨fq, hfq⟩ : ∃ fq, top n f 0 = fq := ⟨_, rfl⟩
  obtain ⟨pw, hpw⟩ : ∃ pw, top n f 1 = pw := ⟨_, rfl⟩
  have i0 := top_i64 h 0 (by omega)
  rw [hfq] at hr i0
  have C1 := Lib.hid (fun w h => of_any a n c f nv sw id ch qu sl pp fq pw w h (Lib.hid hfq) (Lib.hid hpw))
  clear hfq hpw
  have pre : ∀ ok : Bool, Hid (decide (0 ≤ cyc ∧ 0 ≤ sw ∧ 0 < fq) = ok) → (ok = true → True) → True := fun _ _ _ => trivial
  by_cases hbad : cyc < 0 ∨ sw < 0 ∨ fq < 1
  · unfold nd at hr
    rw [if_pos hbad] at hr
    obtain ⟨rfl, rfl⟩ : r1 = 0 ∧ r2 = 2 := by simpa using hr.symm
    have C2 := Lib.hid (fun w => may_any fq pw sw cyc false w (Lib.hid (by simp; omega)))
    clear hr hbad
    go_enter Tryz.func36, Tryz.ntmps36
    go_wp2_with fail
    refine (C1.out _ (rows_alloc h _)).mono ?_
    rintro e1 w2 ⟨rfl, hb2⟩
    have HB := Lib.hid (below_in _ hb2)
    clear hb2
    go_wp2_with fail
    refine (C2.out _).mono ?_
    rintro e1 w3 ⟨rfl, hb3⟩
    have HB := below_alloc _ HB hb3
    clear hb3
    go_wp2_with fail
    go_ret2
    exact ⟨rfl, HB.out⟩
  · unfold nd at hr
    rw [if_neg hbad] at hr
    have C2 := Lib.hid (fun w => may_any fq pw sw cyc true w (Lib.hid (by simp; omega)))
    obtain ⟨m, hm⟩ : ∃ m, (md cyc 1000 fq true).1 = m := ⟨_, rfl⟩
    obtain ⟨e, he⟩ : ∃ e, (md cyc 1000 fq true).2 = e := ⟨_, rfl⟩
    obtain ⟨m0, m1, m2, m3⟩ := md_bd cyc 1000 fq true (fun _ _ _ => trivial)
    have C3 := fun w => time_any fq pw cyc w i0 hcy
    rw [hm] at hr m0 m1 C3
    rw [he] at hr m2 m3 C3
    have C3 := Lib.hid C3
    clear hm he
    by_cases hez : e = 0
    · subst hez
      rw [if_neg (by simp)] at hr
      have C4 := fun w b hb => WideS.sum_any (some ⟨b, 0, none⟩) 2 2 (fun i => if i = 0 then sw else m) w (ints_two w b sw m 3 hb hs ⟨by omega, by omega⟩)
      rw [sum_two sw m (by omega) m0, hr] at C4
      have C4 := Lib.hid C4
      have hsw : 0 ≤ sw := by omega
      clear hr hbad
      go_enter Tryz.func36, Tryz.ntmps36
      go_wp2_with fail
      refine (C1.out _ (rows_alloc h _)).mono ?_
      rintro e1 w2 ⟨rfl, hb2⟩
      have HB := Lib.hid (below_in _ hb2)
      clear hb2
      go_wp2_with fail
      refine (C2.out _).mono ?_
      rintro e1 w3 ⟨rfl, hb3⟩
      have HB := below_alloc _ HB hb3
      have BX := Lib.hid ((Box.new w2 _ _).next hb3)
      have bc := BX.out.cell
      clear hb3
      go_wp2_with fail
      refine (C3.out _).mono ?_
      rintro e1 w4 ⟨rfl, hb4⟩
      have HB := below_hid HB hb4
      have BX := Lib.hid (BX.out.next hb4)
      clear bc
      have bc := BX.out.cell
      clear hb4
      go_wp2_with fail
      refine (C4.out _ _ (by exact Box.new w4 _ _)).mono ?_
      rintro e1 w5 ⟨rfl, hb5⟩
      have HB := below_alloc _ HB hb5
      clear hb5
      go_wp2_with fail
      go_ret2
      exact ⟨rfl, HB.out⟩
    · rw [if_pos hez] at hr
      obtain ⟨rfl, rfl⟩ : r1 = 0 ∧ r2 = e := by simpa using hr.symm
      have hez' : (r2 != 0) = true := by simpa using hez
      clear hr hbad hez
      go_enter Tryz.func36, Tryz.ntmps36
      go_wp2_with fail
      refine (C1.out _ (rows_alloc h _)).mono ?_
      rintro e1 w2 ⟨rfl, hb2⟩
      have HB := Lib.hid (below_in _ hb2)
      clear hb2
      go_wp2_with fail
      refine (C2.out _).mono ?_
      rintro e1 w3 ⟨rfl, hb3⟩
      have HB := below_alloc _ HB hb3
      have BX := Lib.hid ((Box.new w2 _ _).next hb3)
      have bc := BX.out.cell
      clear hb3
      go_wp2_with fail
      refine (C3.out _).mono ?_
      rintro e1 w4 ⟨rfl, hb4⟩
      have HB := below_hid HB hb4
      clear hb4
      go_wp2_with fail
      go_ret2
      exact ⟨rfl, HB.out⟩
end Go.Proofs.YtlafeijkpnpdeaaGreat.FitB

/- Walks of package fit, and of its reference: Need, Supply, Cost, and their references. -/
namespace Go.Proofs.YtlafeijkpnpdeaaGreat.FitC
open Go.RowKit Base Kit WideA WideB Plain FitA FitB
set_option linter.unusedVariables false
set_option linter.unusedSimpArgs false

set_option maxRecDepth 100000 in
set_option maxHeartbeats 1000000 in
theorem needr_any (a : Option Addr) (n c : Nat) (f : Nat → Nat → Int) (nv : Value) (sw : Int) (id ch qu sl pp : Value) (cyc r1 r2 : Int) (w : World) (h : Hid (Open.RowsIn w a n 2 f)) (hs : I64 sw) (hcy : I64 cyc) (hr : Hid (nd (top n f 0) sw cyc = (r1, r2))) :
    Calls Tryz.prog 98 #[.agg #[.slice a n c, nv, .int .i64 sw, id, ch, qu, sl, pp], .int .i64 cyc] w fun e w' => e = .returned (.tuple #[.int .i64 r1, .int .i64 r2]) ∧ Below w.heap.size w w' := by
  have hr := hr.out
  obtain ⟨fq, hfq⟩ : ∃ fq, top n f 0 = fq := ⟨_, rfl⟩
  obtain ⟨pw, hpw⟩ : ∃ pw, top n f 1 = pw := ⟨_, rfl⟩
  have i0 := top_i64 h 0 (by omega)
  have C1 := fun w h => topr_any a n c f nv (.int .i64 sw) id ch qu sl pp w h
  rw [hfq] at hr i0
  rw [hfq, hpw] at C1
  have hfd := fun w => run_field fq pw w
  have C1 := Lib.hid C1
  clear hfq hpw
  by_cases hbad : cyc < 0 ∨ sw < 0 ∨ fq < 1
  · unfold nd at hr
    rw [if_pos hbad] at hr
    obtain ⟨rfl, rfl⟩ : r1 = 0 ∧ r2 = 2 := by simpa using hr.symm
    clear hr
    by_cases hb1 : cyc < 0
    · clear hbad
      go_enter Tryz.func98, Tryz.ntmps98
      go_wp2_with fail
      go_ret2
      refine ⟨rfl, ?_⟩
      all_goals (repeat (first | exact Below.refl _ _ | exact HB.out | exact below_in _ (by assumption) | assumption | exact Nat.le_refl _ | refine Below.setCell ?_ (by first | (simp; done) | (simp; omega) | omega) _ | refine Below.alloc ?_ (by first | exact Nat.le_refl _ | (simp; done) | (simp; omega) | omega) _ | refine Below.drew ?_))
    by_cases hb2 : sw < 0
    · have hb1 : 0 ≤ cyc := by omega
      clear hbad
      go_enter Tryz.func98, Tryz.ntmps98
      go_wp2_with fail
      go_ret2
      refine ⟨rfl, ?_⟩
      all_goals (repeat (first | exact Below.refl _ _ | exact HB.out | exact below_in _ (by assumption) | assumption | exact Nat.le_refl _ | refine Below.setCell ?_ (by first | (simp; done) | (simp; omega) | omega) _ | refine Below.alloc ?_ (by first | exact Nat.le_refl _ | (simp; done) | (simp; omega) | omega) _ | refine Below.drew ?_))
    have hb1 : 0 ≤ cyc := by omega
    have hb2 : 0 ≤ sw := by omega
    have hb3 : fq < 1 := by omega
    clear hbad
    go_enter Tryz.func98, Tryz.ntmps98
    go_wp2_with fail
    refine (C1.out _ (rows_alloc h _)).mono ?_
    rintro e1 w2 ⟨rfl, hb2⟩
    have HB := Lib.hid (below_in _ hb2)
    clear hb2
    go_wp2_with fail
    go_ret2
    exact ⟨rfl, HB.out⟩
  · unfold nd at hr
    rw [if_neg hbad] at hr
    obtain ⟨m, hm⟩ : ∃ m, (md cyc 1000 fq true).1 = m := ⟨_, rfl⟩
    obtain ⟨e, he⟩ : ∃ e, (md cyc 1000 fq true).2 = e := ⟨_, rfl⟩
    obtain ⟨m0, m1, m2, m3⟩ := md_bd cyc 1000 fq true (fun _ _ _ => trivial)
    have C3 := fun w => RefC.mdr_any cyc 1000 fq true w hcy.1 hcy.2 (by omega) (by omega) i0.1 i0.2
    rw [hm] at hr m0 m1 C3
    rw [he] at hr m2 m3 C3
    have C3 := Lib.hid C3
    clear hm he
    have hb1 : 0 ≤ cyc := by omega
    have hb2 : 0 ≤ sw := by omega
    have hb3 : 1 ≤ fq := by omega
    by_cases hez : e = 0
    · subst hez
      rw [if_neg (by simp)] at hr
      have C4 := fun w b hb => RefS.sumr_any (some ⟨b, 0, none⟩) 2 2 (fun i => if i = 0 then sw else m) w (ints_two w b sw m 3 hb hs ⟨by omega, by omega⟩)
      rw [sum_two sw m (by omega) m0, hr] at C4
      have C4 := Lib.hid C4
      clear hr hbad
      go_enter Tryz.func98, Tryz.ntmps98
      go_wp2_with fail
      refine (C1.out _ (rows_alloc h _)).mono ?_
      rintro e1 w2 ⟨rfl, hb2⟩
      have HB := Lib.hid (below_in _ hb2)
      have BX := Lib.hid ((Box.new w _ _).next hb2)
      have bc := BX.out.cell
      have h := rows_next h (below_in _ hb2)
      clear hb2
      go_wp2_with fail
      refine (C1.out _ h).mono ?_
      rintro e1 w3 ⟨rfl, hb3⟩
      have HB := below_hid HB hb3
      have BX := Lib.hid (BX.out.next hb3)
      clear bc
      have bc := BX.out.cell
      clear hb3
      go_wp2_with fail
      refine (C3.out _).mono ?_
      rintro e1 w4 ⟨rfl, hb4⟩
      have HB := below_hid HB hb4
      have BX := Lib.hid (BX.out.next hb4)
      clear bc
      have bc := BX.out.cell
      clear hb4
      go_wp2_with fail
      refine (C4.out _ _ (by exact Box.new w4 _ _)).mono ?_
      rintro e1 w5 ⟨rfl, rfl⟩
      have HB : Hid (Below w.heap.size w (w4.alloc _)) := Lib.hid (HB.out.alloc HB.out.size (.cells #[.int .i64 sw, .int .i64 m] 3))
      go_wp2_with fail
      go_ret2
      exact ⟨rfl, HB.out⟩
    · rw [if_pos hez] at hr
      obtain ⟨rfl, rfl⟩ : r1 = 0 ∧ r2 = e := by simpa using hr.symm
      have hez' : (r2 != 0) = true := by simpa using hez
      clear hr hbad hez
      go_enter Tryz.func98, Tryz.ntmps98
      go_wp2_with fail
      refine (C1.out _ (rows_alloc h _)).mono ?_
      rintro e1 w2 ⟨rfl, hb2⟩
      have HB := Lib.hid (below_in _ hb2)
      have BX := Lib.hid ((Box.new w _ _).next hb2)
      have bc := BX.out.cell
      have h := rows_next h (below_in _ hb2)
      clear hb2
      go_wp2_with fail
      refine (C1.out _ h).mono ?_
      rintro e1 w3 ⟨rfl, hb3⟩
      have HB := below_hid HB hb3
      have BX := Lib.hid (BX.out.next hb3)
      clear bc
      have bc := BX.out.cell
      clear hb3
      go_wp2_with fail
      refine (C3.out _).mono ?_
      rintro e1 w4 ⟨rfl, hb4⟩
      have HB := below_hid HB hb4
      clear hb4
      go_wp2_with fail
      go_ret2
      exact ⟨rfl, HB.out⟩

/-- cycles fit -/
def ft (fq sw cyc len : Int) : Bool := decide ((nd fq sw cyc).2 = 0) && decide ((nd fq sw cyc).1 ≤ len)
theorem fits_any (a : Option Addr) (n c : Nat) (f : Nat → Nat → Int) (nv : Value) (sw : Int) (id ch qu sl pp : Value) (cyc len : Int) (ok : Bool) (w : World) (h : Hid (Open.RowsIn w a n 2 f)) (hs : I64 sw) (hcy : I64 cyc) (hok : Hid (ft (top n f 0) sw cyc len = ok)) :
    Calls Tryz.prog 37 #[.agg #[.slice a n c, nv, .int .i64 sw, id, ch, qu, sl, pp], .int .i64 cyc, .int .i64 len] w fun e w' => e = .returned (.bool ok) ∧ Below w.heap.size w w' := by
  have hok := hok.out
  obtain ⟨r1, h1⟩ : ∃ r1, (nd (top n f 0) sw cyc).1 = r1 := ⟨_, rfl⟩
  obtain ⟨r2, h2⟩ : ∃ r2, (nd (top n f 0) sw cyc).2 = r2 := ⟨_, rfl⟩
  have C1 := Lib.hid (fun w h => need_any a n c f nv sw id ch qu sl pp cyc r1 r2 w h hs hcy (Lib.hid (by rw [← h1, ← h2])))
  unfold ft at hok
  rw [h1, h2] at hok
  clear h1 h2
  by_cases hz : r2 = 0
  · subst hz
    by_cases hl : r1 ≤ len
    · obtain rfl : ok = true := by rw [← hok]; simp [hl]
      clear hok
      go_enter Tryz.func37, Tryz.ntmps37
      go_wp2_with fail
      refine (C1.out _ (rows_alloc h _)).mono ?_
      rintro e1 w2 ⟨rfl, hb2⟩
      have HB := Lib.hid (below_in _ hb2)
      clear hb2
      go_wp2_with fail
      go_ret
      refine ⟨?_, HB.out⟩
      first | rfl | exact ret_bool (by simp; omega)
    · obtain rfl : ok = false := by rw [← hok]; simp [hl]
      have hl2 : len < r1 := by omega
      clear hok hl
      go_enter Tryz.func37, Tryz.ntmps37
      go_wp2_with fail
      refine (C1.out _ (rows_alloc h _)).mono ?_
      rintro e1 w2 ⟨rfl, hb2⟩
      have HB := Lib.hid (below_in _ hb2)
      clear hb2
      go_wp2_with fail
      go_ret
      refine ⟨?_, HB.out⟩
      first | rfl | exact ret_bool (by simp; omega)
  · obtain rfl : ok = false := by rw [← hok]; simp [hz]
    have hz' : (r2 == 0) = false := by simpa using hz
    clear hok hz
    go_enter Tryz.func37, Tryz.ntmps37
    go_wp2_with fail
    refine (C1.out _ (rows_alloc h _)).mono ?_
    rintro e1 w2 ⟨rfl, hb2⟩
    have HB := Lib.hid (below_in _ hb2)
    clear hb2
    go_wp2_with fail
    go_ret
    refine ⟨?_, HB.out⟩
    first | rfl | exact ret_bool (by simp; omega)
theorem fitsr_any (a : Option Addr) (n c : Nat) (f : Nat → Nat → Int) (nv : Value) (sw : Int) (id ch qu sl pp : Value) (cyc len : Int) (ok : Bool) (w : World) (h : Hid (Open.RowsIn w a n 2 f)) (hs : I64 sw) (hcy : I64 cyc) (hok : Hid (ft (top n f 0) sw cyc len = ok)) :
    Calls Tryz.prog 69 #[.agg #[.slice a n c, nv, .int .i64 sw, id, ch, qu, sl, pp], .int .i64 cyc, .int .i64 len] w fun e w' => e = .returned (.bool ok) ∧ Below w.heap.size w w' := by
  have hok := hok.out
  obtain ⟨r1, h1⟩ : ∃ r1, (nd (top n f 0) sw cyc).1 = r1 := ⟨_, rfl⟩
  obtain ⟨r2, h2⟩ : ∃ r2, (nd (top n f 0) sw cyc).2 = r2 := ⟨_, rfl⟩
  have C1 := Lib.hid (fun w h => needr_any a n c f nv sw id ch qu sl pp cyc r1 r2 w h hs hcy (Lib.hid (by rw [← h1, ← h2])))
  unfold ft at hok
  rw [h1, h2] at hok
  clear h1 h2
  by_cases hz : r2 = 0
  · subst hz
    by_cases hl : r1 ≤ len
    · obtain rfl : ok = true := by rw [← hok]; simp [hl]
      clear hok
      go_enter Tryz.func69, Tryz.ntmps69
      go_wp2_with fail
      refine (C1.out _ (rows_alloc h _)).mono ?_
      rintro e1 w2 ⟨rfl, hb2⟩
      have HB := Lib.hid (below_in _ hb2)
      clear hb2
      go_wp2_with fail
      go_ret
      refine ⟨?_, HB.out⟩
      first | rfl | exact ret_bool (by simp; omega)
    · obtain rfl : ok = false := by rw [← hok]; simp [hl]
      have hl2 : len < r1 := by omega
      clear hok hl
      go_enter Tryz.func69, Tryz.ntmps69
      go_wp2_with fail
      refine (C1.out _ (rows_alloc h _)).mono ?_
      rintro e1 w2 ⟨rfl, hb2⟩
      have HB := Lib.hid (below_in _ hb2)
      clear hb2
      go_wp2_with fail
      go_ret
      refine ⟨?_, HB.out⟩
      first | rfl | exact ret_bool (by simp; omega)
  · obtain rfl : ok = false := by rw [← hok]; simp [hz]
    have hz' : (r2 == 0) = false := by simpa using hz
    clear hok hz
    go_enter Tryz.func69, Tryz.ntmps69
    go_wp2_with fail
    refine (C1.out _ (rows_alloc h _)).mono ?_
    rintro e1 w2 ⟨rfl, hb2⟩
    have HB := Lib.hid (below_in _ hb2)
    clear hb2
    go_wp2_with fail
    go_ret
    refine ⟨?_, HB.out⟩
    first | rfl | exact ret_bool (by simp; omega)
end Go.Proofs.YtlafeijkpnpdeaaGreat.FitC

/- Walks of package fit, and of its reference: Need, Supply, Cost, and their references. -/
import Derived.Test.YtgkahcchekiogaaFitB
namespace Go.Proofs.Ytgkahcchekiogaa.FitC
open Go.RowKit Base Kit WideA WideB Plain FitA FitB
set_option linter.unusedVariables false
set_option linter.unusedSimpArgs false

set_option maxRecDepth 100000 in
set_option maxHeartbeats 1000000 in
theorem needr_any (a : Option Addr) (n c : Nat) (f : Nat → Nat → Int) (nv : Value) (sw : Int) (id ch qu sl pp : Value) (cyc r1 r2 : Int) (w : World) (h : Hid (Open.RowsIn w a n 2 f)) (hs : I64 sw) (hcy : I64 cyc) (hr : Hid (nd (top n f 0) sw cyc = (r1, r2))) :
    Calls Try.prog 42 #[.agg #[.slice a n c, nv, .int .i64 sw, id, ch, qu, sl, pp], .int .i64 cyc] w fun e w' => e = .returned (.tuple #[.int .i64 r1, .int .i64 r2]) ∧ Below w.heap.size w w' := by
  have hr := hr.out
  obtain ⟨fq, hfq⟩ : ∃ fq, top n f 0 = fq := ⟨_, rfl⟩
  obtain ⟨pw, hpw⟩ : ∃ pw, top n f 1 = pw := ⟨_, rfl⟩
  have i0 := top_i64 h 0 (by omega)
  have C1 := fun w h => topr_any a n c f nv (.int .i64 sw) id ch qu sl pp w h
  rw [hfq] at hr i0
  rw [hfq, hpw] at C1
  have hfd := fun w => run_field fq pw w
  have C1 := Lib.hid C1
  clear hfq hpw
  by_cases hbad : cyc < 0 ∨ sw < 0 ∨ fq < 1
  · unfold nd at hr
    rw [if_pos hbad] at hr
    obtain ⟨rfl, rfl⟩ : r1 = 0 ∧ r2 = 2 := by simpa using hr.symm
    clear hr
    by_cases hb1 : cyc < 0
    · clear hbad
      go_enter Try.func42, Try.ntmps42
      go_wp2_with fail
      go_ret2
      refine ⟨rfl, ?_⟩
      all_goals (repeat (first | exact Below.refl _ _ | exact HB.out | exact below_in _ (by assumption) | assumption | exact Nat.le_refl _ | refine Below.setCell ?_ (by first | (simp; done) | (simp; omega) | omega) _ | refine Below.alloc ?_ (by first | exact Nat.le_refl _ | (simp; done) | (simp; omega) | omega) _ | refine Below.drew ?_))
    by_cases hb2 : sw < 0
    · have hb1 : 0 ≤ cyc := by omega
      clear hbad
      go_enter Try.func42, Try.ntmps42
      go_wp2_with fail
      go_ret2
      refine ⟨rfl, ?_⟩
      all_goals (repeat (first | exact Below.refl _ _ | exact HB.out | exact below_in _ (by assumption) | assumption | exact Nat.le_refl _ | refine Below.setCell ?_ (by first | (simp; done) | (simp; omega) | omega) _ | refine Below.alloc ?_ (by first | exact Nat.le_refl _ | (simp; done) | (simp; omega) | omega) _ | refine Below.drew ?_))
    have hb1 : 0 ≤ cyc := by omega
    have hb2 : 0 ≤ sw := by omega
    have hb3 : fq < 1 := by omega
    clear hbad
    go_enter Try.func42, Try.ntmps42
    go_wp2_with fail
    refine (C1.out _ (rows_alloc h _)).mono ?_
    rintro e1 w2 ⟨rfl, hb2⟩
    have HB := Lib.hid (below_in _ hb2)
    clear hb2
    go_wp2_with fail
    go_ret2
    exact ⟨rfl, HB.out⟩
  · unfold nd at hr
    rw [if_neg hbad] at hr
    obtain ⟨m, hm⟩ : ∃ m, (md cyc 1000 fq true).1 = m := ⟨_, rfl⟩
    obtain ⟨e, he⟩ : ∃ e, (md cyc 1000 fq true).2 = e := ⟨_, rfl⟩
    obtain ⟨m0, m1, m2, m3⟩ := md_bd cyc 1000 fq true (fun _ _ _ => trivial)
    have C3 := fun w => RefC.mdr_any cyc 1000 fq true w hcy.1 hcy.2 (by omega) (by omega) i0.1 i0.2
    rw [hm] at hr m0 m1 C3
    rw [he] at hr m2 m3 C3
    have C3 := Lib.hid C3
    clear hm he
    have hb1 : 0 ≤ cyc := by omega
    have hb2 : 0 ≤ sw := by omega
    have hb3 : 1 ≤ fq := by omega
    by_cases hez : e = 0
    · subst hez
      rw [if_neg (by simp)] at hr
      have C4 := fun w b hb => RefS.sumr_any (some ⟨b, 0, none⟩) 2 2 (fun i => if i = 0 then sw else m) w (ints_two w b sw m 3 hb hs ⟨by omega, by omega⟩)
      rw [sum_two sw m (by omega) m0, hr] at C4
      have C4 := Lib.hid C4
      clear hr hbad
      go_enter Try.func42, Try.ntmps42
      go_wp2_with fail
      refine (C1.out _ (rows_alloc h _)).mono ?_
      rintro e1 w2 ⟨rfl, hb2⟩
      have HB := Lib.hid (below_in _ hb2)
      have BX := Lib.hid ((Box.new w _ _).next hb2)
      have bc := BX.out.cell
      have h := rows_next h (below_in _ hb2)
      clear hb2
      go_wp2_with fail
      refine (C1.out _ h).mono ?_
      rintro e1 w3 ⟨rfl, hb3⟩
      have HB := below_hid HB hb3
      have BX := Lib.hid (BX.out.next hb3)
      clear bc
      have bc := BX.out.cell
      clear hb3
      go_wp2_with fail
      refine (C3.out _).mono ?_
      rintro e1 w4 ⟨rfl, hb4⟩
      have HB := below_hid HB hb4
      have BX := Lib.hid (BX.out.next hb4)
      clear bc
      have bc := BX.out.cell
      clear hb4
      go_wp2_with fail
      refine (C4.out _ _ (by exact Box.new w4 _ _)).mono ?_
      rintro e1 w5 ⟨rfl, rfl⟩
      have HB : Hid (Below w.heap.size w (w4.alloc _)) := Lib.hid (HB.out.alloc HB.out.size (.cells #[.int .i64 sw, .int .i64 m] 3))
      go_wp2_with fail
      go_ret2
      exact ⟨rfl, HB.out⟩
    · rw [if_pos hez] at hr
      obtain ⟨rfl, rfl⟩ : r1 = 0 ∧ r2 = e := by simpa using hr.symm
      have hez' : (r2 != 0) = true := by simpa using hez
      clear hr hbad hez
      go_enter Try.func42, Try.ntmps42
      go_wp2_with fail
      refine (C1.out _ (rows_alloc h _)).mono ?_
      rintro e1 w2 ⟨rfl, hb2⟩
      have HB := Lib.hid (below_in _ hb2)
      have BX := Lib.hid ((Box.new w _ _).next hb2)
      have bc := BX.out.cell
      have h := rows_next h (below_in _ hb2)
      clear hb2
      go_wp2_with fail
      refine (C1.out _ h).mono ?_
      rintro e1 w3 ⟨rfl, hb3⟩
      have HB := below_hid HB hb3
      have BX := Lib.hid (BX.out.next hb3)
      clear bc
      have bc := BX.out.cell
      clear hb3
      go_wp2_with fail
      refine (C3.out _).mono ?_
      rintro e1 w4 ⟨rfl, hb4⟩
      have HB := below_hid HB hb4
      clear hb4
      go_wp2_with fail
      go_ret2
      exact ⟨rfl, HB.out⟩

set_option maxRecDepth 100000 in
set_option maxHeartbeats 1000000 in
theorem supply_any (a : Option Addr) (n c : Nat) (f : Nat → Nat → Int) (nv : Value) (sw : Int) (id ch qu sl pp : Value) (len r1 r2 : Int) (w : World) (h : Hid (Open.RowsIn w a n 2 f)) (hs : I64 sw) (hcy : I64 len) (hr : Hid (sp (top n f 0) sw len = (r1, r2))) :
    Calls Try.prog 43 #[.agg #[.slice a n c, nv, .int .i64 sw, id, ch, qu, sl, pp], .int .i64 len] w fun e w' => e = .returned (.tuple #[.int .i64 r1, .int .i64 r2]) ∧ Below w.heap.size w w' := by
  have hr := hr.out
  obtain ⟨fq, hfq⟩ : ∃ fq, top n f 0 = fq := ⟨_, rfl⟩
  obtain ⟨pw, hpw⟩ : ∃ pw, top n f 1 = pw := ⟨_, rfl⟩
  have i0 := top_i64 h 0 (by omega)
  rw [hfq] at hr i0
  have C1 := Lib.hid (fun w h => of_any a n c f nv sw id ch qu sl pp fq pw w h (Lib.hid hfq) (Lib.hid hpw))
  clear hfq hpw
  by_cases hbad : len < 0 ∨ sw < 0 ∨ fq < 1
  · unfold sp at hr
    rw [if_pos hbad] at hr
    obtain ⟨rfl, rfl⟩ : r1 = 0 ∧ r2 = 2 := by simpa using hr.symm
    have C2 := Lib.hid (fun w => may_any fq pw sw len false w (Lib.hid (by simp; omega)))
    clear hr hbad
    go_enter Try.func43, Try.ntmps43
    go_wp2_with fail
    refine (C1.out _ (rows_alloc h _)).mono ?_
    rintro e1 w2 ⟨rfl, hb2⟩
    have HB := Lib.hid (below_in _ hb2)
    clear hb2
    go_wp2_with fail
    refine (C2.out _).mono ?_
    rintro e1 w3 ⟨rfl, hb3⟩
    have HB := below_alloc _ HB hb3
    clear hb3
    go_wp2_with fail
    go_ret2
    exact ⟨rfl, HB.out⟩
  · unfold sp at hr
    rw [if_neg hbad] at hr
    have C2 := Lib.hid (fun w => may_any fq pw sw len true w (Lib.hid (by simp; omega)))
    have hs0 : 0 ≤ sw := by omega
    have hl0 : 0 ≤ len := by omega
    by_cases hlt : len < sw
    · rw [if_pos hlt] at hr
      obtain ⟨rfl, rfl⟩ : r1 = 0 ∧ r2 = 0 := by simpa using hr.symm
      clear hr hbad
      go_enter Try.func43, Try.ntmps43
      go_wp2_with fail
      refine (C1.out _ (rows_alloc h _)).mono ?_
      rintro e1 w2 ⟨rfl, hb2⟩
      have HB := Lib.hid (below_in _ hb2)
      clear hb2
      go_wp2_with fail
      refine (C2.out _).mono ?_
      rintro e1 w3 ⟨rfl, hb3⟩
      have HB := below_alloc _ HB hb3
      have BX := Lib.hid ((Box.new w2 _ _).next hb3)
      have bc := BX.out.cell
      clear hb3
      go_wp2_with fail
      go_ret2
      exact ⟨rfl, HB.out⟩
    · rw [if_neg hlt] at hr
      have hle : sw ≤ len := by omega
      have C3 := fun w => cycles_any fq pw (len - sw) w i0 ⟨by have := hcy.1; omega, by have := hcy.2; omega⟩
      rw [hr] at C3
      have C3 := Lib.hid C3
      have hcy1 := hcy.1
      have hcy2 := hcy.2
      clear hr hbad hlt
      go_enter Try.func43, Try.ntmps43
      go_wp2_with fail
      refine (C1.out _ (rows_alloc h _)).mono ?_
      rintro e1 w2 ⟨rfl, hb2⟩
      have HB := Lib.hid (below_in _ hb2)
      clear hb2
      go_wp2_with fail
      refine (C2.out _).mono ?_
      rintro e1 w3 ⟨rfl, hb3⟩
      have HB := below_alloc _ HB hb3
      have BX := Lib.hid ((Box.new w2 _ _).next hb3)
      have bc := BX.out.cell
      clear hb3
      go_wp2_with fail
      refine (C3.out _).mono ?_
      rintro e1 w4 ⟨rfl, hb4⟩
      have HB := below_hid HB hb4
      clear hb4
      go_wp2_with fail
      go_ret2
      exact ⟨rfl, HB.out⟩



/-- cycles fit -/
def ft (fq sw cyc len : Int) : Bool := decide ((nd fq sw cyc).2 = 0) && decide ((nd fq sw cyc).1 ≤ len)
theorem fits_any (a : Option Addr) (n c : Nat) (f : Nat → Nat → Int) (nv : Value) (sw : Int) (id ch qu sl pp : Value) (cyc len : Int) (ok : Bool) (w : World) (h : Hid (Open.RowsIn w a n 2 f)) (hs : I64 sw) (hcy : I64 cyc) (hok : Hid (ft (top n f 0) sw cyc len = ok)) :
    Calls Try.prog 101 #[.agg #[.slice a n c, nv, .int .i64 sw, id, ch, qu, sl, pp], .int .i64 cyc, .int .i64 len] w fun e w' => e = .returned (.bool ok) ∧ Below w.heap.size w w' := by
  have hok := hok.out
  obtain ⟨r1, h1⟩ : ∃ r1, (nd (top n f 0) sw cyc).1 = r1 := ⟨_, rfl⟩
  obtain ⟨r2, h2⟩ : ∃ r2, (nd (top n f 0) sw cyc).2 = r2 := ⟨_, rfl⟩
  have C1 := Lib.hid (fun w h => need_any a n c f nv sw id ch qu sl pp cyc r1 r2 w h hs hcy (Lib.hid (by rw [← h1, ← h2])))
  unfold ft at hok
  rw [h1, h2] at hok
  clear h1 h2
  by_cases hz : r2 = 0
  · subst hz
    by_cases hl : r1 ≤ len
    · obtain rfl : ok = true := by rw [← hok]; simp [hl]
      clear hok
      go_enter Try.func101, Try.ntmps101
      go_wp2_with fail
      refine (C1.out _ (rows_alloc h _)).mono ?_
      rintro e1 w2 ⟨rfl, hb2⟩
      have HB := Lib.hid (below_in _ hb2)
      clear hb2
      go_wp2_with fail
      go_ret
      refine ⟨?_, HB.out⟩
      first | rfl | exact ret_bool (by simp; omega)
    · obtain rfl : ok = false := by rw [← hok]; simp [hl]
      have hl2 : len < r1 := by omega
      clear hok hl
      go_enter Try.func101, Try.ntmps101
      go_wp2_with fail
      refine (C1.out _ (rows_alloc h _)).mono ?_
      rintro e1 w2 ⟨rfl, hb2⟩
      have HB := Lib.hid (below_in _ hb2)
      clear hb2
      go_wp2_with fail
      go_ret
      refine ⟨?_, HB.out⟩
      first | rfl | exact ret_bool (by simp; omega)
  · obtain rfl : ok = false := by rw [← hok]; simp [hz]
    have hz' : (r2 == 0) = false := by simpa using hz
    clear hok hz
    go_enter Try.func101, Try.ntmps101
    go_wp2_with fail
    refine (C1.out _ (rows_alloc h _)).mono ?_
    rintro e1 w2 ⟨rfl, hb2⟩
    have HB := Lib.hid (below_in _ hb2)
    clear hb2
    go_wp2_with fail
    go_ret
    refine ⟨?_, HB.out⟩
    first | rfl | exact ret_bool (by simp; omega)
theorem fitsr_any (a : Option Addr) (n c : Nat) (f : Nat → Nat → Int) (nv : Value) (sw : Int) (id ch qu sl pp : Value) (cyc len : Int) (ok : Bool) (w : World) (h : Hid (Open.RowsIn w a n 2 f)) (hs : I64 sw) (hcy : I64 cyc) (hok : Hid (ft (top n f 0) sw cyc len = ok)) :
    Calls Try.prog 102 #[.agg #[.slice a n c, nv, .int .i64 sw, id, ch, qu, sl, pp], .int .i64 cyc, .int .i64 len] w fun e w' => e = .returned (.bool ok) ∧ Below w.heap.size w w' := by
  have hok := hok.out
  obtain ⟨r1, h1⟩ : ∃ r1, (nd (top n f 0) sw cyc).1 = r1 := ⟨_, rfl⟩
  obtain ⟨r2, h2⟩ : ∃ r2, (nd (top n f 0) sw cyc).2 = r2 := ⟨_, rfl⟩
  have C1 := Lib.hid (fun w h => needr_any a n c f nv sw id ch qu sl pp cyc r1 r2 w h hs hcy (Lib.hid (by rw [← h1, ← h2])))
  unfold ft at hok
  rw [h1, h2] at hok
  clear h1 h2
  by_cases hz : r2 = 0
  · subst hz
    by_cases hl : r1 ≤ len
    · obtain rfl : ok = true := by rw [← hok]; simp [hl]
      clear hok
      go_enter Try.func102, Try.ntmps102
      go_wp2_with fail
      refine (C1.out _ (rows_alloc h _)).mono ?_
      rintro e1 w2 ⟨rfl, hb2⟩
      have HB := Lib.hid (below_in _ hb2)
      clear hb2
      go_wp2_with fail
      go_ret
      refine ⟨?_, HB.out⟩
      first | rfl | exact ret_bool (by simp; omega)
    · obtain rfl : ok = false := by rw [← hok]; simp [hl]
      have hl2 : len < r1 := by omega
      clear hok hl
      go_enter Try.func102, Try.ntmps102
      go_wp2_with fail
      refine (C1.out _ (rows_alloc h _)).mono ?_
      rintro e1 w2 ⟨rfl, hb2⟩
      have HB := Lib.hid (below_in _ hb2)
      clear hb2
      go_wp2_with fail
      go_ret
      refine ⟨?_, HB.out⟩
      first | rfl | exact ret_bool (by simp; omega)
  · obtain rfl : ok = false := by rw [← hok]; simp [hz]
    have hz' : (r2 == 0) = false := by simpa using hz
    clear hok hz
    go_enter Try.func102, Try.ntmps102
    go_wp2_with fail
    refine (C1.out _ (rows_alloc h _)).mono ?_
    rintro e1 w2 ⟨rfl, hb2⟩
    have HB := Lib.hid (below_in _ hb2)
    clear hb2
    go_wp2_with fail
    go_ret
    refine ⟨?_, HB.out⟩
    first | rfl | exact ret_bool (by simp; omega)
end Go.Proofs.Ytgkahcchekiogaa.FitC

/- Walks of the laws of osc: Safe. -/
import Derived.Test.YtgifhcjbaljenaaOscE
namespace Go.Proofs.Ytgifhcjbaljenaa.OscF
open Go.RowKit Base WideA WideB OscPlain OscA OscB OscC OscD
set_option linter.unusedVariables false
set_option linter.unusedSimpArgs false

/-- within, as the law says it -/
theorem wi_law (h p b : Int) (hb : I64 b) : wi h p b = ((chk h p == 0) && (decide (1000000 ≤ b) || (decide (-1000000 < b) && decide (0 - b ≤ p) && decide (p ≤ b)))) := by
  unfold wi chk
  by_cases hbad : bad h p
  · simp [hbad]
  · have hp : -999999 ≤ p ∧ p ≤ 999999 := by unfold bad at hbad; omega
    simp only [hbad, not_false_eq_true, true_and, if_false]
    rw [Bool.eq_iff_iff]
    simp
    omega

theorem cn_bd (h p ns : Int) : 0 ≤ (cn h p ns).2 ∧ (cn h p ns).2 ≤ 2 := by
  unfold cn; split <;> simp
theorem sf_bd (h b ns : Int) : 0 ≤ (sf h b ns).2 ∧ (sf h b ns).2 ≤ 2 := by
  unfold sf; split
  · simp
  · exact cn_bd _ _ _

set_option maxHeartbeats 4000000 in
theorem safes_any (h p b ns : Int) (w : World) (hh : I64 h) (hp : I64 p) (hb : I64 b) (hn : I64 ns) :
    Calls Try.prog 5 #[.agg #[.int .i64 h, .int .i64 p], .int .i64 b, .int .i64 ns] w fun e w' => e = .returned (.bool true) ∧ Below w.heap.size w w' := by
  obtain ⟨r, hr⟩ : ∃ r, wi h p b = r := ⟨_, rfl⟩
  have hr2 := wi_law h p b hb
  rw [hr] at hr2
  have CW := Lib.hid (fun w => within_any h p b r w hr hb)
  have CC := fun w => checkr_any h p w
  obtain ⟨s1, s2⟩ := sf_bd h b ns
  obtain ⟨u, hu⟩ : ∃ u, (sf h b ns).1 = u := ⟨_, rfl⟩
  obtain ⟨v, hv⟩ : ∃ v, (sf h b ns).2 = v := ⟨_, rfl⟩
  have CS := Lib.hid (fun w => safe_any h b ns u v w (by rw [← hu, ← hv]; rfl) hb hn)
  rw [hv] at s1 s2
  by_cases hbad : bad h p
  · have e1 : chk h p = 2 := by unfold chk; rw [if_pos hbad]
    rw [e1] at hr2
    obtain rfl : r = false := by rw [hr2]; rfl
    simp only [e1] at CC
    have CC := Lib.hid CC
    clear e1 hbad hr hr2
    by_cases k0 : b < 0
    · obtain ⟨rfl, rfl⟩ : u = 0 ∧ v = 2 := by rw [← hu, ← hv, sf, if_pos (by omega)]; exact ⟨rfl, rfl⟩
      clear hu hv
      go_enter Try.func5, Try.ntmps5
      go_wp2_with fail
      refine (CS.out _).mono ?_
      rintro e1 w1 ⟨rfl, hb1⟩
      have o1 := (show Cell _ w.heap.size 0 (.int .i64 h) from ⟨by go_simp, by go_simp⟩ : Cell (w.alloc (Obj.cells #[Value.int IntKind.i64 h, Value.int IntKind.i64 p] 23)) _ _ _).below hb1 (by simp)
      have o2 := (show Cell _ w.heap.size 1 (.int .i64 p) from ⟨by go_simp, by go_simp⟩ : Cell (w.alloc (Obj.cells #[Value.int IntKind.i64 h, Value.int IntKind.i64 p] 23)) _ _ _).below hb1 (by simp)
      obtain ⟨o1, _⟩ := o1
      obtain ⟨o2, _⟩ := o2
      have hz1 : w.heap.size < w1.heap.size := by have := hb1.size; simp at this; omega
      have hB : Below w.heap.size w w1 := ((Below.refl _ _).alloc (Nat.le_refl _) _).trans (hb1.mono (by simp))
      have HB := Lib.hid hB
      clear hb1 hB
      go_wp2_with fail
      refine (CC.out _).mono ?_
      rintro e1 w2 ⟨rfl, hb2⟩
      have o1 := keep hb2 o1 (by first | (simp; done) | (simp; omega))
      have o2 := keep hb2 o2 (by first | (simp; done) | (simp; omega))
      have hz2 : w.heap.size < w2.heap.size := Nat.lt_of_lt_of_le hz1 hb2.size
      have HB := Lib.hid (HB.out.trans (hb2.mono (Nat.le_of_lt hz1)))
      clear hb2
      go_wp2_with fail
      refine (CW.out _).mono ?_
      rintro e1 w3 ⟨rfl, hb2⟩
      have o1 := keep hb2 o1 (by first | (simp; done) | (simp; omega))
      have o2 := keep hb2 o2 (by first | (simp; done) | (simp; omega))
      have hz3 : w.heap.size < w3.heap.size := Nat.lt_of_lt_of_le hz2 hb2.size
      have HB := Lib.hid (HB.out.trans (hb2.mono (Nat.le_of_lt hz2)))
      clear hb2
      go_wp2_with fail
      all_goals
        refine (works_any _).mono ?_
        rintro e1 w7 ⟨rfl, hb7⟩
        go_wp2_with fail
        all_goals
          go_ret
          exact ⟨ret_bool (by first | rfl | (simp; done) | (simp; omega)), HB.out.trans (hb7.mono (Nat.le_of_lt (by omega)))⟩
    · by_cases k1 : 100000 < b
      · have k0 : 0 ≤ b := by omega
        obtain ⟨rfl, rfl⟩ : u = 0 ∧ v = 2 := by rw [← hu, ← hv, sf, if_pos (by omega)]; exact ⟨rfl, rfl⟩
        clear hu hv
        go_enter Try.func5, Try.ntmps5
        go_wp2_with fail
        refine (CS.out _).mono ?_
        rintro e1 w1 ⟨rfl, hb1⟩
        have o1 := (show Cell _ w.heap.size 0 (.int .i64 h) from ⟨by go_simp, by go_simp⟩ : Cell (w.alloc (Obj.cells #[Value.int IntKind.i64 h, Value.int IntKind.i64 p] 23)) _ _ _).below hb1 (by simp)
        have o2 := (show Cell _ w.heap.size 1 (.int .i64 p) from ⟨by go_simp, by go_simp⟩ : Cell (w.alloc (Obj.cells #[Value.int IntKind.i64 h, Value.int IntKind.i64 p] 23)) _ _ _).below hb1 (by simp)
        obtain ⟨o1, _⟩ := o1
        obtain ⟨o2, _⟩ := o2
        have hz1 : w.heap.size < w1.heap.size := by have := hb1.size; simp at this; omega
        have hB : Below w.heap.size w w1 := ((Below.refl _ _).alloc (Nat.le_refl _) _).trans (hb1.mono (by simp))
        have HB := Lib.hid hB
        clear hb1 hB
        go_wp2_with fail
        refine (CC.out _).mono ?_
        rintro e1 w2 ⟨rfl, hb2⟩
        have o1 := keep hb2 o1 (by first | (simp; done) | (simp; omega))
        have o2 := keep hb2 o2 (by first | (simp; done) | (simp; omega))
        have hz2 : w.heap.size < w2.heap.size := Nat.lt_of_lt_of_le hz1 hb2.size
        have HB := Lib.hid (HB.out.trans (hb2.mono (Nat.le_of_lt hz1)))
        clear hb2
        go_wp2_with fail
        refine (CW.out _).mono ?_
        rintro e1 w3 ⟨rfl, hb2⟩
        have o1 := keep hb2 o1 (by first | (simp; done) | (simp; omega))
        have o2 := keep hb2 o2 (by first | (simp; done) | (simp; omega))
        have hz3 : w.heap.size < w3.heap.size := Nat.lt_of_lt_of_le hz2 hb2.size
        have HB := Lib.hid (HB.out.trans (hb2.mono (Nat.le_of_lt hz2)))
        clear hb2
        go_wp2_with fail
        all_goals
          refine (works_any _).mono ?_
          rintro e1 w7 ⟨rfl, hb7⟩
          go_wp2_with fail
          all_goals
            go_ret
            exact ⟨ret_bool (by first | rfl | (simp; done) | (simp; omega)), HB.out.trans (hb7.mono (Nat.le_of_lt (by omega)))⟩
      · have k0 : 0 ≤ b := by omega
        have k1 : b ≤ 100000 := by omega
        have CR := Lib.hid (fun w => countsr_any h (-b) ns u v w (by rw [← hu, ← hv, sf, if_neg (by omega)]; rfl) hn)
        clear hu hv
        go_enter Try.func5, Try.ntmps5
        go_wp2_with fail
        refine (CS.out _).mono ?_
        rintro e1 w1 ⟨rfl, hb1⟩
        have o1 := (show Cell _ w.heap.size 0 (.int .i64 h) from ⟨by go_simp, by go_simp⟩ : Cell (w.alloc (Obj.cells #[Value.int IntKind.i64 h, Value.int IntKind.i64 p] 23)) _ _ _).below hb1 (by simp)
        have o2 := (show Cell _ w.heap.size 1 (.int .i64 p) from ⟨by go_simp, by go_simp⟩ : Cell (w.alloc (Obj.cells #[Value.int IntKind.i64 h, Value.int IntKind.i64 p] 23)) _ _ _).below hb1 (by simp)
        obtain ⟨o1, _⟩ := o1
        obtain ⟨o2, _⟩ := o2
        have hz1 : w.heap.size < w1.heap.size := by have := hb1.size; simp at this; omega
        have hB : Below w.heap.size w w1 := ((Below.refl _ _).alloc (Nat.le_refl _) _).trans (hb1.mono (by simp))
        have HB := Lib.hid hB
        clear hb1 hB
        go_wp2_with fail
        refine (CR.out _).mono ?_
        rintro e1 w2 ⟨rfl, hb2⟩
        have o1 := keep hb2 o1 (by first | (simp; done) | (simp; omega))
        have o2 := keep hb2 o2 (by first | (simp; done) | (simp; omega))
        have hz2 : w.heap.size < w2.heap.size := Nat.lt_of_lt_of_le hz1 hb2.size
        have HB := Lib.hid (HB.out.trans (hb2.mono (Nat.le_of_lt hz1)))
        clear hb2
        go_wp2_with fail
        refine (CC.out _).mono ?_
        rintro e1 w3 ⟨rfl, hb2⟩
        have o1 := keep hb2 o1 (by first | (simp; done) | (simp; omega))
        have o2 := keep hb2 o2 (by first | (simp; done) | (simp; omega))
        have hz3 : w.heap.size < w3.heap.size := Nat.lt_of_lt_of_le hz2 hb2.size
        have HB := Lib.hid (HB.out.trans (hb2.mono (Nat.le_of_lt hz2)))
        clear hb2
        go_wp2_with fail
        refine (CW.out _).mono ?_
        rintro e1 w4 ⟨rfl, hb2⟩
        have o1 := keep hb2 o1 (by first | (simp; done) | (simp; omega))
        have o2 := keep hb2 o2 (by first | (simp; done) | (simp; omega))
        have hz4 : w.heap.size < w4.heap.size := Nat.lt_of_lt_of_le hz3 hb2.size
        have HB := Lib.hid (HB.out.trans (hb2.mono (Nat.le_of_lt hz3)))
        clear hb2
        go_wp2_with fail
        all_goals
          refine (works_any _).mono ?_
          rintro e1 w7 ⟨rfl, hb7⟩
          go_wp2_with fail
          all_goals
            go_ret
            exact ⟨ret_bool (by first | rfl | (simp; done) | (simp; omega)), HB.out.trans (hb7.mono (Nat.le_of_lt (by omega)))⟩
  · have e1 : chk h p = 0 := by unfold chk; rw [if_neg hbad]
    rw [e1] at hr2
    have hr3 : r = (decide (1000000 ≤ b) || (decide (-1000000 < b) && decide (0 - b ≤ p) && decide (p ≤ b))) := by rw [hr2]; rfl
    have hpb : -999999 ≤ p ∧ p ≤ 999999 := by unfold bad at hbad; omega
    simp only [e1] at CC
    have CC := Lib.hid CC
    clear e1 hbad hr hr2
    by_cases q1 : 1000000 ≤ b
    · obtain rfl : r = true := by rw [hr3]; simp [q1]
      clear hr3
      have k1 : 100000 < b := by omega
      obtain ⟨rfl, rfl⟩ : u = 0 ∧ v = 2 := by rw [← hu, ← hv, sf, if_pos (by omega)]; exact ⟨rfl, rfl⟩
      clear hu hv
      go_enter Try.func5, Try.ntmps5
      go_wp2_with fail
      refine (CS.out _).mono ?_
      rintro e1 w1 ⟨rfl, hb1⟩
      have o1 := (show Cell _ w.heap.size 0 (.int .i64 h) from ⟨by go_simp, by go_simp⟩ : Cell (w.alloc (Obj.cells #[Value.int IntKind.i64 h, Value.int IntKind.i64 p] 23)) _ _ _).below hb1 (by simp)
      have o2 := (show Cell _ w.heap.size 1 (.int .i64 p) from ⟨by go_simp, by go_simp⟩ : Cell (w.alloc (Obj.cells #[Value.int IntKind.i64 h, Value.int IntKind.i64 p] 23)) _ _ _).below hb1 (by simp)
      obtain ⟨o1, _⟩ := o1
      obtain ⟨o2, _⟩ := o2
      have hz1 : w.heap.size < w1.heap.size := by have := hb1.size; simp at this; omega
      have hB : Below w.heap.size w w1 := ((Below.refl _ _).alloc (Nat.le_refl _) _).trans (hb1.mono (by simp))
      have HB := Lib.hid hB
      clear hb1 hB
      go_wp2_with fail
      refine (CC.out _).mono ?_
      rintro e1 w2 ⟨rfl, hb2⟩
      have o1 := keep hb2 o1 (by first | (simp; done) | (simp; omega))
      have o2 := keep hb2 o2 (by first | (simp; done) | (simp; omega))
      have hz2 : w.heap.size < w2.heap.size := Nat.lt_of_lt_of_le hz1 hb2.size
      have HB := Lib.hid (HB.out.trans (hb2.mono (Nat.le_of_lt hz1)))
      clear hb2
      go_wp2_with fail
      refine (CW.out _).mono ?_
      rintro e1 w3 ⟨rfl, hb2⟩
      have o1 := keep hb2 o1 (by first | (simp; done) | (simp; omega))
      have o2 := keep hb2 o2 (by first | (simp; done) | (simp; omega))
      have hz3 : w.heap.size < w3.heap.size := Nat.lt_of_lt_of_le hz2 hb2.size
      have HB := Lib.hid (HB.out.trans (hb2.mono (Nat.le_of_lt hz2)))
      clear hb2
      go_wp2_with fail
      all_goals
        refine (works_any _).mono ?_
        rintro e1 w7 ⟨rfl, hb7⟩
        go_wp2_with fail
        all_goals
          go_ret
          exact ⟨ret_bool (by first | rfl | (simp; done) | (simp; omega)), HB.out.trans (hb7.mono (Nat.le_of_lt (by omega)))⟩
    · by_cases q2 : -1000000 < b
      · have q1' : b < 1000000 := by omega
        by_cases q3 : p < -b
        · obtain rfl : r = false := by
            rw [hr3, Bool.eq_false_iff]; simp; omega
          clear hr3
          by_cases k0 : b < 0
          · obtain ⟨rfl, rfl⟩ : u = 0 ∧ v = 2 := by rw [← hu, ← hv, sf, if_pos (by omega)]; exact ⟨rfl, rfl⟩
            clear hu hv
            go_enter Try.func5, Try.ntmps5
            go_wp2_with fail
            refine (CS.out _).mono ?_
            rintro e1 w1 ⟨rfl, hb1⟩
            have o1 := (show Cell _ w.heap.size 0 (.int .i64 h) from ⟨by go_simp, by go_simp⟩ : Cell (w.alloc (Obj.cells #[Value.int IntKind.i64 h, Value.int IntKind.i64 p] 23)) _ _ _).below hb1 (by simp)
            have o2 := (show Cell _ w.heap.size 1 (.int .i64 p) from ⟨by go_simp, by go_simp⟩ : Cell (w.alloc (Obj.cells #[Value.int IntKind.i64 h, Value.int IntKind.i64 p] 23)) _ _ _).below hb1 (by simp)
            obtain ⟨o1, _⟩ := o1
            obtain ⟨o2, _⟩ := o2
            have hz1 : w.heap.size < w1.heap.size := by have := hb1.size; simp at this; omega
            have hB : Below w.heap.size w w1 := ((Below.refl _ _).alloc (Nat.le_refl _) _).trans (hb1.mono (by simp))
            have HB := Lib.hid hB
            clear hb1 hB
            go_wp2_with fail
            refine (CC.out _).mono ?_
            rintro e1 w2 ⟨rfl, hb2⟩
            have o1 := keep hb2 o1 (by first | (simp; done) | (simp; omega))
            have o2 := keep hb2 o2 (by first | (simp; done) | (simp; omega))
            have hz2 : w.heap.size < w2.heap.size := Nat.lt_of_lt_of_le hz1 hb2.size
            have HB := Lib.hid (HB.out.trans (hb2.mono (Nat.le_of_lt hz1)))
            clear hb2
            go_wp2_with fail
            refine (CW.out _).mono ?_
            rintro e1 w3 ⟨rfl, hb2⟩
            have o1 := keep hb2 o1 (by first | (simp; done) | (simp; omega))
            have o2 := keep hb2 o2 (by first | (simp; done) | (simp; omega))
            have hz3 : w.heap.size < w3.heap.size := Nat.lt_of_lt_of_le hz2 hb2.size
            have HB := Lib.hid (HB.out.trans (hb2.mono (Nat.le_of_lt hz2)))
            clear hb2
            go_wp2_with fail
            all_goals
              refine (works_any _).mono ?_
              rintro e1 w7 ⟨rfl, hb7⟩
              go_wp2_with fail
              all_goals
                go_ret
                exact ⟨ret_bool (by first | rfl | (simp; done) | (simp; omega)), HB.out.trans (hb7.mono (Nat.le_of_lt (by omega)))⟩
          · by_cases k1 : 100000 < b
            · have k0 : 0 ≤ b := by omega
              obtain ⟨rfl, rfl⟩ : u = 0 ∧ v = 2 := by rw [← hu, ← hv, sf, if_pos (by omega)]; exact ⟨rfl, rfl⟩
              clear hu hv
              go_enter Try.func5, Try.ntmps5
              go_wp2_with fail
              refine (CS.out _).mono ?_
              rintro e1 w1 ⟨rfl, hb1⟩
              have o1 := (show Cell _ w.heap.size 0 (.int .i64 h) from ⟨by go_simp, by go_simp⟩ : Cell (w.alloc (Obj.cells #[Value.int IntKind.i64 h, Value.int IntKind.i64 p] 23)) _ _ _).below hb1 (by simp)
              have o2 := (show Cell _ w.heap.size 1 (.int .i64 p) from ⟨by go_simp, by go_simp⟩ : Cell (w.alloc (Obj.cells #[Value.int IntKind.i64 h, Value.int IntKind.i64 p] 23)) _ _ _).below hb1 (by simp)
              obtain ⟨o1, _⟩ := o1
              obtain ⟨o2, _⟩ := o2
              have hz1 : w.heap.size < w1.heap.size := by have := hb1.size; simp at this; omega
              have hB : Below w.heap.size w w1 := ((Below.refl _ _).alloc (Nat.le_refl _) _).trans (hb1.mono (by simp))
              have HB := Lib.hid hB
              clear hb1 hB
              go_wp2_with fail
              refine (CC.out _).mono ?_
              rintro e1 w2 ⟨rfl, hb2⟩
              have o1 := keep hb2 o1 (by first | (simp; done) | (simp; omega))
              have o2 := keep hb2 o2 (by first | (simp; done) | (simp; omega))
              have hz2 : w.heap.size < w2.heap.size := Nat.lt_of_lt_of_le hz1 hb2.size
              have HB := Lib.hid (HB.out.trans (hb2.mono (Nat.le_of_lt hz1)))
              clear hb2
              go_wp2_with fail
              refine (CW.out _).mono ?_
              rintro e1 w3 ⟨rfl, hb2⟩
              have o1 := keep hb2 o1 (by first | (simp; done) | (simp; omega))
              have o2 := keep hb2 o2 (by first | (simp; done) | (simp; omega))
              have hz3 : w.heap.size < w3.heap.size := Nat.lt_of_lt_of_le hz2 hb2.size
              have HB := Lib.hid (HB.out.trans (hb2.mono (Nat.le_of_lt hz2)))
              clear hb2
              go_wp2_with fail
              all_goals
                refine (works_any _).mono ?_
                rintro e1 w7 ⟨rfl, hb7⟩
                go_wp2_with fail
                all_goals
                  go_ret
                  exact ⟨ret_bool (by first | rfl | (simp; done) | (simp; omega)), HB.out.trans (hb7.mono (Nat.le_of_lt (by omega)))⟩
            · have k0 : 0 ≤ b := by omega
              have k1 : b ≤ 100000 := by omega
              have CR := Lib.hid (fun w => countsr_any h (-b) ns u v w (by rw [← hu, ← hv, sf, if_neg (by omega)]; rfl) hn)
              clear hu hv
              go_enter Try.func5, Try.ntmps5
              go_wp2_with fail
              refine (CS.out _).mono ?_
              rintro e1 w1 ⟨rfl, hb1⟩
              have o1 := (show Cell _ w.heap.size 0 (.int .i64 h) from ⟨by go_simp, by go_simp⟩ : Cell (w.alloc (Obj.cells #[Value.int IntKind.i64 h, Value.int IntKind.i64 p] 23)) _ _ _).below hb1 (by simp)
              have o2 := (show Cell _ w.heap.size 1 (.int .i64 p) from ⟨by go_simp, by go_simp⟩ : Cell (w.alloc (Obj.cells #[Value.int IntKind.i64 h, Value.int IntKind.i64 p] 23)) _ _ _).below hb1 (by simp)
              obtain ⟨o1, _⟩ := o1
              obtain ⟨o2, _⟩ := o2
              have hz1 : w.heap.size < w1.heap.size := by have := hb1.size; simp at this; omega
              have hB : Below w.heap.size w w1 := ((Below.refl _ _).alloc (Nat.le_refl _) _).trans (hb1.mono (by simp))
              have HB := Lib.hid hB
              clear hb1 hB
              go_wp2_with fail
              refine (CR.out _).mono ?_
              rintro e1 w2 ⟨rfl, hb2⟩
              have o1 := keep hb2 o1 (by first | (simp; done) | (simp; omega))
              have o2 := keep hb2 o2 (by first | (simp; done) | (simp; omega))
              have hz2 : w.heap.size < w2.heap.size := Nat.lt_of_lt_of_le hz1 hb2.size
              have HB := Lib.hid (HB.out.trans (hb2.mono (Nat.le_of_lt hz1)))
              clear hb2
              go_wp2_with fail
              refine (CC.out _).mono ?_
              rintro e1 w3 ⟨rfl, hb2⟩
              have o1 := keep hb2 o1 (by first | (simp; done) | (simp; omega))
              have o2 := keep hb2 o2 (by first | (simp; done) | (simp; omega))
              have hz3 : w.heap.size < w3.heap.size := Nat.lt_of_lt_of_le hz2 hb2.size
              have HB := Lib.hid (HB.out.trans (hb2.mono (Nat.le_of_lt hz2)))
              clear hb2
              go_wp2_with fail
              refine (CW.out _).mono ?_
              rintro e1 w4 ⟨rfl, hb2⟩
              have o1 := keep hb2 o1 (by first | (simp; done) | (simp; omega))
              have o2 := keep hb2 o2 (by first | (simp; done) | (simp; omega))
              have hz4 : w.heap.size < w4.heap.size := Nat.lt_of_lt_of_le hz3 hb2.size
              have HB := Lib.hid (HB.out.trans (hb2.mono (Nat.le_of_lt hz3)))
              clear hb2
              go_wp2_with fail
              all_goals
                refine (works_any _).mono ?_
                rintro e1 w7 ⟨rfl, hb7⟩
                go_wp2_with fail
                all_goals
                  go_ret
                  exact ⟨ret_bool (by first | rfl | (simp; done) | (simp; omega)), HB.out.trans (hb7.mono (Nat.le_of_lt (by omega)))⟩
        · have q3' : -b ≤ p := by omega
          by_cases q4 : b < p
          · obtain rfl : r = false := by
              rw [hr3, Bool.eq_false_iff]; simp; omega
            clear hr3
            by_cases k0 : b < 0
            · obtain ⟨rfl, rfl⟩ : u = 0 ∧ v = 2 := by rw [← hu, ← hv, sf, if_pos (by omega)]; exact ⟨rfl, rfl⟩
              clear hu hv
              go_enter Try.func5, Try.ntmps5
              go_wp2_with fail
              refine (CS.out _).mono ?_
              rintro e1 w1 ⟨rfl, hb1⟩
              have o1 := (show Cell _ w.heap.size 0 (.int .i64 h) from ⟨by go_simp, by go_simp⟩ : Cell (w.alloc (Obj.cells #[Value.int IntKind.i64 h, Value.int IntKind.i64 p] 23)) _ _ _).below hb1 (by simp)
              have o2 := (show Cell _ w.heap.size 1 (.int .i64 p) from ⟨by go_simp, by go_simp⟩ : Cell (w.alloc (Obj.cells #[Value.int IntKind.i64 h, Value.int IntKind.i64 p] 23)) _ _ _).below hb1 (by simp)
              obtain ⟨o1, _⟩ := o1
              obtain ⟨o2, _⟩ := o2
              have hz1 : w.heap.size < w1.heap.size := by have := hb1.size; simp at this; omega
              have hB : Below w.heap.size w w1 := ((Below.refl _ _).alloc (Nat.le_refl _) _).trans (hb1.mono (by simp))
              have HB := Lib.hid hB
              clear hb1 hB
              go_wp2_with fail
              refine (CC.out _).mono ?_
              rintro e1 w2 ⟨rfl, hb2⟩
              have o1 := keep hb2 o1 (by first | (simp; done) | (simp; omega))
              have o2 := keep hb2 o2 (by first | (simp; done) | (simp; omega))
              have hz2 : w.heap.size < w2.heap.size := Nat.lt_of_lt_of_le hz1 hb2.size
              have HB := Lib.hid (HB.out.trans (hb2.mono (Nat.le_of_lt hz1)))
              clear hb2
              go_wp2_with fail
              refine (CW.out _).mono ?_
              rintro e1 w3 ⟨rfl, hb2⟩
              have o1 := keep hb2 o1 (by first | (simp; done) | (simp; omega))
              have o2 := keep hb2 o2 (by first | (simp; done) | (simp; omega))
              have hz3 : w.heap.size < w3.heap.size := Nat.lt_of_lt_of_le hz2 hb2.size
              have HB := Lib.hid (HB.out.trans (hb2.mono (Nat.le_of_lt hz2)))
              clear hb2
              go_wp2_with fail
              all_goals
                refine (works_any _).mono ?_
                rintro e1 w7 ⟨rfl, hb7⟩
                go_wp2_with fail
                all_goals
                  go_ret
                  exact ⟨ret_bool (by first | rfl | (simp; done) | (simp; omega)), HB.out.trans (hb7.mono (Nat.le_of_lt (by omega)))⟩
            · by_cases k1 : 100000 < b
              · have k0 : 0 ≤ b := by omega
                obtain ⟨rfl, rfl⟩ : u = 0 ∧ v = 2 := by rw [← hu, ← hv, sf, if_pos (by omega)]; exact ⟨rfl, rfl⟩
                clear hu hv
                go_enter Try.func5, Try.ntmps5
                go_wp2_with fail
                refine (CS.out _).mono ?_
                rintro e1 w1 ⟨rfl, hb1⟩
                have o1 := (show Cell _ w.heap.size 0 (.int .i64 h) from ⟨by go_simp, by go_simp⟩ : Cell (w.alloc (Obj.cells #[Value.int IntKind.i64 h, Value.int IntKind.i64 p] 23)) _ _ _).below hb1 (by simp)
                have o2 := (show Cell _ w.heap.size 1 (.int .i64 p) from ⟨by go_simp, by go_simp⟩ : Cell (w.alloc (Obj.cells #[Value.int IntKind.i64 h, Value.int IntKind.i64 p] 23)) _ _ _).below hb1 (by simp)
                obtain ⟨o1, _⟩ := o1
                obtain ⟨o2, _⟩ := o2
                have hz1 : w.heap.size < w1.heap.size := by have := hb1.size; simp at this; omega
                have hB : Below w.heap.size w w1 := ((Below.refl _ _).alloc (Nat.le_refl _) _).trans (hb1.mono (by simp))
                have HB := Lib.hid hB
                clear hb1 hB
                go_wp2_with fail
                refine (CC.out _).mono ?_
                rintro e1 w2 ⟨rfl, hb2⟩
                have o1 := keep hb2 o1 (by first | (simp; done) | (simp; omega))
                have o2 := keep hb2 o2 (by first | (simp; done) | (simp; omega))
                have hz2 : w.heap.size < w2.heap.size := Nat.lt_of_lt_of_le hz1 hb2.size
                have HB := Lib.hid (HB.out.trans (hb2.mono (Nat.le_of_lt hz1)))
                clear hb2
                go_wp2_with fail
                refine (CW.out _).mono ?_
                rintro e1 w3 ⟨rfl, hb2⟩
                have o1 := keep hb2 o1 (by first | (simp; done) | (simp; omega))
                have o2 := keep hb2 o2 (by first | (simp; done) | (simp; omega))
                have hz3 : w.heap.size < w3.heap.size := Nat.lt_of_lt_of_le hz2 hb2.size
                have HB := Lib.hid (HB.out.trans (hb2.mono (Nat.le_of_lt hz2)))
                clear hb2
                go_wp2_with fail
                all_goals
                  refine (works_any _).mono ?_
                  rintro e1 w7 ⟨rfl, hb7⟩
                  go_wp2_with fail
                  all_goals
                    go_ret
                    exact ⟨ret_bool (by first | rfl | (simp; done) | (simp; omega)), HB.out.trans (hb7.mono (Nat.le_of_lt (by omega)))⟩
              · have k0 : 0 ≤ b := by omega
                have k1 : b ≤ 100000 := by omega
                have CR := Lib.hid (fun w => countsr_any h (-b) ns u v w (by rw [← hu, ← hv, sf, if_neg (by omega)]; rfl) hn)
                clear hu hv
                go_enter Try.func5, Try.ntmps5
                go_wp2_with fail
                refine (CS.out _).mono ?_
                rintro e1 w1 ⟨rfl, hb1⟩
                have o1 := (show Cell _ w.heap.size 0 (.int .i64 h) from ⟨by go_simp, by go_simp⟩ : Cell (w.alloc (Obj.cells #[Value.int IntKind.i64 h, Value.int IntKind.i64 p] 23)) _ _ _).below hb1 (by simp)
                have o2 := (show Cell _ w.heap.size 1 (.int .i64 p) from ⟨by go_simp, by go_simp⟩ : Cell (w.alloc (Obj.cells #[Value.int IntKind.i64 h, Value.int IntKind.i64 p] 23)) _ _ _).below hb1 (by simp)
                obtain ⟨o1, _⟩ := o1
                obtain ⟨o2, _⟩ := o2
                have hz1 : w.heap.size < w1.heap.size := by have := hb1.size; simp at this; omega
                have hB : Below w.heap.size w w1 := ((Below.refl _ _).alloc (Nat.le_refl _) _).trans (hb1.mono (by simp))
                have HB := Lib.hid hB
                clear hb1 hB
                go_wp2_with fail
                refine (CR.out _).mono ?_
                rintro e1 w2 ⟨rfl, hb2⟩
                have o1 := keep hb2 o1 (by first | (simp; done) | (simp; omega))
                have o2 := keep hb2 o2 (by first | (simp; done) | (simp; omega))
                have hz2 : w.heap.size < w2.heap.size := Nat.lt_of_lt_of_le hz1 hb2.size
                have HB := Lib.hid (HB.out.trans (hb2.mono (Nat.le_of_lt hz1)))
                clear hb2
                go_wp2_with fail
                refine (CC.out _).mono ?_
                rintro e1 w3 ⟨rfl, hb2⟩
                have o1 := keep hb2 o1 (by first | (simp; done) | (simp; omega))
                have o2 := keep hb2 o2 (by first | (simp; done) | (simp; omega))
                have hz3 : w.heap.size < w3.heap.size := Nat.lt_of_lt_of_le hz2 hb2.size
                have HB := Lib.hid (HB.out.trans (hb2.mono (Nat.le_of_lt hz2)))
                clear hb2
                go_wp2_with fail
                refine (CW.out _).mono ?_
                rintro e1 w4 ⟨rfl, hb2⟩
                have o1 := keep hb2 o1 (by first | (simp; done) | (simp; omega))
                have o2 := keep hb2 o2 (by first | (simp; done) | (simp; omega))
                have hz4 : w.heap.size < w4.heap.size := Nat.lt_of_lt_of_le hz3 hb2.size
                have HB := Lib.hid (HB.out.trans (hb2.mono (Nat.le_of_lt hz3)))
                clear hb2
                go_wp2_with fail
                all_goals
                  refine (works_any _).mono ?_
                  rintro e1 w7 ⟨rfl, hb7⟩
                  go_wp2_with fail
                  all_goals
                    go_ret
                    exact ⟨ret_bool (by first | rfl | (simp; done) | (simp; omega)), HB.out.trans (hb7.mono (Nat.le_of_lt (by omega)))⟩
          · have q4' : p ≤ b := by omega
            obtain rfl : r = true := by rw [hr3]; simp; omega
            clear hr3 q3 q4
            by_cases k0 : b < 0
            · exfalso; omega
            · by_cases k1 : 100000 < b
              · have k0 : 0 ≤ b := by omega
                obtain ⟨rfl, rfl⟩ : u = 0 ∧ v = 2 := by rw [← hu, ← hv, sf, if_pos (by omega)]; exact ⟨rfl, rfl⟩
                clear hu hv
                go_enter Try.func5, Try.ntmps5
                go_wp2_with fail
                refine (CS.out _).mono ?_
                rintro e1 w1 ⟨rfl, hb1⟩
                have o1 := (show Cell _ w.heap.size 0 (.int .i64 h) from ⟨by go_simp, by go_simp⟩ : Cell (w.alloc (Obj.cells #[Value.int IntKind.i64 h, Value.int IntKind.i64 p] 23)) _ _ _).below hb1 (by simp)
                have o2 := (show Cell _ w.heap.size 1 (.int .i64 p) from ⟨by go_simp, by go_simp⟩ : Cell (w.alloc (Obj.cells #[Value.int IntKind.i64 h, Value.int IntKind.i64 p] 23)) _ _ _).below hb1 (by simp)
                obtain ⟨o1, _⟩ := o1
                obtain ⟨o2, _⟩ := o2
                have hz1 : w.heap.size < w1.heap.size := by have := hb1.size; simp at this; omega
                have hB : Below w.heap.size w w1 := ((Below.refl _ _).alloc (Nat.le_refl _) _).trans (hb1.mono (by simp))
                have HB := Lib.hid hB
                clear hb1 hB
                go_wp2_with fail
                refine (CC.out _).mono ?_
                rintro e1 w2 ⟨rfl, hb2⟩
                have o1 := keep hb2 o1 (by first | (simp; done) | (simp; omega))
                have o2 := keep hb2 o2 (by first | (simp; done) | (simp; omega))
                have hz2 : w.heap.size < w2.heap.size := Nat.lt_of_lt_of_le hz1 hb2.size
                have HB := Lib.hid (HB.out.trans (hb2.mono (Nat.le_of_lt hz1)))
                clear hb2
                go_wp2_with fail
                refine (CW.out _).mono ?_
                rintro e1 w3 ⟨rfl, hb2⟩
                have o1 := keep hb2 o1 (by first | (simp; done) | (simp; omega))
                have o2 := keep hb2 o2 (by first | (simp; done) | (simp; omega))
                have hz3 : w.heap.size < w3.heap.size := Nat.lt_of_lt_of_le hz2 hb2.size
                have HB := Lib.hid (HB.out.trans (hb2.mono (Nat.le_of_lt hz2)))
                clear hb2
                go_wp2_with fail
                all_goals
                  refine (works_any _).mono ?_
                  rintro e1 w7 ⟨rfl, hb7⟩
                  go_wp2_with fail
                  all_goals
                    go_ret
                    exact ⟨ret_bool (by first | rfl | (simp; done) | (simp; omega)), HB.out.trans (hb7.mono (Nat.le_of_lt (by omega)))⟩
              · have k0 : 0 ≤ b := by omega
                have k1 : b ≤ 100000 := by omega
                have CR := Lib.hid (fun w => countsr_any h (-b) ns u v w (by rw [← hu, ← hv, sf, if_neg (by omega)]; rfl) hn)
                clear hu hv
                go_enter Try.func5, Try.ntmps5
                go_wp2_with fail
                refine (CS.out _).mono ?_
                rintro e1 w1 ⟨rfl, hb1⟩
                have o1 := (show Cell _ w.heap.size 0 (.int .i64 h) from ⟨by go_simp, by go_simp⟩ : Cell (w.alloc (Obj.cells #[Value.int IntKind.i64 h, Value.int IntKind.i64 p] 23)) _ _ _).below hb1 (by simp)
                have o2 := (show Cell _ w.heap.size 1 (.int .i64 p) from ⟨by go_simp, by go_simp⟩ : Cell (w.alloc (Obj.cells #[Value.int IntKind.i64 h, Value.int IntKind.i64 p] 23)) _ _ _).below hb1 (by simp)
                obtain ⟨o1, _⟩ := o1
                obtain ⟨o2, _⟩ := o2
                have hz1 : w.heap.size < w1.heap.size := by have := hb1.size; simp at this; omega
                have hB : Below w.heap.size w w1 := ((Below.refl _ _).alloc (Nat.le_refl _) _).trans (hb1.mono (by simp))
                have HB := Lib.hid hB
                clear hb1 hB
                go_wp2_with fail
                refine (CR.out _).mono ?_
                rintro e1 w2 ⟨rfl, hb2⟩
                have o1 := keep hb2 o1 (by first | (simp; done) | (simp; omega))
                have o2 := keep hb2 o2 (by first | (simp; done) | (simp; omega))
                have hz2 : w.heap.size < w2.heap.size := Nat.lt_of_lt_of_le hz1 hb2.size
                have HB := Lib.hid (HB.out.trans (hb2.mono (Nat.le_of_lt hz1)))
                clear hb2
                go_wp2_with fail
                refine (CC.out _).mono ?_
                rintro e1 w3 ⟨rfl, hb2⟩
                have o1 := keep hb2 o1 (by first | (simp; done) | (simp; omega))
                have o2 := keep hb2 o2 (by first | (simp; done) | (simp; omega))
                have hz3 : w.heap.size < w3.heap.size := Nat.lt_of_lt_of_le hz2 hb2.size
                have HB := Lib.hid (HB.out.trans (hb2.mono (Nat.le_of_lt hz2)))
                clear hb2
                go_wp2_with fail
                refine (CW.out _).mono ?_
                rintro e1 w4 ⟨rfl, hb2⟩
                have o1 := keep hb2 o1 (by first | (simp; done) | (simp; omega))
                have o2 := keep hb2 o2 (by first | (simp; done) | (simp; omega))
                have hz4 : w.heap.size < w4.heap.size := Nat.lt_of_lt_of_le hz3 hb2.size
                have HB := Lib.hid (HB.out.trans (hb2.mono (Nat.le_of_lt hz3)))
                clear hb2
                go_wp2_with fail
                all_goals
                  refine (works_any _).mono ?_
                  rintro e1 w7 ⟨rfl, hb7⟩
                  go_wp2_with fail
                  all_goals
                    go_ret
                    exact ⟨ret_bool (by first | rfl | (simp; done) | (simp; omega)), HB.out.trans (hb7.mono (Nat.le_of_lt (by omega)))⟩
      · have q2' : b ≤ -1000000 := by omega
        obtain rfl : r = false := by
          rw [hr3, Bool.eq_false_iff]; simp; omega
        clear hr3
        have k0 : b < 0 := by omega
        obtain ⟨rfl, rfl⟩ : u = 0 ∧ v = 2 := by rw [← hu, ← hv, sf, if_pos (by omega)]; exact ⟨rfl, rfl⟩
        clear hu hv
        go_enter Try.func5, Try.ntmps5
        go_wp2_with fail
        refine (CS.out _).mono ?_
        rintro e1 w1 ⟨rfl, hb1⟩
        have o1 := (show Cell _ w.heap.size 0 (.int .i64 h) from ⟨by go_simp, by go_simp⟩ : Cell (w.alloc (Obj.cells #[Value.int IntKind.i64 h, Value.int IntKind.i64 p] 23)) _ _ _).below hb1 (by simp)
        have o2 := (show Cell _ w.heap.size 1 (.int .i64 p) from ⟨by go_simp, by go_simp⟩ : Cell (w.alloc (Obj.cells #[Value.int IntKind.i64 h, Value.int IntKind.i64 p] 23)) _ _ _).below hb1 (by simp)
        obtain ⟨o1, _⟩ := o1
        obtain ⟨o2, _⟩ := o2
        have hz1 : w.heap.size < w1.heap.size := by have := hb1.size; simp at this; omega
        have hB : Below w.heap.size w w1 := ((Below.refl _ _).alloc (Nat.le_refl _) _).trans (hb1.mono (by simp))
        have HB := Lib.hid hB
        clear hb1 hB
        go_wp2_with fail
        refine (CC.out _).mono ?_
        rintro e1 w2 ⟨rfl, hb2⟩
        have o1 := keep hb2 o1 (by first | (simp; done) | (simp; omega))
        have o2 := keep hb2 o2 (by first | (simp; done) | (simp; omega))
        have hz2 : w.heap.size < w2.heap.size := Nat.lt_of_lt_of_le hz1 hb2.size
        have HB := Lib.hid (HB.out.trans (hb2.mono (Nat.le_of_lt hz1)))
        clear hb2
        go_wp2_with fail
        refine (CW.out _).mono ?_
        rintro e1 w3 ⟨rfl, hb2⟩
        have o1 := keep hb2 o1 (by first | (simp; done) | (simp; omega))
        have o2 := keep hb2 o2 (by first | (simp; done) | (simp; omega))
        have hz3 : w.heap.size < w3.heap.size := Nat.lt_of_lt_of_le hz2 hb2.size
        have HB := Lib.hid (HB.out.trans (hb2.mono (Nat.le_of_lt hz2)))
        clear hb2
        go_wp2_with fail
        all_goals
          refine (works_any _).mono ?_
          rintro e1 w7 ⟨rfl, hb7⟩
          go_wp2_with fail
          all_goals
            go_ret
            exact ⟨ret_bool (by first | rfl | (simp; done) | (simp; omega)), HB.out.trans (hb7.mono (Nat.le_of_lt (by omega)))⟩

end Go.Proofs.Ytgifhcjbaljenaa.OscF

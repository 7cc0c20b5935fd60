import Derived.Test.YtlafeijkpnpdeaaGreatMg15

/- The reference of valid: Part. -/
namespace Go.Proofs.YtlafeijkpnpdeaaGreat.Vps
open Go.RowKit Base Kit Conf Conf2 PowA PowB Vfa Vfb Val Vld Vpa Vpr
set_option linter.unusedVariables false
set_option linter.unusedSimpArgs false
theorem reg_ref {b s e0 e1 : Int} (h : 0 ≤ e0 + e1) : regB b s e0 e1 = (inB b (e0 + e1) 1048576 && inB s 1 256 && decide (b ≤ 1048576 - s)) := by
  unfold regB
  rw [Bool.eq_iff_iff]
  simp only [Bool.and_eq_true, inB_iff, decide_eq_true_eq]
  omega
theorem part_21 {q : PartC} (h : regsB q = false) : PartR q = 21 := by unfold PartR; rw [if_pos h]
theorem part_22 {q : PartC} (h0 : regsB q = true) (h : procsB q = false) : PartR q = 22 := by unfold PartR; rw [h0, if_neg (by decide), if_pos h]
theorem part_23 {q : PartC} (h0 : regsB q = true) (h1 : procsB q = true) (h : portsB q = false) : PartR q = 23 := by unfold PartR; rw [h0, h1, if_neg (by decide), if_neg (by decide), if_pos h]
theorem part_24 {q : PartC} (h0 : regsB q = true) (h1 : procsB q = true) (h2 : portsB q = true) (h : objB q = false) : PartR q = 24 := by unfold PartR; rw [h0, h1, h2, if_neg (by decide), if_neg (by decide), if_neg (by decide), if_pos h]
theorem part_20 {q : PartC} (h0 : regsB q = true) (h1 : procsB q = true) (h2 : portsB q = true) (h3 : objB q = true) (h : lastB q = false) : PartR q = 20 := by unfold PartR; rw [h0, h1, h2, h3, if_neg (by decide), if_neg (by decide), if_neg (by decide), if_neg (by decide), if_pos h]
theorem part_0 {q : PartC} (h0 : regsB q = true) (h1 : procsB q = true) (h2 : portsB q = true) (h3 : objB q = true) (h : lastB q = true) : PartR q = 0 := by unfold PartR; rw [h0, h1, h2, h3, h, if_neg (by decide), if_neg (by decide), if_neg (by decide), if_neg (by decide), if_neg (by decide)]
set_option maxRecDepth 100000 in
set_option maxHeartbeats 4000000 in
theorem Partr_any (q : PartC) (w : World) (ok : q.Ok w) (r : Int) (hr : Hid (PartR q = r)) :
    Calls Tryz.prog 40 #[.agg #[.slice q.ra q.rn q.rc, .slice q.pa q.pn q.pc, .slice q.oa q.on q.oc, .slice q.sa q.sn q.sc, .int .i64 q.fl, .slice q.qa q.qn q.qc, .slice q.ta q.tn q.tc, .int .i64 q.cap, .int .i64 q.bud, .int .i64 q.lad, .slice q.ca q.cn q.cc]] w fun e w' => e = .returned (.int .i64 r) ∧ Below w.heap.size w w' := by
  have R0 := rv3 ok.reg
  have RI := Lib.hid ok.regI
  have h0 := ok.reg.out.1
  have HR := hr
  clear hr
  have S := qs_in w q
  have bc := S.out.box.cell
  by_cases n0 : q.rn ≤ 4
  rotate_left
  · have E21 := Lib.hid (part_21 (q := q) (all_many n0))
    have n0 : 4 < q.rn := by omega
    go_enter Tryz.func40, Tryz.ntmps40
    go_wp2_with fail
    generalize w.alloc (.cells #[.slice q.ra q.rn q.rc, .slice q.pa q.pn q.pc, .slice q.oa q.on q.oc, .slice q.sa q.sn q.sc, .int .i64 q.fl, .slice q.qa q.qn q.qc, .slice q.ta q.tn q.tc, .int .i64 q.cap, .int .i64 q.bud, .int .i64 q.lad, .slice q.ca q.cn q.cc] 61) = W at S bc ⊢
    go_ret
    exact ⟨Kit.ret_int (E21.out.symm.trans HR.out), S.out.bel⟩
  go_enter Tryz.func40, Tryz.ntmps40
  go_wp2_with fail
  generalize w.alloc (.cells #[.slice q.ra q.rn q.rc, .slice q.pa q.pn q.pc, .slice q.oa q.on q.oc, .slice q.sa q.sn q.sc, .int .i64 q.fl, .slice q.qa q.qn q.qc, .slice q.ta q.tn q.tc, .int .i64 q.cap, .int .i64 q.bud, .int .i64 q.lad, .slice q.ca q.cn q.cc] 61) = W at S bc ⊢
  go_loopw [3, 4] (fun e i wr => ∃ k : Nat, k ≤ q.rn ∧ i = .int .i64 k ∧ e = .int .i64 (ahI q.rb k + ahI q.rs k) ∧ Hid (∀ j, j < k → regP q.rb q.rs j = true) ∧ Hid (Qs w wr q)) (fun _ i _ => q.rn - (intOf i).toNat)
  case atStart => exact ⟨0, Nat.zero_le _, rfl, rfl, Lib.hid (fun j hj => by omega), S⟩
  case round =>
    clear S bc
    obtain ⟨k, hk, rfl, rfl, HL, Sr⟩ := hrel
    have bc := Sr.out.box.cell
    by_cases hl : k < q.rn
    · obtain ⟨b, off, ea, hbl, c0, c1, c2⟩ := R0.out k hl
      replace c0 := keep Sr.out.bel c0 hbl
      replace c1 := keep Sr.out.bel c1 hbl
      replace c2 := keep Sr.out.bel c2 hbl
      rw [ea] at bc
      clear ea
      obtain ⟨⟨g0, g1⟩, ⟨g2, g3⟩⟩ := RI.out k hl
      obtain ⟨⟨a0, a1⟩, a2, a3⟩ := reg_ah k HL.out
      have HX := Lib.hid (fun (h : regP q.rb q.rs k = true) => show ∀ j, j < k + 1 → regP q.rb q.rs j = true from fun j hj => if e : j = k then by rw [e]; exact h else HL.out j (by omega))
      have HF := Lib.hid (fun (h : regP q.rb q.rs k = false) => (HR.out.symm.trans (part_21 (q := q) (all_bad hl h)) : r = 21))
      have HE := Lib.hid (show ahI q.rb (k + 1) + ahI q.rs (k + 1) = q.rb k + q.rs k from rfl)
      have hP : regP q.rb q.rs k = (inB (q.rb k) (ahI q.rb k + ahI q.rs k) 1048576 && inB (q.rs k) 1 256 && decide (q.rb k ≤ 1048576 - q.rs k)) := reg_ref (by omega)
      rw [hP] at HX HF
      clear hP
      obtain ⟨E, hE⟩ : ∃ E, ahI q.rb k + ahI q.rs k = E := ⟨_, rfl⟩
      rw [hE] at HX HF ⊢
      have E0 : 0 ≤ E ∧ E ≤ 1048832 := by omega
      obtain ⟨E0, E1⟩ := E0
      clear hE a0 a1 a2 a3
      generalize q.rb k = x0 at *
      generalize q.rs k = x1 at *
      generalize q.rw k = x2 at *
      obtain ⟨u0, d0⟩ : ∃ z, inB x0 E 1048576 = z := ⟨_, rfl⟩
      obtain ⟨u1, d1⟩ : ∃ z, inB x1 1 256 = z := ⟨_, rfl⟩
      rw [d0, d1] at HX HF
      have D0 := Lib.hid (fun w => outr_any x0 E 1048576 u0 w (Lib.hid d0))
      have D1 := Lib.hid (fun w => outr_any x1 1 256 u1 w (Lib.hid d1))
      have S1 : Hid (Qs w (wr.alloc (.cells #[.int .i64 x0, .int .i64 x1, .bool x2] 84)) q) := qs_next Sr ((Below.refl _ _).alloc (Nat.le_refl _) _)
      cases u0
      · clear d0 d1
        obtain rfl := HF.out rfl
        go_wp2_with fail
        refine (D0.out _).mono ?_
        rintro e1 w5 ⟨rfl, e9⟩
        cases e9
        go_wp2_with fail
        go_ret
        exact ⟨rfl, S1.out.bel⟩
      · cases u1
        · clear d0 d1
          obtain rfl := HF.out rfl
          go_wp2_with fail
          refine (D0.out _).mono ?_
          rintro e1 w5 ⟨rfl, e9⟩
          cases e9
          go_wp2_with fail
          refine (D1.out _).mono ?_
          rintro e1 w5 ⟨rfl, e9⟩
          cases e9
          go_wp2_with fail
          go_ret
          exact ⟨rfl, S1.out.bel⟩
        · have q0 := inB_iff.1 d0
          have q1 := inB_iff.1 d1
          obtain ⟨q00, q01⟩ := q0
          obtain ⟨q10, q11⟩ := q1
          clear d0 d1
          by_cases hb : x0 ≤ 1048576 - x1
          · have HL := Lib.hid (HX.out (by simp [hb]))
            go_wp2_with fail
            refine (D0.out _).mono ?_
            rintro e1 w5 ⟨rfl, e9⟩
            cases e9
            go_wp2_with fail
            refine (D1.out _).mono ?_
            rintro e1 w5 ⟨rfl, e9⟩
            cases e9
            go_wp2_with fail
            go_roundw
            case rel => exact ⟨k + 1, by omega, by go_num, by rw [HE.out], HL, S1⟩
            case measure => simp [intOf]; omega
          · obtain rfl := HF.out (by simp [hb])
            have hb : 1048576 - x1 < x0 := by omega
            go_wp2_with fail
            refine (D0.out _).mono ?_
            rintro e1 w5 ⟨rfl, e9⟩
            cases e9
            go_wp2_with fail
            refine (D1.out _).mono ?_
            rintro e1 w5 ⟨rfl, e9⟩
            cases e9
            go_wp2_with fail
            go_ret
            exact ⟨rfl, S1.out.bel⟩
    · obtain rfl : k = q.rn := by omega
      have HS := Lib.hid (show regsB q = true from all_good n0 HL.out)
      clear HL hl hk R0 RI h0 n0
      have R1 := ri3 ok.proc
      have h1 := ok.proc.out.1
      obtain ⟨v, dv⟩ : ∃ z, inB (q.pn : Int) 1 8 = z := ⟨_, rfl⟩
      have DP := Lib.hid (fun w => outr_any (q.pn : Int) 1 8 v w (Lib.hid dv))
      cases v
      · have hp : procsB q = false := by
          have := inB_not.1 dv
          unfold procsB
          by_cases e : 1 ≤ q.pn
          · rw [all_many (by omega), Bool.and_false]
          · rw [decide_eq_false e, Bool.false_and]
        obtain rfl : r = 22 := HR.out.symm.trans (part_22 HS.out hp)
        clear dv hp
        go_wp2_with fail
        refine (DP.out _).mono ?_
        rintro e1 w5 ⟨rfl, e9⟩
        cases e9
        go_wp2_with fail
        go_ret
        exact ⟨rfl, Sr.out.bel⟩
      · have hp0 := inB_iff.1 dv
        have n1 : q.pn ≤ 8 := by omega
        have N1 := Lib.hid (show 1 ≤ q.pn by omega)
        clear dv hp0
        go_wp2_with fail
        refine (DP.out _).mono ?_
        rintro e1 w5 ⟨rfl, e9⟩
        cases e9
        go_wp2_with fail
        go_loopw [6] (fun i wr => ∃ k : Nat, k ≤ q.pn ∧ i = .int .i64 k ∧ Hid (∀ j, j < k → procB (q.pf j 0) (q.pf j 1) (q.pf j 2) = true) ∧ Hid (Qs w wr q)) (fun i _ => q.pn - (intOf i).toNat)
        case atStart => exact ⟨0, Nat.zero_le _, rfl, Lib.hid (fun j hj => by omega), Sr⟩
        case round =>
          clear bc Sr
          obtain ⟨k, hk, rfl, HL, Sr⟩ := hrel
          have bc := Sr.out.box.cell
          by_cases hl : k < q.pn
          · obtain ⟨b, off, ea, hbl, c0, c1, c2⟩ := R1.out k hl
            replace c0 := keep Sr.out.bel c0 hbl
            replace c1 := keep Sr.out.bel c1 hbl
            replace c2 := keep Sr.out.bel c2 hbl
            rw [ea] at bc
            clear ea
            have HX := Lib.hid (fun (h : procB (q.pf k 0) (q.pf k 1) (q.pf k 2) = true) => show ∀ j, j < k + 1 → procB (q.pf j 0) (q.pf j 1) (q.pf j 2) = true from fun j hj => if e : j = k then by rw [e]; exact h else HL.out j (by omega))
            have HF := Lib.hid (fun (h : procB (q.pf k 0) (q.pf k 1) (q.pf k 2) = false) => (HR.out.symm.trans (part_22 HS.out (by unfold procsB; rw [all_bad (P := fun k => procB (q.pf k 0) (q.pf k 1) (q.pf k 2)) hl h, Bool.and_false])) : r = 22))
            unfold procB at HX HF
            generalize q.pf k 0 = x0 at *
            generalize q.pf k 1 = x1 at *
            generalize q.pf k 2 = x2 at *
            obtain ⟨u0, d0⟩ : ∃ z, inB x0 0 63 = z := ⟨_, rfl⟩
            obtain ⟨u1, d1⟩ : ∃ z, inB x1 0 1000 = z := ⟨_, rfl⟩
            obtain ⟨u2, d2⟩ : ∃ z, inB x2 1 1000000000 = z := ⟨_, rfl⟩
            rw [d0, d1, d2] at HX HF
            have D0 := Lib.hid (fun w => outr_any x0 0 63 u0 w (Lib.hid d0))
            have D1 := Lib.hid (fun w => outr_any x1 0 1000 u1 w (Lib.hid d1))
            have D2 := Lib.hid (fun w => outr_any x2 1 1000000000 u2 w (Lib.hid d2))
            clear d0 d1 d2
            have S1 : Hid (Qs w (wr.alloc (.cells #[.int .i64 x0, .int .i64 x1, .int .i64 x2] 86)) q) := qs_next Sr ((Below.refl _ _).alloc (Nat.le_refl _) _)
            cases u0
            · obtain rfl := HF.out rfl
              go_wp2_with fail
              refine (D0.out _).mono ?_
              rintro e1 w5 ⟨rfl, e9⟩
              cases e9
              go_wp2_with fail
              go_ret
              exact ⟨rfl, S1.out.bel⟩
            · cases u1
              · obtain rfl := HF.out rfl
                go_wp2_with fail
                refine (D0.out _).mono ?_
                rintro e1 w5 ⟨rfl, e9⟩
                cases e9
                go_wp2_with fail
                refine (D1.out _).mono ?_
                rintro e1 w5 ⟨rfl, e9⟩
                cases e9
                go_wp2_with fail
                go_ret
                exact ⟨rfl, S1.out.bel⟩
              · cases u2
                · obtain rfl := HF.out rfl
                  go_wp2_with fail
                  refine (D0.out _).mono ?_
                  rintro e1 w5 ⟨rfl, e9⟩
                  cases e9
                  go_wp2_with fail
                  refine (D1.out _).mono ?_
                  rintro e1 w5 ⟨rfl, e9⟩
                  cases e9
                  go_wp2_with fail
                  refine (D2.out _).mono ?_
                  rintro e1 w5 ⟨rfl, e9⟩
                  cases e9
                  go_wp2_with fail
                  go_ret
                  exact ⟨rfl, S1.out.bel⟩
                · have HL := Lib.hid (HX.out rfl)
                  go_wp2_with fail
                  refine (D0.out _).mono ?_
                  rintro e1 w5 ⟨rfl, e9⟩
                  cases e9
                  go_wp2_with fail
                  refine (D1.out _).mono ?_
                  rintro e1 w5 ⟨rfl, e9⟩
                  cases e9
                  go_wp2_with fail
                  refine (D2.out _).mono ?_
                  rintro e1 w5 ⟨rfl, e9⟩
                  cases e9
                  go_wp2_with fail
                  go_roundw
                  case rel => exact ⟨k + 1, by omega, by go_num, HL, S1⟩
                  case measure => simp [intOf]; omega
          · obtain rfl : k = q.pn := by omega
            have HP := Lib.hid (show procsB q = true from by unfold procsB; rw [decide_eq_true N1.out, Bool.true_and]; exact all_good n1 HL.out)
            clear HL hl hk R1 h1 n1
            have R2 := rv4 ok.port
            have h2 := ok.port.out.1
            by_cases n2 : q.on ≤ 8
            rotate_left
            · obtain rfl : r = 23 := HR.out.symm.trans (part_23 HS.out HP.out (all_many n2))
              have n2 : 8 < q.on := by omega
              go_wp2_with fail
              go_ret
              exact ⟨rfl, Sr.out.bel⟩
            go_wp2_with fail
            go_loopw [8] (fun i wr => ∃ k : Nat, k ≤ q.on ∧ i = .int .i64 k ∧ Hid (∀ j, j < k → portB (q.oq j) (q.oi j) (q.os j) (q.od j) = true) ∧ Hid (Qs w wr q)) (fun i _ => q.on - (intOf i).toNat)
            case atStart => exact ⟨0, Nat.zero_le _, rfl, Lib.hid (fun j hj => by omega), Sr⟩
            case round =>
              clear bc Sr
              obtain ⟨k, hk, rfl, HL, Sr⟩ := hrel
              have bc := Sr.out.box.cell
              by_cases hl : k < q.on
              · obtain ⟨b, off, ea, hbl, c0, c1, c2, c3⟩ := R2.out k hl
                replace c0 := keep Sr.out.bel c0 hbl
                replace c1 := keep Sr.out.bel c1 hbl
                replace c2 := keep Sr.out.bel c2 hbl
                replace c3 := keep Sr.out.bel c3 hbl
                rw [ea] at bc
                clear ea
                have HX := Lib.hid (fun (h : portB (q.oq k) (q.oi k) (q.os k) (q.od k) = true) => show ∀ j, j < k + 1 → portB (q.oq j) (q.oi j) (q.os j) (q.od j) = true from fun j hj => if e : j = k then by rw [e]; exact h else HL.out j (by omega))
                have HF := Lib.hid (fun (h : portB (q.oq k) (q.oi k) (q.os k) (q.od k) = false) => (HR.out.symm.trans (part_23 HS.out HP.out (all_bad (P := fun k => portB (q.oq k) (q.oi k) (q.os k) (q.od k)) hl h)) : r = 23))
                unfold portB at HX HF
                generalize q.oq k = x0 at *
                generalize q.oi k = x1 at *
                generalize q.os k = x2 at *
                generalize q.od k = x3 at *
                obtain ⟨u0, d0⟩ : ∃ z, inB x2 1 64 = z := ⟨_, rfl⟩
                obtain ⟨u1, d1⟩ : ∃ z, inB x3 1 16 = z := ⟨_, rfl⟩
                rw [d0, d1] at HX HF
                have D0 := Lib.hid (fun w => outr_any x2 1 64 u0 w (Lib.hid d0))
                have D1 := Lib.hid (fun w => outr_any x3 1 16 u1 w (Lib.hid d1))
                clear d0 d1
                have S1 : Hid (Qs w (wr.alloc (.cells #[.bool x0, .bool x1, .int .i64 x2, .int .i64 x3] 130)) q) := qs_next Sr ((Below.refl _ _).alloc (Nat.le_refl _) _)
                cases u0
                · obtain rfl := HF.out rfl
                  go_wp2_with fail
                  refine (D0.out _).mono ?_
                  rintro e1 w5 ⟨rfl, e9⟩
                  cases e9
                  go_wp2_with fail
                  go_ret
                  exact ⟨rfl, S1.out.bel⟩
                · cases x0
                  · by_cases hz : x3 = 0
                    · subst hz
                      have HL := Lib.hid (HX.out rfl)
                      go_wp2_with fail
                      refine (D0.out _).mono ?_
                      rintro e1 w5 ⟨rfl, e9⟩
                      cases e9
                      go_wp2_with fail
                      go_roundw
                      case rel => exact ⟨k + 1, by omega, by go_num, HL, S1⟩
                      case measure => simp [intOf]; omega
                    · obtain rfl := HF.out (by simp [hz])
                      have hz : (x3 != 0) = true := by rw [bne_iff_ne]; exact hz
                      go_wp2_with fail
                      refine (D0.out _).mono ?_
                      rintro e1 w5 ⟨rfl, e9⟩
                      cases e9
                      go_wp2_with fail
                      go_ret
                      exact ⟨rfl, S1.out.bel⟩
                  · cases u1
                    · obtain rfl := HF.out rfl
                      go_wp2_with fail
                      refine (D0.out _).mono ?_
                      rintro e1 w5 ⟨rfl, e9⟩
                      cases e9
                      go_wp2_with fail
                      refine (D1.out _).mono ?_
                      rintro e1 w5 ⟨rfl, e9⟩
                      cases e9
                      go_wp2_with fail
                      go_ret
                      exact ⟨rfl, S1.out.bel⟩
                    · have HL := Lib.hid (HX.out rfl)
                      go_wp2_with fail
                      refine (D0.out _).mono ?_
                      rintro e1 w5 ⟨rfl, e9⟩
                      cases e9
                      go_wp2_with fail
                      refine (D1.out _).mono ?_
                      rintro e1 w5 ⟨rfl, e9⟩
                      cases e9
                      go_wp2_with fail
                      go_roundw
                      case rel => exact ⟨k + 1, by omega, by go_num, HL, S1⟩
                      case measure => simp [intOf]; omega
              · obtain rfl : k = q.on := by omega
                have HO := Lib.hid (show portsB q = true from all_good n2 HL.out)
                clear HL hl hk R2 h2 n2
                obtain ⟨v, dv⟩ : ∃ z, objB q = z := ⟨_, rfl⟩
                have C := Lib.hid (objectsr_any q wr (ok.below Sr.out.bel (Nat.le_refl _)) v (Lib.hid dv))
                cases v
                · obtain rfl : r = 24 := HR.out.symm.trans (part_24 HS.out HP.out HO.out dv)
                  clear dv
                  go_wp2_with fail
                  refine C.out.mono ?_
                  rintro e1 w5 ⟨rfl, k5⟩
                  have Sr := qs_next Sr k5
                  clear k5 bc
                  go_wp2_with fail
                  go_ret
                  exact ⟨rfl, Sr.out.bel⟩
                · have HB := Lib.hid dv
                  clear dv
                  go_wp2_with fail
                  refine C.out.mono ?_
                  rintro e1 w5 ⟨rfl, k5⟩
                  have Sr := qs_next Sr k5
                  clear k5 bc C
                  have bc := Sr.out.box.cell
                  have h9 := ok.act.out.1
                  obtain ⟨r4, e4⟩ : ∃ z, inB q.cap 1 1000000000 = z := ⟨_, rfl⟩
                  obtain ⟨r5, e5⟩ : ∃ z, inB q.bud 0 1125899906842624 = z := ⟨_, rfl⟩
                  obtain ⟨r6, e6⟩ : ∃ z, inB q.lad 0 4 = z := ⟨_, rfl⟩
                  have C4 := Lib.hid (fun w => outr_any q.cap 1 1000000000 r4 w (Lib.hid e4))
                  have C5 := Lib.hid (fun w => outr_any q.bud 0 1125899906842624 r5 w (Lib.hid e5))
                  have C6 := Lib.hid (fun w => outr_any q.lad 0 4 r6 w (Lib.hid e6))
                  have HF := fun (h : lastB q = false) => (HR.out.symm.trans (part_20 HS.out HP.out HO.out HB.out h) : r = 20)
                  have HG := fun (h : lastB q = true) => (HR.out.symm.trans (part_0 HS.out HP.out HO.out HB.out h) : r = 0)
                  unfold lastB at HF HG
                  rw [e4, e5, e6] at HF HG
                  have HF := Lib.hid HF
                  have HG := Lib.hid HG
                  clear e4 e5 e6
                  cases r4
                  · obtain rfl := HF.out (by simp)
                    go_wp2_with fail
                    refine (C4.out _).mono ?_
                    rintro e1 w5 ⟨rfl, e9⟩
                    cases e9
                    go_wp2_with fail
                    go_ret
                    exact ⟨rfl, Sr.out.bel⟩
                  · cases r5
                    · obtain rfl := HF.out (by simp)
                      go_wp2_with fail
                      refine (C4.out _).mono ?_
                      rintro e1 w5 ⟨rfl, e9⟩
                      cases e9
                      go_wp2_with fail
                      refine (C5.out _).mono ?_
                      rintro e1 w5 ⟨rfl, e9⟩
                      cases e9
                      go_wp2_with fail
                      go_ret
                      exact ⟨rfl, Sr.out.bel⟩
                    · cases r6
                      · obtain rfl := HF.out (by simp)
                        go_wp2_with fail
                        refine (C4.out _).mono ?_
                        rintro e1 w5 ⟨rfl, e9⟩
                        cases e9
                        go_wp2_with fail
                        refine (C5.out _).mono ?_
                        rintro e1 w5 ⟨rfl, e9⟩
                        cases e9
                        go_wp2_with fail
                        refine (C6.out _).mono ?_
                        rintro e1 w5 ⟨rfl, e9⟩
                        cases e9
                        go_wp2_with fail
                        go_ret
                        exact ⟨rfl, Sr.out.bel⟩
                      · by_cases h5 : q.cn = 5
                        · have h5' : ((q.cn : Int) != 5) = false := by rw [bne_eq_false_iff_eq]; omega
                          have H5 := Lib.hid h5
                          have R3 := ri1 ok.act
                          have h6 : 5 ≤ q.cn := by omega
                          clear h5
                          go_wp2_with fail
                          refine (C4.out _).mono ?_
                          rintro e1 w5 ⟨rfl, e9⟩
                          cases e9
                          go_wp2_with fail
                          refine (C5.out _).mono ?_
                          rintro e1 w5 ⟨rfl, e9⟩
                          cases e9
                          go_wp2_with fail
                          refine (C6.out _).mono ?_
                          rintro e1 w5 ⟨rfl, e9⟩
                          cases e9
                          go_wp2_with fail
                          go_loopw [10] (fun i wr => ∃ k : Nat, k ≤ 5 ∧ i = .int .i64 k ∧ Hid (∀ j, j < k → actB (q.cf j) = true) ∧ Hid (Qs w wr q)) (fun i _ => 5 - (intOf i).toNat)
                          case atStart => exact ⟨0, Nat.zero_le _, rfl, Lib.hid (fun j hj => by omega), Sr⟩
                          case round =>
                            clear bc Sr
                            obtain ⟨k, hk, rfl, HL, Sr⟩ := hrel
                            have bc := Sr.out.box.cell
                            by_cases hl : k < 5
                            · obtain ⟨b, off, ea, hbl, c0⟩ := R3.out k (by omega)
                              replace c0 := keep Sr.out.bel c0 hbl
                              rw [ea] at bc
                              clear ea
                              have hk5 : k < q.cn := by omega
                              have HX := Lib.hid (fun (h : actB (q.cf k) = true) => show ∀ j, j < k + 1 → actB (q.cf j) = true from fun j hj => if e : j = k then by rw [e]; exact h else HL.out j (by omega))
                              have HF2 := Lib.hid (fun (h : actB (q.cf k) = false) => HF.out (by rw [show actsB q = false from all_bad (P := fun k => actB (q.cf k)) hk5 h, Bool.and_false]))
                              obtain ⟨u0, d0⟩ : ∃ z, actB (q.cf k) = z := ⟨_, rfl⟩
                              have D0 := Lib.hid (fun w => outr_any (q.cf k) 0 4 u0 w (Lib.hid d0))
                              rw [d0] at HX HF2
                              clear d0
                              generalize q.cf k = x0 at *
                              cases u0
                              · obtain rfl := HF2.out rfl
                                go_wp2_with fail
                                refine (D0.out _).mono ?_
                                rintro e1 w5 ⟨rfl, e9⟩
                                cases e9
                                go_wp2_with fail
                                go_ret
                                exact ⟨rfl, Sr.out.bel⟩
                              · have HL := Lib.hid (HX.out rfl)
                                have S1 := Sr
                                go_wp2_with fail
                                refine (D0.out _).mono ?_
                                rintro e1 w5 ⟨rfl, e9⟩
                                cases e9
                                go_wp2_with fail
                                go_roundw
                                case rel => exact ⟨k + 1, by omega, by go_num, HL, S1⟩
                                case measure => simp [intOf]; omega
                            · obtain rfl : k = 5 := by omega
                              obtain rfl := HG.out (by rw [show actsB q = true from all_good (by have := H5.out; omega) (fun j hj => HL.out j (by have := H5.out; omega)), decide_eq_true H5.out]; rfl)
                              go_wp2_with fail
                              go_ret
                              exact ⟨rfl, Sr.out.bel⟩
                        · obtain rfl := HF.out (by rw [decide_eq_false h5]; simp)
                          have h5' : ((q.cn : Int) != 5) = true := by rw [bne_iff_ne]; omega
                          clear h5
                          go_wp2_with fail
                          refine (C4.out _).mono ?_
                          rintro e1 w5 ⟨rfl, e9⟩
                          cases e9
                          go_wp2_with fail
                          refine (C5.out _).mono ?_
                          rintro e1 w5 ⟨rfl, e9⟩
                          cases e9
                          go_wp2_with fail
                          refine (C6.out _).mono ?_
                          rintro e1 w5 ⟨rfl, e9⟩
                          cases e9
                          go_wp2_with fail
                          go_ret
                          exact ⟨rfl, Sr.out.bel⟩
end Go.Proofs.YtlafeijkpnpdeaaGreat.Vps

/- Package valid: Shed. -/
namespace Go.Proofs.YtlafeijkpnpdeaaGreat.Vsh
open Go.RowKit Base Kit Conf Conf2 PowA PowB Vfa Vfb Val Vld Vpa Vpr Vps
set_option linter.unusedVariables false
set_option linter.unusedSimpArgs false

def shP (d u : Nat → Int) (k : Nat) : Bool := inB (d k) 0 1000000 && inB (u k) (d k + 1) 1000000 && (decide (k = 0) || (decide (d k < d (k - 1)) && decide (u k < u (k - 1))))
def ShedR (d u : Nat → Int) (dn un : Nat) : Int × Int := if dn ≠ un ∨ 4 < dn then (28, 0) else if fb (shP d u) dn < dn then (28, fb (shP d u) dn) else (0, 0)
structure Ss (w0 w : World) (A : Array Value) : Prop where
  bel : Below w0.heap.size w0 w
  box : Box w w0.heap.size A 31
theorem ss_next {w0 w w1 : World} {A : Array Value} (h : Hid (Ss w0 w A)) (k : Below w.heap.size w w1) : Hid (Ss w0 w1 A) := Lib.hid ⟨below_next h.out.bel k, h.out.box.next k⟩
theorem ss_in (w : World) (A : Array Value) : Hid (Ss w (w.alloc (.cells A 31)) A) := Lib.hid ⟨(Below.refl _ _).alloc (Nat.le_refl _) _, Box.new _ _ _⟩
set_option maxRecDepth 100000 in
set_option maxHeartbeats 4000000 in
theorem Shed_any (da ua : Option Addr) (dn dc un uc : Nat) (d u : Nat → Int) (er k0 : Int) (w : World) (hd : Hid (Open.RowsIn w da dn 1 (fun i _ => d i))) (hu : Hid (Open.RowsIn w ua un 1 (fun i _ => u i))) (hr : Hid (ShedR d u dn un = (er, k0))) :
    Calls Tryz.prog 53 #[.agg #[.slice da dn dc, .slice ua un uc]] w fun e w' => e = .returned (.tuple #[.int .i64 er, .int .i64 k0]) ∧ Below w.heap.size w w' := by
  have h1 := hd.out.1
  have h2 := hu.out.1
  have R1 := ri1 hd
  have R2 := ri1 hu
  have I1 := Lib.hid (fun k (h : k < dn) => hd.out.2.2 k h 0 (by omega))
  have I2 := Lib.hid (fun k (h : k < un) => hu.out.2.2 k h 0 (by omega))
  have hr := hr.out
  have S := ss_in w #[.slice da dn dc, .slice ua un uc]
  have bc := S.out.box.cell
  unfold ShedR at hr
  by_cases hne : dn = un
  rotate_left
  · rw [if_pos (.inl hne)] at hr
    simp only [Prod.mk.injEq] at hr
    obtain ⟨rfl, rfl⟩ := hr
    have hne : ((dn : Int) != (un : Int)) = true := by rw [bne_iff_ne]; omega
    go_enter Tryz.func53, Tryz.ntmps53
    go_wp2_with fail
    go_ret2
    exact ⟨rfl, S.out.bel⟩
  subst hne
  by_cases h4 : 4 < dn
  · rw [if_pos (.inr h4)] at hr
    simp only [Prod.mk.injEq] at hr
    obtain ⟨rfl, rfl⟩ := hr
    go_enter Tryz.func53, Tryz.ntmps53
    go_wp2_with fail
    go_ret2
    exact ⟨rfl, S.out.bel⟩
  rw [if_neg (by omega)] at hr
  have HR := Lib.hid hr
  have h4 : dn ≤ 4 := by omega
  clear hr
  go_enter Tryz.func53, Tryz.ntmps53
  go_wp2_with fail
  generalize w.alloc (.cells #[.slice da dn dc, .slice ua dn uc] 31) = W at S bc ⊢
  go_loopw [24] (fun i wr => ∃ k : Nat, k ≤ dn ∧ i = .int .i64 k ∧ Hid (∀ j, j < k → shP d u j = true) ∧ Hid (Ss w wr #[.slice da dn dc, .slice ua dn uc])) (fun i _ => dn - (intOf i).toNat)
  case atStart => exact ⟨0, Nat.zero_le _, rfl, Lib.hid (fun j hj => by omega), S⟩
  case round =>
    clear S bc
    obtain ⟨k, hk, rfl, HL, S⟩ := hrel
    have bc := S.out.box.cell
    by_cases hl : k < dn
    · obtain ⟨b1, o1, rfl, hb1, c1⟩ := R1.out k hl
      obtain ⟨b2, o2, rfl, hb2, c2⟩ := R2.out k hl
      replace c1 := keep S.out.bel c1 hb1
      replace c2 := keep S.out.bel c2 hb2
      have i1 := I1.out k hl
      have i2 := I2.out k hl
      have HX := Lib.hid (fun (h : shP d u k = true) => show ∀ j, j < k + 1 → shP d u j = true from fun j hj => if e : j = k then by rw [e]; exact h else HL.out j (by omega))
      obtain ⟨v, hv⟩ : ∃ v, shP d u k = v := ⟨_, rfl⟩
      have HV := Lib.hid hv
      unfold shP at hv
      obtain ⟨r0, d0⟩ : ∃ z, inB (d k) 0 1000000 = z := ⟨_, rfl⟩
      obtain ⟨r1, d1⟩ : ∃ z, inB (u k) (d k + 1) 1000000 = z := ⟨_, rfl⟩
      have C0 := Lib.hid (fun w => in_any (d k) 0 1000000 r0 w (Lib.hid d0))
      have C1 := Lib.hid (fun w => in_any (u k) (d k + 1) 1000000 r1 w (Lib.hid d1))
      rw [d0, d1] at hv
      obtain ⟨i10, i11⟩ := i1
      obtain ⟨i20, i21⟩ := i2
      cases r0
      · rw [Bool.false_and, Bool.false_and] at hv
        subst hv
        clear d0 d1
        generalize d k = x at *
        generalize u k = y at *
        go_wp2_with fail
        refine (C0.out _).mono ?_
        rintro e1 w5 ⟨rfl, e9⟩
        cases e9
        go_wp2_with fail
        go_ret2
        refine ⟨Kit.ret_pair ?_, S.out.bel⟩
        rw [← HR.out, fb_hit HL.out HV.out dn hl, if_pos hl]
        all_goals first | rfl | (simp; done)
      · obtain ⟨q0, q1⟩ := inB_iff.1 d0
        cases r1
        · rw [Bool.true_and, Bool.false_and] at hv
          subst hv
          clear d0 d1
          generalize d k = x at *
          generalize u k = y at *
          go_wp2_with fail
          refine (C0.out _).mono ?_
          rintro e1 w5 ⟨rfl, e9⟩
          cases e9
          go_wp2_with fail
          refine (C1.out _).mono ?_
          rintro e1 w5 ⟨rfl, e9⟩
          cases e9
          go_wp2_with fail
          go_ret2
          refine ⟨Kit.ret_pair ?_, S.out.bel⟩
          rw [← HR.out, fb_hit HL.out HV.out dn hl, if_pos hl]
          all_goals first | rfl | (simp; done)
        · rw [Bool.true_and, Bool.true_and] at hv
          clear d0 d1
          cases k with
          | zero =>
            have hv2 : v = true := by rw [← hv]; simp
            subst hv2
            have HL := Lib.hid (HX.out HV.out)
            clear hv
            generalize d 0 = x at *
            generalize u 0 = y at *
            rw [Nat.add_zero] at c1 c2
            rw [show ((0 : Nat) : Int) = 0 from rfl]
            go_wp2_with fail
            refine (C0.out _).mono ?_
            rintro e1 w5 ⟨rfl, e9⟩
            cases e9
            go_wp2_with fail
            refine (C1.out _).mono ?_
            rintro e1 w5 ⟨rfl, e9⟩
            cases e9
            go_wp2_with fail
            go_roundw
            case rel => exact ⟨0 + 1, by omega, by go_num, HL, S⟩
            case measure => simp [intOf]; omega
          | succ m =>
            obtain ⟨b3, o3, e3, hb3, c3⟩ := R1.out m (by omega)
            obtain ⟨b4, o4, e4, hb4, c4⟩ := R2.out m (by omega)
            replace c3 := keep S.out.bel c3 hb3
            replace c4 := keep S.out.bel c4 hb4
            simp only [Option.some.injEq, Addr.mk.injEq, and_true] at e3 e4
            obtain ⟨rfl, rfl⟩ := e3
            obtain ⟨rfl, rfl⟩ := e4
            clear hb3 hb4
            rw [show decide (m + 1 = 0) = false from by simp, Bool.false_or, Nat.add_sub_cancel] at hv
            have HXV := Lib.hid (fun (h : v = true) => HX.out (HV.out.trans h))
            generalize d (m + 1) = x at *
            generalize u (m + 1) = y at *
            generalize d m = x' at *
            generalize u m = y' at *
            rw [show ((m + 1 : Nat) : Int) = (m : Int) + 1 from by omega]
            have hm0 : (0 : Int) ≤ (m : Int) := by omega
            by_cases hA : x < x'
            · by_cases hB : y < y'
              · have hv2 : v = true := by rw [← hv]; simp [hA, hB]
                clear hv
                subst hv2
                have HL := Lib.hid (HXV.out rfl)
                go_wp2_with fail
                refine (C0.out _).mono ?_
                rintro e1 w5 ⟨rfl, e9⟩
                cases e9
                go_wp2_with fail
                refine (C1.out _).mono ?_
                rintro e1 w5 ⟨rfl, e9⟩
                cases e9
                go_wp2_with fail
                go_roundw
                case rel => exact ⟨m + 1 + 1, by omega, by go_num, HL, S⟩
                case measure => simp [intOf]; omega
              · have hv2 : v = false := by rw [← hv]; simp [hB]
                clear hv
                subst hv2
                have hB : y' ≤ y := by omega
                go_wp2_with fail
                refine (C0.out _).mono ?_
                rintro e1 w5 ⟨rfl, e9⟩
                cases e9
                go_wp2_with fail
                refine (C1.out _).mono ?_
                rintro e1 w5 ⟨rfl, e9⟩
                cases e9
                go_wp2_with fail
                go_ret2
                refine ⟨Kit.ret_pair ?_, S.out.bel⟩
                rw [← HR.out, fb_hit HL.out HV.out dn hl, if_pos hl]
                all_goals first | rfl | (simp; done)
            · have hv2 : v = false := by rw [← hv]; simp [hA]
              clear hv
              subst hv2
              have hA : x' ≤ x := by omega
              go_wp2_with fail
              refine (C0.out _).mono ?_
              rintro e1 w5 ⟨rfl, e9⟩
              cases e9
              go_wp2_with fail
              refine (C1.out _).mono ?_
              rintro e1 w5 ⟨rfl, e9⟩
              cases e9
              go_wp2_with fail
              go_ret2
              refine ⟨Kit.ret_pair ?_, S.out.bel⟩
              rw [← HR.out, fb_hit HL.out HV.out dn hl, if_pos hl]
              all_goals first | rfl | (simp; done)
    · obtain rfl : k = dn := by omega
      have e := HR.out
      rw [fb_all k HL.out, if_neg (by omega)] at e
      simp only [Prod.mk.injEq] at e
      obtain ⟨rfl, rfl⟩ := e
      go_wp2_with fail
      go_ret2
      exact ⟨rfl, S.out.bel⟩
end Go.Proofs.YtlafeijkpnpdeaaGreat.Vsh

/- The reference of valid: Shed. -/
namespace Go.Proofs.YtlafeijkpnpdeaaGreat.Vsr
open Go.RowKit Base Kit Conf Conf2 PowA PowB Vfa Vfb Val Vld Vpa Vpr Vps Vsh
set_option linter.unusedVariables false
set_option linter.unusedSimpArgs false

set_option maxRecDepth 100000 in
set_option maxHeartbeats 4000000 in
theorem Shedr_any (da ua : Option Addr) (dn dc un uc : Nat) (d u : Nat → Int) (er k0 : Int) (w : World) (hd : Hid (Open.RowsIn w da dn 1 (fun i _ => d i))) (hu : Hid (Open.RowsIn w ua un 1 (fun i _ => u i))) (hr : Hid (ShedR d u dn un = (er, k0))) :
    Calls Tryz.prog 44 #[.agg #[.slice da dn dc, .slice ua un uc]] w fun e w' => e = .returned (.tuple #[.int .i64 er, .int .i64 k0]) ∧ Below w.heap.size w w' := by
  have h1 := hd.out.1
  have h2 := hu.out.1
  have R1 := ri1 hd
  have R2 := ri1 hu
  have I1 := Lib.hid (fun k (h : k < dn) => hd.out.2.2 k h 0 (by omega))
  have I2 := Lib.hid (fun k (h : k < un) => hu.out.2.2 k h 0 (by omega))
  have hr := hr.out
  have S := ss_in w #[.slice da dn dc, .slice ua un uc]
  have bc := S.out.box.cell
  unfold ShedR at hr
  by_cases hne : dn = un
  rotate_left
  · rw [if_pos (.inl hne)] at hr
    simp only [Prod.mk.injEq] at hr
    obtain ⟨rfl, rfl⟩ := hr
    have hne : ((dn : Int) != (un : Int)) = true := by rw [bne_iff_ne]; omega
    go_enter Tryz.func44, Tryz.ntmps44
    go_wp2_with fail
    go_ret2
    exact ⟨rfl, S.out.bel⟩
  subst hne
  by_cases h4 : 4 < dn
  · rw [if_pos (.inr h4)] at hr
    simp only [Prod.mk.injEq] at hr
    obtain ⟨rfl, rfl⟩ := hr
    go_enter Tryz.func44, Tryz.ntmps44
    go_wp2_with fail
    go_ret2
    exact ⟨rfl, S.out.bel⟩
  rw [if_neg (by omega)] at hr
  have HR := Lib.hid hr
  have h4 : dn ≤ 4 := by omega
  clear hr
  go_enter Tryz.func44, Tryz.ntmps44
  go_wp2_with fail
  generalize w.alloc (.cells #[.slice da dn dc, .slice ua dn uc] 31) = W at S bc ⊢
  go_loopw [4] (fun i wr => ∃ k : Nat, k ≤ dn ∧ i = .int .i64 k ∧ Hid (∀ j, j < k → shP d u j = true) ∧ Hid (Ss w wr #[.slice da dn dc, .slice ua dn uc])) (fun i _ => dn - (intOf i).toNat)
  case atStart => exact ⟨0, Nat.zero_le _, rfl, Lib.hid (fun j hj => by omega), S⟩
  case round =>
    clear S bc
    obtain ⟨k, hk, rfl, HL, S⟩ := hrel
    have bc := S.out.box.cell
    by_cases hl : k < dn
    · obtain ⟨b1, o1, rfl, hb1, c1⟩ := R1.out k hl
      obtain ⟨b2, o2, rfl, hb2, c2⟩ := R2.out k hl
      replace c1 := keep S.out.bel c1 hb1
      replace c2 := keep S.out.bel c2 hb2
      have i1 := I1.out k hl
      have i2 := I2.out k hl
      have HX := Lib.hid (fun (h : shP d u k = true) => show ∀ j, j < k + 1 → shP d u j = true from fun j hj => if e : j = k then by rw [e]; exact h else HL.out j (by omega))
      obtain ⟨v, hv⟩ : ∃ v, shP d u k = v := ⟨_, rfl⟩
      have HV := Lib.hid hv
      unfold shP at hv
      obtain ⟨r0, d0⟩ : ∃ z, inB (d k) 0 1000000 = z := ⟨_, rfl⟩
      obtain ⟨r1, d1⟩ : ∃ z, inB (u k) 0 1000000 = z := ⟨_, rfl⟩
      have C0 := fun w => outr_any (d k) 0 1000000 r0 w (Lib.hid d0)
      have C1 := fun w => outr_any (u k) 0 1000000 r1 w (Lib.hid d1)
      have hu1 : inB (d k) 0 1000000 = true → inB (u k) (d k + 1) 1000000 = (inB (u k) 0 1000000 && decide (d k < u k)) := fun h => by
        have := inB_iff.1 h
        rw [Bool.eq_iff_iff]
        simp only [Bool.and_eq_true, inB_iff, decide_eq_true_eq]
        omega
      obtain ⟨i10, i11⟩ := i1
      obtain ⟨i20, i21⟩ := i2
      cases r0
      · rw [d0, Bool.false_and, Bool.false_and] at hv
        subst hv
        clear d0 d1 hu1
        generalize d k = x at *
        generalize u k = y at *
        simp only [Bool.not_true, Bool.not_false] at C0 C1
        have C0 := Lib.hid C0
        have C1 := Lib.hid C1
        go_wp2_with fail
        go_quiet (first
          | (go_at_call_of 39 (Value.int IntKind.i64 x); exact Calls.quiet_of_same ((C0.out _).mono (fun e w' h => ⟨h.1, h.2.symm⟩)))
          | (go_at_call_of 39 (Value.int IntKind.i64 y); exact Calls.quiet_of_same ((C1.out _).mono (fun e w' h => ⟨h.1, h.2.symm⟩))))
        go_wp2_with fail
        go_ret2
        refine ⟨Kit.ret_pair ?_, below_next S.out.bel ⟨rfl, rfl, rfl, Nat.le_refl _, fun _ _ => rfl⟩⟩
        rw [← HR.out, fb_hit HL.out HV.out dn hl, if_pos hl]
        all_goals first | rfl | (simp; done)
      · rw [hu1 d0, d0, d1] at hv
        clear hu1 d0 d1
        cases r1
        · rw [Bool.true_and, Bool.false_and, Bool.false_and] at hv
          subst hv
          generalize d k = x at *
          generalize u k = y at *
          simp only [Bool.not_true, Bool.not_false] at C0 C1
          have C0 := Lib.hid C0
          have C1 := Lib.hid C1
          go_wp2_with fail
          go_quiet (first
            | (go_at_call_of 39 (Value.int IntKind.i64 x); exact Calls.quiet_of_same ((C0.out _).mono (fun e w' h => ⟨h.1, h.2.symm⟩)))
            | (go_at_call_of 39 (Value.int IntKind.i64 y); exact Calls.quiet_of_same ((C1.out _).mono (fun e w' h => ⟨h.1, h.2.symm⟩))))
          go_wp2_with fail
          go_ret2
          refine ⟨Kit.ret_pair ?_, below_next S.out.bel ⟨rfl, rfl, rfl, Nat.le_refl _, fun _ _ => rfl⟩⟩
          rw [← HR.out, fb_hit HL.out HV.out dn hl, if_pos hl]
          all_goals first | rfl | (simp; done)
        · rw [Bool.true_and, Bool.true_and] at hv
          by_cases hC : d k < u k
          rotate_left
          · rw [show decide (d k < u k) = false from decide_eq_false hC, Bool.false_and] at hv
            subst hv
            have hC : u k ≤ d k := by omega
            generalize d k = x at *
            generalize u k = y at *
            simp only [Bool.not_true, Bool.not_false] at C0 C1
            have C0 := Lib.hid C0
            have C1 := Lib.hid C1
            go_wp2_with fail
            go_quiet (first
              | (go_at_call_of 39 (Value.int IntKind.i64 x); exact Calls.quiet_of_same ((C0.out _).mono (fun e w' h => ⟨h.1, h.2.symm⟩)))
              | (go_at_call_of 39 (Value.int IntKind.i64 y); exact Calls.quiet_of_same ((C1.out _).mono (fun e w' h => ⟨h.1, h.2.symm⟩))))
            go_wp2_with fail
            go_ret2
            refine ⟨Kit.ret_pair ?_, below_next S.out.bel ⟨rfl, rfl, rfl, Nat.le_refl _, fun _ _ => rfl⟩⟩
            rw [← HR.out, fb_hit HL.out HV.out dn hl, if_pos hl]
            all_goals first | rfl | (simp; done)
          rw [show decide (d k < u k) = true from decide_eq_true hC, Bool.true_and] at hv
          cases k with
          | zero =>
            have hv2 : v = true := by rw [← hv]; simp
            subst hv2
            have HL := Lib.hid (HX.out HV.out)
            clear hv
            generalize d 0 = x at *
            generalize u 0 = y at *
            rw [Nat.add_zero] at c1 c2
            rw [show ((0 : Nat) : Int) = 0 from rfl]
            simp only [Bool.not_true, Bool.not_false] at C0 C1
            have C0 := Lib.hid C0
            have C1 := Lib.hid C1
            go_wp2_with fail
            go_quiet (first
              | (go_at_call_of 39 (Value.int IntKind.i64 x); exact Calls.quiet_of_same ((C0.out _).mono (fun e w' h => ⟨h.1, h.2.symm⟩)))
              | (go_at_call_of 39 (Value.int IntKind.i64 y); exact Calls.quiet_of_same ((C1.out _).mono (fun e w' h => ⟨h.1, h.2.symm⟩))))
            go_wp2_with fail
            go_quiet (fail)
            go_wp2_with fail
            go_roundw
            case rel => exact ⟨0 + 1, by omega, by go_num, HL, ss_next S ⟨rfl, rfl, rfl, Nat.le_refl _, fun _ _ => rfl⟩⟩
            case measure => simp [intOf]; omega
          | succ m =>
            obtain ⟨b3, o3, e3, hb3, c3⟩ := R1.out m (by omega)
            obtain ⟨b4, o4, e4, hb4, c4⟩ := R2.out m (by omega)
            replace c3 := keep S.out.bel c3 hb3
            replace c4 := keep S.out.bel c4 hb4
            simp only [Option.some.injEq, Addr.mk.injEq, and_true] at e3 e4
            obtain ⟨rfl, rfl⟩ := e3
            obtain ⟨rfl, rfl⟩ := e4
            clear hb3 hb4
            rw [show decide (m + 1 = 0) = false from by simp, Bool.false_or, Nat.add_sub_cancel] at hv
            have HXV := Lib.hid (fun (h : v = true) => HX.out (HV.out.trans h))
            generalize d (m + 1) = x at *
            generalize u (m + 1) = y at *
            generalize d m = x' at *
            generalize u m = y' at *
            rw [show ((m + 1 : Nat) : Int) = (m : Int) + 1 from by omega]
            have hm0 : (0 : Int) ≤ (m : Int) := by omega
            have hw2 : IntKind.i64.wrap (m : Int) = (m : Int) := IntWalk.i64_in _ (by omega)
            have hw1 : IntKind.i64.wrap ((m : Int) + 1 - 1) = (m : Int) := by rw [Int.add_sub_cancel]; exact hw2
            have ht1 : ((m : Int) + 1).toNat = m + 1 := by omega
            have hi1 : (0 : Int) ≤ (m : Int) + 1 := by omega
            have hi2 : (m : Int) + 1 < (dn : Int) := by omega
            have hi3 : (m : Int) < (dn : Int) := by omega
            have hi4 : (m : Int) + 1 ≤ (dn : Int) := by omega
            by_cases hA : x < x'
            · by_cases hB : y < y'
              · have hv2 : v = true := by rw [← hv]; simp [hA, hB]
                clear hv
                subst hv2
                have HL := Lib.hid (HXV.out rfl)
                simp only [Bool.not_true, Bool.not_false] at C0 C1
                have C0 := Lib.hid C0
                have C1 := Lib.hid C1
                go_wp2_with fail
                go_quiet (first
                  | (go_at_call_of 39 (Value.int IntKind.i64 x); exact Calls.quiet_of_same ((C0.out _).mono (fun e w' h => ⟨h.1, h.2.symm⟩)))
                  | (go_at_call_of 39 (Value.int IntKind.i64 y); exact Calls.quiet_of_same ((C1.out _).mono (fun e w' h => ⟨h.1, h.2.symm⟩))))
                go_wp2_with fail
                go_quiet (fail)
                go_wp2_with fail
                go_roundw
                case rel => exact ⟨m + 1 + 1, by omega, by go_num, HL, ss_next S ⟨rfl, rfl, rfl, Nat.le_refl _, fun _ _ => rfl⟩⟩
                case measure => simp [intOf]; omega
              · have hv2 : v = false := by rw [← hv]; simp [hB]
                clear hv
                subst hv2
                have hB : y' ≤ y := by omega
                simp only [Bool.not_true, Bool.not_false] at C0 C1
                have C0 := Lib.hid C0
                have C1 := Lib.hid C1
                go_wp2_with fail
                go_quiet (first
                  | (go_at_call_of 39 (Value.int IntKind.i64 x); exact Calls.quiet_of_same ((C0.out _).mono (fun e w' h => ⟨h.1, h.2.symm⟩)))
                  | (go_at_call_of 39 (Value.int IntKind.i64 y); exact Calls.quiet_of_same ((C1.out _).mono (fun e w' h => ⟨h.1, h.2.symm⟩))))
                go_wp2_with fail
                go_quiet (fail)
                go_wp2_with fail
                go_ret2
                refine ⟨Kit.ret_pair ?_, below_next S.out.bel ⟨rfl, rfl, rfl, Nat.le_refl _, fun _ _ => rfl⟩⟩
                rw [← HR.out, fb_hit HL.out HV.out dn hl, if_pos hl]
                all_goals first | rfl | (simp; done)
            · have hv2 : v = false := by rw [← hv]; simp [hA]
              clear hv
              subst hv2
              have hA : x' ≤ x := by omega
              simp only [Bool.not_true, Bool.not_false] at C0 C1
              have C0 := Lib.hid C0
              have C1 := Lib.hid C1
              go_wp2_with fail
              go_quiet (first
                | (go_at_call_of 39 (Value.int IntKind.i64 x); exact Calls.quiet_of_same ((C0.out _).mono (fun e w' h => ⟨h.1, h.2.symm⟩)))
                | (go_at_call_of 39 (Value.int IntKind.i64 y); exact Calls.quiet_of_same ((C1.out _).mono (fun e w' h => ⟨h.1, h.2.symm⟩))))
              go_wp2_with fail
              go_quiet (fail)
              go_wp2_with fail
              go_ret2
              refine ⟨Kit.ret_pair ?_, below_next S.out.bel ⟨rfl, rfl, rfl, Nat.le_refl _, fun _ _ => rfl⟩⟩
              rw [← HR.out, fb_hit HL.out HV.out dn hl, if_pos hl]
              all_goals first | rfl | (simp; done)
    · obtain rfl : k = dn := by omega
      have e := HR.out
      rw [fb_all k HL.out, if_neg (by omega)] at e
      simp only [Prod.mk.injEq] at e
      obtain ⟨rfl, rfl⟩ := e
      go_wp2_with fail
      go_ret2
      exact ⟨rfl, S.out.bel⟩
end Go.Proofs.YtlafeijkpnpdeaaGreat.Vsr

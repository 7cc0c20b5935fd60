/- The laws SlackWorst and SlackNone. -/
import Derived.Test.YtaoghiijgcdbgaaSlkF
namespace Go.Proofs.Ytaoghiijgcdbgaa.SlkG
open Go.RowKit Base Kit WideA Alt RefA SlkA SlkB SlkC SlkD SlkE SlkF Boo Conf Conf2
set_option linter.unusedVariables false
set_option linter.unusedSimpArgs false

theorem sumR_done {x : SS} : ∀ n, (∀ i, i < n → x.dn i = true) → sumR x n = 0
  | 0, _ => rfl
  | n + 1, h => by unfold sumR; rw [h n (by omega), if_pos rfl]; exact sumR_done n (fun i hi => h i (by omega))
/-- what lies in the box, and a slack -/
structure Sb (w0 w : World) (q : PartC) (s : Nat) (v : Value) (a : Nat → Nat) (x : SS) : Prop where
  sl : Hid (Sl w0 w s q.pn v a x)
  box : Box w w0.heap.size #[.slice q.ra q.rn q.rc, .slice q.pa q.pn q.pc, .slice q.oa q.on q.oc, .slice q.sa q.sn q.sc, .int .i64 q.fl, .slice q.qa q.qn q.qc, .slice q.ta q.tn q.tc, .int .i64 q.cap, .int .i64 q.bud, .int .i64 q.lad, .slice q.ca q.cn q.cc] 29
theorem sb_next {w0 w w1 : World} {q : PartC} {s : Nat} {v : Value} {a : Nat → Nat} {x : SS} (h : Hid (Sb w0 w q s v a x)) (k : Below w.heap.size w w1) : Hid (Sb w0 w1 q s v a x) := Lib.hid ⟨sl_next h.out.sl k, h.out.box.next k⟩
theorem sb_finish {w0 w : World} {q : PartC} {s : Nat} {v : Value} {a : Nat → Nat} {x : SS} (h : Hid (Sb w0 w q s v a x)) (p r : Int) (hr : Hid (leftS q.pn x - leftS q.pn (finS q.pn x p) = r)) :
    Calls Try.prog 14 #[.pointer (some ⟨s, 0, none⟩), .int .i64 p] w fun e w' => e = .returned (.int .i64 r) ∧ Hid (Sb w0 w' q s v a (finS q.pn x p)) :=
  (sl_finish h.out.sl p r hr).mono fun e w' ⟨h1, h2, h3⟩ => ⟨h1, Lib.hid ⟨h2, in_box h.out.sl h3 h.out.box (by decide) (by decide)⟩⟩
set_option maxRecDepth 100000 in
set_option maxHeartbeats 8000000 in
theorem worst_law (q : PartC) (w : World) (ok : q.Ok w) :
    Calls Try.prog 4 #[.agg #[.slice q.ra q.rn q.rc, .slice q.pa q.pn q.pc, .slice q.oa q.on q.oc, .slice q.sa q.sn q.sc, .int .i64 q.fl, .slice q.qa q.qn q.qc, .slice q.ta q.tn q.tc, .int .i64 q.cap, .int .i64 q.bud, .int .i64 q.lad, .slice q.ca q.cn q.cc]] w fun e w' => e = .returned (.bool true) ∧ Below w.heap.size w w' := by
  have B0 := Lib.hid (Box.new w #[.slice q.ra q.rn q.rc, .slice q.pa q.pn q.pc, .slice q.oa q.on q.oc, .slice q.sa q.sn q.sc, .int .i64 q.fl, .slice q.qa q.qn q.qc, .slice q.ta q.tn q.tc, .int .i64 q.cap, .int .i64 q.bud, .int .i64 q.lad, .slice q.ca q.cn q.cc] 29)
  have HB0 : Hid (Below w.heap.size w (w.alloc (.cells #[.slice q.ra q.rn q.rc, .slice q.pa q.pn q.pc, .slice q.oa q.on q.oc, .slice q.sa q.sn q.sc, .int .i64 q.fl, .slice q.qa q.qn q.qc, .slice q.ta q.tn q.tc, .int .i64 q.cap, .int .i64 q.bud, .int .i64 q.lad, .slice q.ca q.cn q.cc] 29))) := Lib.hid ((Below.refl w.heap.size w).alloc (Nat.le_refl _) _)
  have R := ok.proc
  have ic := ok.cap
  have hm := R.out.1
  clear ok
  by_cases hpn : q.pn ≤ 100
  · have hpn' : ((q.pn : Nat) : Int) ≤ 100 := by omega
    go_enter Try.func4, Try.ntmps4
    go_wp2_with fail
    generalize w.alloc (.cells #[.slice q.ra q.rn q.rc, .slice q.pa q.pn q.pc, .slice q.oa q.on q.oc, .slice q.sa q.sn q.sc, .int .i64 q.fl, .slice q.qa q.qn q.qc, .slice q.ta q.tn q.tc, .int .i64 q.cap, .int .i64 q.bud, .int .i64 q.lad, .slice q.ca q.cn q.cc] 29) = W at B0 HB0 ⊢
    refine (sl_new (w0 := w) _ _ _ _ _ _ q.pf _ _ _ _ _ _ _ _ _ _ HB0 (Lib.hid (rows_below R.out HB0.out (Nat.le_refl _))) hpn ic).mono ?_
    rintro e1 w2 ⟨s, v, a, rfl, S, hb2⟩
    have SB := Lib.hid (show Sb w w2 q s v a _ from ⟨S, B0.out.next hb2⟩)
    clear hb2 B0 S
    obtain ⟨n, hf⟩ : ∃ z, leftS q.pn (ini q.cap q.pf) = z := ⟨_, rfl⟩
    have HF := Lib.hid hf
    have OK := Lib.hid SB.out.sl.out.ok
    have fb := leftS_bd SB.out.sl.out.ok
    have fe := leftS_eq SB.out.sl.out.ok
    have sn := sumR_nonneg (ini q.cap q.pf) q.pn (fun i hi => (OK.out.h0 i hi).1)
    rw [hf] at fb fe
    obtain ⟨f0, f2, f1⟩ := fb
    have f3 : n ≤ sumR (ini q.cap q.pf) q.pn := by split at fe <;> omega
    have F3 := Lib.hid f3
    obtain ⟨rm, hrm⟩ : ∃ z, (ini q.cap q.pf).room = z := ⟨_, rfl⟩
    have HRM := Lib.hid hrm
    rw [hrm] at f2
    clear hf fe sn f3 hrm
    go_wp2_with fail
    refine (sl_left SB.out.sl n HF).mono ?_
    rintro e1 w3 ⟨rfl, hb3⟩
    have SB := sb_next SB hb3
    clear hb3
    go_wp2_with fail
    refine (sl_room SB.out.sl rm HRM).mono ?_
    rintro e1 w3 ⟨rfl, rfl⟩
    go_wp2_with fail
    have bc := SB.out.box.cell
    go_loop [5, 6] (fun su i => ∃ (k : Nat) (m : Int), k ≤ q.pn ∧ i = .int .i64 k ∧ su = .int .i64 m ∧ 0 ≤ m ∧ m ≤ n ∧ Hid ((if n < sumR (ini q.cap q.pf) k then n else sumR (ini q.cap q.pf) k) = m)) (fun _ i => q.pn - (intOf i).toNat)
    case atStart => exact ⟨0, 0, by omega, rfl, rfl, by omega, by omega, Lib.hid (by simp [sumR]; omega)⟩
    case round =>
      obtain ⟨k, m, hk, rfl, rfl, m0, m1, HM⟩ := hrel
      by_cases hlt : k < q.pn
      · obtain ⟨hk', e⟩ : ∃ z, (ini q.cap q.pf).has k = z := ⟨_, rfl⟩
        have h0 := OK.out.h0 k hlt
        rw [e] at h0
        obtain ⟨h00, h01⟩ := h0
        have C1 := Lib.hid (sl_of SB.out.sl (k : Int) hk' (Lib.hid (by unfold ofP; rw [if_pos ⟨by omega, by omega⟩, Int.toNat_natCast]; exact e)))
        have nx : ∀ m', (if n - m < hk' then n else m + hk') = m' → (if n < sumR (ini q.cap q.pf) (k + 1) then n else sumR (ini q.cap q.pf) (k + 1)) = m' := fun m' hm' => by
          have e2 : sumR (ini q.cap q.pf) (k + 1) = sumR (ini q.cap q.pf) k + hk' := by rw [← e]; rfl
          have s0 := sumR_nonneg (ini q.cap q.pf) k (fun i hi => (OK.out.h0 i (by omega)).1)
          have e3 := HM.out
          rw [e2]
          split at hm' <;> split at e3 <;> split <;> omega
        have NX := Lib.hid nx
        clear e nx
        by_cases hc : n - m < hk'
        · go_wp2_with fail
          refine C1.out.mono ?_
          rintro e1 w5 ⟨rfl, rfl⟩
          go_wp2_with fail
          go_round
          case rel => exact ⟨k + 1, n, by omega, by go_num, rfl, by omega, by omega, Lib.hid (NX.out n (by rw [if_pos hc]))⟩
          case measure => simp [intOf]; omega
        · have hc : hk' ≤ n - m := by omega
          go_wp2_with fail
          refine C1.out.mono ?_
          rintro e1 w5 ⟨rfl, rfl⟩
          go_wp2_with fail
          refine C1.out.mono ?_
          rintro e1 w5 ⟨rfl, rfl⟩
          go_wp2_with fail
          go_round
          case rel => exact ⟨k + 1, m + hk', by omega, by go_num, rfl, by omega, by omega, Lib.hid (NX.out _ (by rw [if_neg (by omega)]))⟩
          case measure => simp [intOf]; omega
      · obtain rfl : k = q.pn := by omega
        obtain rfl : m = n := by
          have := HM.out
          have := F3.out
          split at * <;> omega
        clear HM hlt
        go_wp2_with fail
        clear bc
        go_loopw [7, 8] (fun ba i wr => ∃ (k : Nat) (x : SS) (b l : Int), k ≤ q.pn ∧ i = .int .i64 k ∧ ba = .int .i64 b ∧ b + l = m ∧ 0 ≤ b ∧ 0 ≤ l ∧ Hid (leftS q.pn x = l) ∧ Hid (∀ i, i < k → x.dn i = true) ∧ Hid (Sb w wr q s v a x)) (fun _ i _ => q.pn - (intOf i).toNat)
        case atStart => exact ⟨0, _, 0, m, by omega, rfl, rfl, by omega, by omega, by omega, HF, Lib.hid (fun i hi => by omega), SB⟩
        case round =>
          clear SB
          obtain ⟨k, x, b, l, hk, rfl, rfl, hbl, b0, l0, HL, HD, SB⟩ := hrel
          have bc := SB.out.box.cell
          by_cases hlt : k < q.pn
          · have fl := fin_left SB.out.sl.out.ok (k : Int)
            have fb := leftS_bd (fin_ok SB.out.sl.out.ok (k : Int))
            obtain ⟨l2, hl2⟩ : ∃ z, leftS q.pn (finS q.pn x (k : Int)) = z := ⟨_, rfl⟩
            rw [HL.out, hl2] at fl
            rw [hl2] at fb
            obtain ⟨g0, -, g1⟩ := fb
            have HL2 := Lib.hid hl2
            have C1 := Lib.hid (sb_finish SB (k : Int) (l - l2) (Lib.hid (by rw [HL.out, hl2])))
            have HD2 : Hid (∀ i, i < k + 1 → (finS q.pn x (k : Int)).dn i = true) := Lib.hid (fun i hi => by
              unfold finS; rw [if_pos ⟨by omega, by omega⟩, Int.toNat_natCast]
              show updB x.dn k true i = true
              unfold updB; split
              · rfl
              · exact HD.out i (by omega))
            clear hl2
            go_wp2_with fail
            refine C1.out.mono ?_
            rintro e1 w6 ⟨rfl, SB⟩
            clear bc C1
            go_wp2_with fail
            go_roundw
            case rel => exact ⟨k + 1, _, b + (l - l2), l2, by omega, by go_num, rfl, by omega, by omega, by omega, HL2, HD2, SB⟩
            case measure => simp [intOf]; omega
          · obtain rfl : k = q.pn := by omega
            have lz : l = 0 := by
              have e := HL.out
              rw [leftS_eq SB.out.sl.out.ok, sumR_done q.pn HD.out] at e
              have := SB.out.sl.out.ok.r0
              split at e <;> omega
            subst lz
            obtain rfl : b = m := by omega
            go_wp2_with fail
            refine (sl_left SB.out.sl 0 HL).mono ?_
            rintro e1 w6 ⟨rfl, hb6⟩
            have SB := sb_next SB hb6
            clear hb6 bc
            go_wp2_with fail
            refine (works_any _).mono ?_
            rintro e1 w7 ⟨rfl, hb7⟩
            have HB := Lib.hid (below_next SB.out.sl.out.bel hb7)
            clear hb7
            go_wp2_with fail
            go_ret
            exact ⟨rfl, HB.out⟩
  · have hpn' : 100 < ((q.pn : Nat) : Int) := by omega
    go_enter Try.func4, Try.ntmps4
    go_wp2_with fail
    refine (works_any _).mono ?_
    rintro e1 w2 ⟨rfl, hb2⟩
    have HB := Lib.hid (below_next HB0.out hb2)
    clear hb2
    go_wp2_with fail
    go_ret
    exact ⟨rfl, HB.out⟩
end Go.Proofs.Ytaoghiijgcdbgaa.SlkG

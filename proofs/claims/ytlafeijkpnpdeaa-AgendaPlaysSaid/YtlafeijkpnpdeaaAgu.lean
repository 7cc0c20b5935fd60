/- The reference of agenda: Add. -/
import Derived.Test.YtlafeijkpnpdeaaAgt
namespace Go.Proofs.Ytlafeijkpnpdeaa.Agu
open Go.RowKit Base Kit RefA Alt Held Agp Aga Agb Agc Agd Age Agf Agg Agh Agi Agj Agn Agt
set_option linter.unusedVariables false
set_option linter.unusedSimpArgs false
set_option maxRecDepth 100000 in
set_option maxHeartbeats 2000000 in
theorem RAdd_full (rb : Nat) (u : Value) (S : List E) (last most at1 what : Int) (w : World) (h : Hid (Rf w rb u S last most)) (hm : most ≤ (S.length : Int)) : Calls Try.prog 22 #[.pointer (some ⟨rb, 0, none⟩), .int .i64 at1, .int .i64 what] w fun e w' => e = .returned (.tuple #[.int .i64 0, .int .i64 5]) ∧ Below w.heap.size w w' := by
  have hl := h.out.len
  obtain ⟨a, cap, rfl⟩ := own_val h.out.own
  have bc := h.out.box.cell
  have hd2 : decide (most ≤ (S.length : Int)) = true := decide_eq_true hm
  generalize S.length = n at *
  clear h
  go_enter Try.func22, Try.ntmps22
  go_wp2_with fail
  go_quiet (fail)
  go_wp2_with fail
  go_ret2
  exact ⟨rfl, below_drewN' (Below.refl _ _) _⟩
set_option maxRecDepth 100000 in
set_option maxHeartbeats 4000000 in
theorem RAdd_any (rb : Nat) (u : Value) (S : List E) (last most at1 what : Int) (w : World) (h : Hid (Rf w rb u S last most)) (hm : (S.length : Int) < most) (hm2 : most ≤ 1000) (l0 : 0 ≤ last) (l1 : last ≤ 1000000) : Calls Try.prog 22 #[.pointer (some ⟨rb, 0, none⟩), .int .i64 at1, .int .i64 what] w fun e w' => e = .returned (.tuple #[.int .i64 (last + 1), .int .i64 0]) ∧ ∃ u', Hid (Rf w' rb u' (ins (at1, last + 1, what) S) (last + 1) most) ∧ Rov rb u' w w' := by
  have hl := h.out.len
  obtain ⟨a, cap, rfl⟩ := own_val h.out.own
  have hrb := h.out.box.lt
  have hgu := fun k (hk : (Value.slice a S.length cap).ownBlock = some k) => (own_lo h.out.own hk).2
  have bc := h.out.box.cell
  obtain ⟨n, hn⟩ : ∃ n, S.length = n := ⟨_, rfl⟩
  have HN := Lib.hid hn
  rw [hn] at hm hl bc
  have hd2 : decide (most ≤ (n : Int)) = false := decide_eq_false (by omega)
  go_enter Try.func22, Try.ntmps22
  go_wp2_with fail
  go_quiet (fail)
  have K := below_drewN' (Below.refl w.heap.size w) nq
  have h0 := rf_next h K
  clear bc h
  generalize w.drewN nq = W0 at *
  have A0 : Alt (fun k => k = rb) W0 (W0.setCell ⟨rb, 1, none⟩ (.int .i64 (last + 1))) := Alt.set _ _ _ rfl
  have R : Hid (Ra w (W0.setCell ⟨rb, 1, none⟩ (.int .i64 (last + 1))) rb (.slice a S.length cap) S (last + 1) most (.slice none 0 0) []) := Lib.hid ⟨(Alt.of_below K).trans A0, Lib.hid ⟨h0.out.box.set 1 _, own_altv h0.out.own A0 (fun g hg z => own_neR h0.out.own h0.out.box (by decide) (by rw [← z]; exact hg)), h0.out.len⟩, ⟨by simp [encE], .inl ⟨rfl, rfl⟩⟩, hrb, hgu⟩
  have bc := h0.out.box.cell
  have fz := h0.out.box.frozen
  rw [hn] at bc R
  clear hn hgu h0 A0 K
  go_wp2_with fail
  generalize W0.setCell ⟨rb, 1, none⟩ (.int .i64 (last + 1)) = W1 at *
  clear bc fz
  go_loopw [8, 9, 10] (fun o d i wr => ∃ (k : Nat) (v : Value) (M : List E) (dn : Bool), k ≤ n ∧ i = .int .i64 k ∧ o = v ∧ d = .bool dn ∧ Hid (Ai S (at1, last + 1, what) k dn M) ∧ Hid (Ra w wr rb (.slice a n cap) S (last + 1) most v M)) (fun _ _ i _ => n - (intOf i).toNat)
  case atStart => exact ⟨0, _, [], false, by omega, rfl, rfl, rfl, Lib.hid (.inl ⟨rfl, rfl, fun e he => by simp at he⟩), R⟩
  case round =>
    clear R
    obtain ⟨k, v, M, dn, hk, rfl, rfl, rfl, AI, R⟩ := hrel
    have bc := R.out.rf.out.box.cell
    have hml := ai_len AI.out (by rw [HN.out]; exact hk)
    by_cases hkn : k < n
    · obtain ⟨⟨x0, x1, x2⟩, hx⟩ : ∃ x, at_ S k = x := ⟨_, rfl⟩
      have hkl : k < S.length := by rw [HN.out]; exact hkn
      have HX := Lib.hid hx
      have go := ai_go AI.out hkl
      rw [hx] at go
      dsimp only at go
      obtain ⟨g, rfl, -, hlt, c0, c1, c2⟩ := rent R.out.rf k hkl HX
      clear hx AI
      rcases go with ⟨⟨rfl, hlt2⟩, AI⟩ | ⟨hno, AI⟩
      · replace AI := Lib.hid AI
        clear bc
        have bc := R.out.rf.out.box.cell
        go_wp2_with (at_builtin; go_loud (refine append3 wr rfl _ _ 37 rfl 45 (by kernel_rfl) infoEntR w.heap.size _ M rfl (by exact R.out.row) at1 (last + 1) what rfl (by omega) (by have := R.out.alt.size; exact this) ?_))
        intro v2 w7 ho1 hg hf
        have ho : w7.ownsRow w.heap.size 45 3 v2 (M ++ [(at1, (last + 1), what)]).length (encE (M ++ [(at1, (last + 1), what)])) := by simpa [List.append_assoc] using ho1
        replace R := ra_app (ra_next R ((Below.refl _ _).alloc (Nat.le_refl _) (.cells #[.int .i64 at1, .int .i64 (last + 1), .int .i64 what] 45))) rfl hg ho
        clear ho ho1 hg hf
        clear bc c0 c1 c2
        obtain ⟨g', e', -, hlt', c0, c1, c2⟩ := rent R.out.rf k hkl HX
        simp only [Option.some.injEq, Addr.mk.injEq, and_true, true_and] at e'
        subst e'
        have bc := R.out.rf.out.box.cell
        have hml2 : (M ++ [(at1, last + 1, what)]).length ≤ 1000 := by simp; omega
        go_wp2_with (at_builtin; go_loud (refine append3 w7 rfl _ _ 37 rfl 45 (by kernel_rfl) infoEntR w.heap.size _ (M ++ [(at1, last + 1, what)]) rfl (by exact R.out.row) x0 x1 x2 rfl (by omega) (by have := R.out.alt.size; exact this) ?_))
        intro v2 w7 ho1 hg hf
        have ho : w7.ownsRow w.heap.size 45 3 v2 ((M ++ [(at1, last + 1, what)]) ++ [(x0, x1, x2)]).length (encE ((M ++ [(at1, last + 1, what)]) ++ [(x0, x1, x2)])) := by simpa [List.append_assoc] using ho1
        replace R := ra_app (ra_next R ((Below.refl _ _).alloc (Nat.le_refl _) (.cells #[.int .i64 x0, .int .i64 x1, .int .i64 x2] 45))) rfl hg ho
        clear ho ho1 hg hf
        clear bc c0 c1 c2
        go_wp2_with fail
        go_roundw
        case rel => exact ⟨k + 1, _, _, true, by omega, by go_num, rfl, rfl, AI, R⟩
        case measure => simp [intOf]; omega
      · replace AI := Lib.hid AI
        have dd : (dn = true) ∨ (dn = false ∧ decide (at1 < x0) = false) := by
          cases dn
          · exact .inr ⟨rfl, decide_eq_false (fun z => hno ⟨rfl, z⟩)⟩
          · exact .inl rfl
        clear hno bc
        have bc := R.out.rf.out.box.cell
        rcases dd with rfl | ⟨rfl, dd⟩
        · skip
          go_wp2_with (at_builtin; go_loud (refine append3 wr rfl _ _ 37 rfl 45 (by kernel_rfl) infoEntR w.heap.size _ M rfl (by exact R.out.row) x0 x1 x2 rfl (by omega) (by have := R.out.alt.size; exact this) ?_))
          intro v2 w7 ho1 hg hf
          have ho : w7.ownsRow w.heap.size 45 3 v2 (M ++ [(x0, x1, x2)]).length (encE (M ++ [(x0, x1, x2)])) := by simpa [List.append_assoc] using ho1
          replace R := ra_app (ra_next R ((Below.refl _ _).alloc (Nat.le_refl _) (.cells #[.int .i64 x0, .int .i64 x1, .int .i64 x2] 45))) rfl hg ho
          clear ho ho1 hg hf
          clear bc c0 c1 c2
          go_wp2_with fail
          go_roundw
          case rel => exact ⟨k + 1, _, _, _, by omega, by go_num, rfl, rfl, AI, R⟩
          case measure => simp [intOf]; omega
        · skip
          go_wp2_with (at_builtin; go_loud (refine append3 wr rfl _ _ 37 rfl 45 (by kernel_rfl) infoEntR w.heap.size _ M rfl (by exact R.out.row) x0 x1 x2 rfl (by omega) (by have := R.out.alt.size; exact this) ?_))
          intro v2 w7 ho1 hg hf
          have ho : w7.ownsRow w.heap.size 45 3 v2 (M ++ [(x0, x1, x2)]).length (encE (M ++ [(x0, x1, x2)])) := by simpa [List.append_assoc] using ho1
          replace R := ra_app (ra_next R ((Below.refl _ _).alloc (Nat.le_refl _) (.cells #[.int .i64 x0, .int .i64 x1, .int .i64 x2] 45))) rfl hg ho
          clear ho ho1 hg hf
          clear bc c0 c1 c2
          go_wp2_with fail
          go_roundw
          case rel => exact ⟨k + 1, _, _, _, by omega, by go_num, rfl, rfl, AI, R⟩
          case measure => simp [intOf]; omega
    · obtain rfl : k = n := by omega
      have EE := AI.out
      rw [← HN.out] at EE
      have EE := Lib.hid (ai_end EE)
      clear AI hkn
      cases dn
      · have hml2 : M.length ≤ 1000 := by omega
        simp only [Bool.false_eq_true, if_false] at EE
        go_wp2_with (at_builtin; go_loud (refine append3 wr rfl _ _ 37 rfl 45 (by kernel_rfl) infoEntR w.heap.size _ M rfl (by exact R.out.row) at1 (last + 1) what rfl (by omega) (by have := R.out.alt.size; exact this) ?_))
        intro v2 w7 ho1 hg hf
        have ho : w7.ownsRow w.heap.size 45 3 v2 (M ++ [(at1, (last + 1), what)]).length (encE (M ++ [(at1, (last + 1), what)])) := by simpa [List.append_assoc] using ho1
        replace R := ra_app (ra_next R ((Below.refl _ _).alloc (Nat.le_refl _) (.cells #[.int .i64 at1, .int .i64 (last + 1), .int .i64 what] 45))) rfl hg ho
        clear ho ho1 hg hf
        clear bc
        obtain ⟨va, vc, rfl⟩ := own_val R.out.row
        obtain ⟨m9, hm9⟩ : ∃ m, (M ++ [(at1, last + 1, what)]).length = m := ⟨_, rfl⟩
        rw [hm9] at R ⊢
        have bc := R.out.rf.out.box.cell
        have fz := R.out.rf.out.box.frozen
        have hle := congrArg List.length EE.out
        rw [(ins_perm _ _).length_eq, List.length_append, HN.out, hm9] at hle
        obtain ⟨R2, M2⟩ := ra_end R (by rw [hm9]; simp at hle; omega)
        clear hle hm9
        rw [← EE.out] at R2
        go_wp2_with fail
        have bc2 := R2.out.box.cell
        go_wp2_with fail
        go_ret2
        exact ⟨rfl, _, R2, M2⟩
      · simp only [if_true] at EE
        obtain ⟨va, vc, rfl⟩ := own_val R.out.row
        obtain ⟨m9, hm9⟩ : ∃ m, M.length = m := ⟨_, rfl⟩
        rw [hm9] at R ⊢
        have hle := congrArg List.length EE.out
        rw [(ins_perm _ _).length_eq, List.length_append, HN.out, hm9] at hle
        have bc := R.out.rf.out.box.cell
        have fz := R.out.rf.out.box.frozen
        obtain ⟨R2, M2⟩ := ra_end R (by rw [hm9]; simp at hle; omega)
        clear hle hm9
        rw [← EE.out] at R2
        have bc2 := R2.out.box.cell
        go_wp2_with fail
        go_ret2
        exact ⟨rfl, _, R2, M2⟩
end Go.Proofs.Ytlafeijkpnpdeaa.Agu

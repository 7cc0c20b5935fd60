/- The reference of agenda: Drop. -/
import Derived.Test.YtlafeijkpnpdeaaAgt
namespace Go.Proofs.Ytlafeijkpnpdeaa.Agv
open Go.RowKit Base Kit RefA Alt Held Agp Aga Agb Agc Agd Age Agf Agg Agh Agi Agj Agn Agt
set_option linter.unusedVariables false
set_option linter.unusedSimpArgs false
theorem del_snoc (id : Int) (P : List E) (s : E) : del id (P ++ [s]) = if s.2.1 = id then del id P else del id P ++ [s] := by
  unfold del
  rw [List.filter_append]
  by_cases h : s.2.1 = id
  · rw [if_pos h, List.filter_cons_of_neg (by simpa using h)]; simp
  · rw [if_neg h, List.filter_cons_of_pos (by simpa using h)]; simp
theorem has_snoc (id : Int) (P : List E) (s : E) : has id (P ++ [s]) = (has id P || decide (s.2.1 = id)) := by simp [has]
theorem del_len (id : Int) (P : List E) : (del id P).length ≤ P.length := by unfold del; exact List.length_filter_le _ _
set_option maxRecDepth 100000 in
set_option maxHeartbeats 4000000 in
theorem RDrop_any (rb : Nat) (u : Value) (S : List E) (last most id : Int) (w : World) (h : Hid (Rf w rb u S last most)) : Calls Try.prog 23 #[.pointer (some ⟨rb, 0, none⟩), .int .i64 id] w fun e w' => e = .returned (.bool (has id S)) ∧ ∃ u', Hid (Rf w' rb u' (del id S) last most) ∧ Rov rb u' w w' := by
  have hl := h.out.len
  obtain ⟨a, cap, rfl⟩ := own_val h.out.own
  have hrb := h.out.box.lt
  have R : Hid (Ra w w rb (.slice a S.length cap) S last most (.slice none 0 0) []) := Lib.hid ⟨Alt.refl _ _, h, ⟨by simp [encE], .inl ⟨rfl, rfl⟩⟩, hrb, fun k (hk : (Value.slice a S.length cap).ownBlock = some k) => (own_lo h.out.own hk).2⟩
  obtain ⟨n, hn⟩ : ∃ n, S.length = n := ⟨_, rfl⟩
  have HN := Lib.hid hn
  rw [hn] at hl R
  clear hn h
  go_enter Try.func23, Try.ntmps23
  go_wp2_with fail
  go_loopw [5, 6, 7] (fun o d i wr => ∃ (k : Nat) (v : Value) (M : List E) (b : Bool), k ≤ n ∧ i = .int .i64 k ∧ o = v ∧ d = .bool b ∧ Hid (del id (S.take k) = M ∧ has id (S.take k) = b) ∧ Hid (Ra w wr rb (.slice a n cap) S last most v M)) (fun _ _ i _ => n - (intOf i).toNat)
  case atStart => exact ⟨0, _, [], false, by omega, rfl, rfl, rfl, Lib.hid ⟨rfl, rfl⟩, R⟩
  case round =>
    clear R
    obtain ⟨k, v, M, b, hk, rfl, rfl, rfl, DI, R⟩ := hrel
    have bc := R.out.rf.out.box.cell
    have hml : M.length ≤ k := by
      rw [← DI.out.1]
      have := del_len id (S.take k)
      simp at this; omega
    by_cases hkn : k < n
    · obtain ⟨⟨x0, x1, x2⟩, hx⟩ : ∃ x, at_ S k = x := ⟨_, rfl⟩
      have hkl : k < S.length := by rw [HN.out]; exact hkn
      have HX := Lib.hid hx
      have TS := take_snoc hkl
      rw [hx] at TS
      have D2 := del_snoc id (S.take k) (x0, x1, x2)
      have H2 := has_snoc id (S.take k) (x0, x1, x2)
      rw [← TS, DI.out.1] at D2
      rw [← TS, DI.out.2] at H2
      dsimp only at D2 H2
      obtain ⟨g, rfl, -, hlt, c0, c1, c2⟩ := rent R.out.rf k hkl HX
      clear hx DI TS
      by_cases he : x1 = id
      · have he' : (x1 == id) = true := by simpa using he
        rw [if_pos he] at D2
        have hb : (b || decide (x1 = id)) = true := by simp [he]
        rw [hb] at H2
        have DI := Lib.hid (And.intro D2 H2)
        clear D2 H2 hb he
        go_wp2_with fail
        go_roundw
        case rel => exact ⟨k + 1, _, _, _, by omega, by go_num, rfl, rfl, DI, R⟩
        case measure => simp [intOf]; omega
      · have he' : (x1 == id) = false := by simpa using he
        rw [if_neg he] at D2
        have hb : (b || decide (x1 = id)) = b := by simp [he]
        rw [hb] at H2
        have DI := Lib.hid (And.intro D2 H2)
        clear D2 H2 hb he
        go_wp2_with (at_builtin; go_loud (refine append3 wr rfl _ _ 37 rfl 45 (by kernel_rfl) infoEntR w.heap.size _ M rfl (by exact R.out.row) x0 x1 x2 rfl (by omega) (by have := R.out.alt.size; exact this) ?_))
        intro v2 w7 ho1 hg hf
        have ho : w7.ownsRow w.heap.size 45 3 v2 (M ++ [(x0, x1, x2)]).length (encE (M ++ [(x0, x1, x2)])) := by simpa [List.append_assoc] using ho1
        replace R := ra_app (ra_next R ((Below.refl _ _).alloc (Nat.le_refl _) (.cells #[.int .i64 x0, .int .i64 x1, .int .i64 x2] 45))) rfl hg ho
        clear ho ho1 hg hf
        clear bc c0 c1 c2
        go_wp2_with fail
        go_roundw
        case rel => exact ⟨k + 1, _, _, _, by omega, by go_num, rfl, rfl, DI, R⟩
        case measure => simp [intOf]; omega
    · obtain rfl : k = n := by omega
      have EE := DI.out
      rw [← HN.out, List.take_length] at EE
      obtain ⟨E1, E2⟩ := EE
      obtain ⟨va, vc, rfl⟩ := own_val R.out.row
      obtain ⟨m9, hm9⟩ : ∃ m, M.length = m := ⟨_, rfl⟩
      rw [hm9] at R hml ⊢
      have fz := R.out.rf.out.box.frozen
      obtain ⟨R2, M2⟩ := ra_end R (by rw [hm9]; omega)
      rw [← E1] at R2
      have HE := Lib.hid E2
      have M2 := Lib.hid M2
      clear E1 E2 DI hm9
      go_wp2_with fail
      go_ret
      exact ⟨ret_bool HE.out.symm, _, R2, M2.out⟩
end Go.Proofs.Ytlafeijkpnpdeaa.Agv

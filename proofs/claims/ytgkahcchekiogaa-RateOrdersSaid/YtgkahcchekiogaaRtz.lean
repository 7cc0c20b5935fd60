/- The reference's Order, the loops. -/
import Derived.Test.YtgkahcchekiogaaRty
namespace Go.Proofs.Ytgkahcchekiogaa.Rtz
open Go.RowKit Go.Shelf Base Kit WideA WideB Plain RefA Alt Held Rtf Rto Rtq Rtj Rty
set_option linter.unusedVariables false
set_option linter.unusedSimpArgs false
theorem sw_put {w0 w : World} {g n cap : Nat} {d : D} (h : Hid (Sw w0 w g n cap d)) {j x : Nat} : Hid (Sw w0 (w.setCell ⟨g, j, none⟩ (.int .i64 (x : Int))) g n cap (fun t => if t = j then x else d t)) := by
  have h1 := (h.out.own.stored j (.int .i64 (x : Int))).1
  rw [row_set] at h1
  refine Lib.hid ⟨h.out.alt.trans (Alt.set _ _ _ rfl), ?_, h.out.len⟩
  have e : (fun t => (((if t = j then x else d t : Nat)) : Int)) = (fun t => if t = j then (x : Int) else (d t : Int)) := by
    funext t; split <;> rfl
  rw [e]
  exact h1
theorem rk_mono {k : Nat → Int} {n i j : Nat} (hi : i < n) (h : lx k i j = true) : rk k n i < rk k n j := by
  have key : ∀ K, rk k K i + (if i < K then 1 else 0) ≤ rk k K j := fun K => by
    induction K with
    | zero => simp [rk]
    | succ K ih =>
      rw [rk_succ, rk_succ]
      have tr : lx k K i = true → lx k K j = true := fun q => by
        simp only [lx, decide_eq_true_eq] at q h ⊢; omega
      by_cases c : i = K
      · subst c
        have e1 : lx k i i = false := by simp [lx]
        rw [e1, h]
        rw [if_neg (by omega)] at ih
        rw [if_neg (by simp), if_pos rfl, if_pos (by omega)]
        omega
      · by_cases q : lx k K i = true
        · rw [if_pos q, if_pos (tr q)]
          by_cases z : i < K
          · rw [if_pos z] at ih; rw [if_pos (by omega)]; omega
          · rw [if_neg z] at ih; rw [if_neg (by omega)]; omega
        · rw [if_neg q]
          by_cases z : i < K
          · rw [if_pos z] at ih; rw [if_pos (by omega)]; omega
          · rw [if_neg z] at ih; rw [if_neg (by omega)]; omega
  have := key n
  rw [if_pos hi] at this
  omega
theorem rk_inj {k : Nat → Int} {n i j : Nat} (hi : i < n) (hj : j < n) (e : rk k n i = rk k n j) : i = j := by
  by_cases c : i = j
  · exact c
  · have : lx k i j = true ∨ lx k j i = true := by simp only [lx, decide_eq_true_eq]; omega
    rcases this with q | q
    · have := rk_mono hi q; omega
    · have := rk_mono hj q; omega
/-- the reference's places -/
def ROr (f : Nat → Nat → Int) (n : Nat) (w : World) (e : Ending) (w' : World) : Prop :=
  ∃ (v : Value) (o : D), e = .returned v ∧ w'.ownsRow w.heap.size 3 1 v n (row (fun i => ((o i : Nat) : Int)) n) ∧ Hid (∀ i, i < n → o (rk (ky f) n i) = i) ∧ Below w.heap.size w w'
set_option maxRecDepth 100000 in
set_option maxHeartbeats 4000000 in
theorem rorder_any (a : Option Addr) (n c : Nat) (f : Nat → Nat → Int) (w : World) (h : Hid (Open.RowsIn w a n 3 f)) (hn : n ≤ 100) :
    Calls Try.prog 53 #[.slice a n c] w (ROr f n w) := by
  obtain ⟨w1, r1, o1, g1⟩ := make_ints w n (by omega)
  have hb1 : Below w.heap.size w w1 := ⟨g1.os, g1.tape, g1.output, g1.size, fun i hi => g1.block i hi (by simp)⟩
  have gl := (o1.lt w.heap.size rfl).2
  obtain ⟨g, hg⟩ : ∃ g, w.heap.size = g := ⟨_, rfl⟩
  have S1 : Hid (Sw w1 w1 g n n (fun _ => 0)) := Lib.hid ⟨Alt.refl _ _, by rw [← hg]; exact own_base o1 (fun _ _ => Nat.zero_le _), hn⟩
  have RW : Hid (∀ w', Alt (fun k => k = g) w1 w' → Hid (Open.RowsIn w' a n 3 f)) := Lib.hid (fun w' hw => by
    have h1 := rows_next h hb1
    by_cases hz : n = 0
    · subst hz
      exact Lib.hid ⟨Nat.zero_le _, .inl rfl, fun k hk => by omega⟩
    · obtain ⟨b, off, rfl, hlt, _⟩ := rows_at h 0 (by omega)
      exact rows_alt h1 hw (fun e => by omega))
  have HB := Lib.hid hb1
  have HG := Lib.hid hg
  have hgl : g < w1.heap.size := by omega
  rw [hg] at r1
  clear o1 g1 hb1 gl hg
  go_enter Try.func53, Try.ntmps53
  go_wp2_with fail
  go_loopw [4] (fun i wr => ∃ (i0 : Nat) (o : D), i0 ≤ n ∧ i = .int .i64 (i0 : Int) ∧ Hid (Sw w1 wr g n n o) ∧ Hid (∀ j, j < i0 → o (rk (ky f) n j) = j)) (fun i _ => n - (intOf i).toNat)
  case atStart => exact ⟨0, _, Nat.zero_le _, rfl, S1, Lib.hid (fun j hj => by omega)⟩
  case round =>
    clear S1
    obtain ⟨i0, o, hi, rfl, H, O⟩ := hrel
    by_cases hin : i0 < n
    · go_wp2_with fail
      go_loopw [5, 6] (fun x y wr => ∃ (n0 k0 : Nat), k0 ≤ n ∧ n0 ≤ k0 ∧ x = .int .i64 (n0 : Int) ∧ y = .int .i64 (k0 : Int) ∧ Hid (n0 = rk (ky f) k0 i0) ∧ Hid (Sw w1 wr g n n o)) (fun _ y _ => n - (intOf y).toNat)
      case atStart => exact ⟨0, 0, Nat.zero_le _, Nat.le_refl _, rfl, rfl, Lib.hid rfl, H⟩
      case round =>
        clear H
        obtain ⟨n0, k0, hk, hnk, rfl, rfl, E, H⟩ := hrel
        by_cases hkn : k0 < n
        · by_cases hki : k0 = i0
          · have e9 : rk (ky f) (k0 + 1) i0 = rk (ky f) k0 i0 := by rw [rk_succ, if_neg (by rw [hki]; simp [lx])]; rfl
            have E9 := Lib.hid e9
            have hki2 : ((k0 : Int) == (i0 : Int)) = true := by simp [hki]
            have hki3 : (k0 : Int) = (i0 : Int) := by omega
            replace hki := Lib.hid hki
            clear e9
            go_wp2_with fail
            go_roundw
            case rel => exact ⟨n0, k0 + 1, by omega, by omega, rfl, by simp; omega, Lib.hid (by rw [E9.out]; exact E.out), H⟩
            case measure => simp [intOf]; omega
          · have hki2 : ((k0 : Int) == (i0 : Int)) = false := by simp; omega
            have hki3 : ¬ (k0 : Int) = (i0 : Int) := by omega
            obtain ⟨r, hr⟩ : ∃ r, lx (ky f) k0 i0 = r := ⟨_, rfl⟩
            have A := Lib.hid (ahead_any a n c f k0 i0 r wr (RW.out wr H.out.alt) hkn hin (Lib.hid hr))
            have E9 : Hid (rk (ky f) (k0 + 1) i0 = n0 + (if r = true then 1 else 0)) := Lib.hid (by rw [rk_succ, hr, ← E.out])
            replace hki := Lib.hid hki
            clear hr
            cases r
            · go_wp2_with fail
              refine A.out.mono ?_
              rintro e1 w5 ⟨rfl, k5⟩
              have H5 := sw_next H k5
              clear k5 A
              go_wp2_with fail
              go_roundw
              case rel => exact ⟨n0, k0 + 1, by omega, by omega, rfl, by simp, Lib.hid (by rw [E9.out]; simp), H5⟩
              case measure => simp [intOf]; omega
            · go_wp2_with fail
              refine A.out.mono ?_
              rintro e1 w5 ⟨rfl, k5⟩
              have H5 := sw_next H k5
              clear k5 A
              go_wp2_with fail
              go_roundw
              case rel => exact ⟨n0 + 1, k0 + 1, by omega, by omega, by simp, by simp, Lib.hid (by rw [E9.out]; simp), H5⟩
              case measure => simp [intOf]; omega
        · obtain rfl : n = k0 := by omega
          have hlt : n0 < n := by rw [E.out]; exact rk_lt _ hin
          have hltI : (n0 : Int) < (n : Int) := by omega
          have c0 := sw_cell H hlt
          have fz := H.out.own.frozenAt
          have HS := sw_put H (j := n0) (x := i0)
          go_wp2_with fail
          go_roundw
          case rel => exact ⟨i0 + 1, _, by omega, by simp, HS, Lib.hid (fun j hj => by
            show (if rk (ky f) n j = n0 then i0 else o (rk (ky f) n j)) = j
            by_cases c : j = i0
            · subst c; rw [if_pos E.out.symm]
            · rw [if_neg (fun e => c (rk_inj (by omega) hin (by rw [e]; exact E.out)))]
              exact O.out j (by omega))⟩
          case measure => simp [intOf]; omega
    · obtain rfl : n = i0 := by omega
      have OB : Hid (wr.ownsRow w.heap.size 3 1 (.slice (some ⟨g, 0, none⟩) n n) n (row (fun i => ((o i : Nat) : Int)) n)) := Lib.hid (own_base H.out.own (fun q hq => by
          simp only [Value.ownBlock, Option.some.injEq] at hq
          have := HG.out
          omega))
      go_wp2_with fail
      go_ret
      exact ⟨_, o, rfl, OB.out, O, H.out.alt.below HB.out HB.out.size (fun i hi => by have := HG.out; omega)⟩
end Go.Proofs.Ytgkahcchekiogaa.Rtz

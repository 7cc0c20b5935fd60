/- The law AgendaOrder, n0 = 100. -/
import Derived.Test.YtlafeijkpnpdeaaAgq
namespace Go.Proofs.Ytlafeijkpnpdeaa.Agq2
open Go.RowKit Base Kit RefA Alt Held Agp Aga Agb Agc Agd Age Agf Agg Agh Agi Agj Agn Ago Boo Agq
set_option linter.unusedVariables false
set_option linter.unusedSimpArgs false
set_option maxRecDepth 100000 in
set_option maxHeartbeats 16000000 in
theorem order_law (a : Option Addr) (n0 cp : Nat) (f : Nat → Int) (da : Option Addr) (dn dc : Nat) (df : Nat → Int) (w : World) (hcs : n0 = 100) (h : Hid (Open.RowsIn w a n0 1 (fun i _ => f i))) (hd : Hid (BytesIn w da dn df)) : Calls Try.prog 5 #[.slice a n0 cp, .slice da dn dc] w fun e w' => e = .returned (.bool true) ∧ Below w.heap.size w w' := by
  obtain ⟨B, hBe⟩ : ∃ B, B = w.heap.size := ⟨_, rfl⟩
  have hn := h.out.1
  have hdn := hd.out.1
  have CW := Lib.hid (fun w' => works_any w')
  have RO := Lib.hid (fun w' (hb : Below B w w') => rows_below h.out hb (by omega))
  have DO := Lib.hid (fun w' (hb : Below B w w') => bytes_below hd.out hb (by omega))
  have RF := Lib.hid (fun k (hk : k < n0) => (h.out.2.2 k hk 0 (by omega)).2)
  obtain ⟨n, hmn⟩ : ∃ n, n = min n0 100 := ⟨_, rfl⟩
  have hn1 : n ≤ n0 := by omega
  have hn2 : n ≤ 100 := by omega
  go_enter Try.func5, Try.ntmps5
  go_wp2_with fail
  refine (NewW 100 w B (by omega)).mono ?_
  rintro e w1 ⟨rfl, S, k⟩
  have K0 : Hid (Below B w w1) := Lib.hid (by rw [hBe]; exact k)
  have hB1 : Hid (B ≤ w1.heap.size) := Lib.hid (by have := k.size; omega)
  replace hBe := Lib.hid hBe
  clear k h hd
  generalize w.heap.size = ab at S ⊢
  have S0 : Hid (Wk B w1 ab (.slice none 0 0) (sq f 0) ((0 : Nat) : Int) 100) := S
  clear S
  subst hcs
  have hn3 : 100 ≤ n := by omega
  clear hmn
  go_wp2_with fail
  go_loopw [7] (fun i wr => ∃ (k : Nat) (v1 : Value), k ≤ n ∧ i = .int .i64 k ∧ Hid (Below B w wr) ∧ Hid (B ≤ wr.heap.size) ∧ Hid (Wk B wr ab v1 (sq f k) (k : Int) 100)) (fun i _ => n - (intOf i).toNat)
  case atStart => exact ⟨0, _, by omega, rfl, K0, hB1, S0⟩
  case round =>
    clear S0 K0 hB1
    obtain ⟨k, v1, hkn, rfl, K0, hB1, S0⟩ := hrel
    by_cases hk : k < n
    · obtain ⟨b, off, ea, hlt, c0, _⟩ := rows_at1 (Lib.hid (RO.out _ K0.out)) k (by omega)
      subst ea
      have C1 := Lib.hid (AddW (f k) (k : Int) S0 hB1.out (by rw [sq_len]; omega) (by omega) (by omega) (by omega))
      go_wp2_with fail
      refine C1.out.mono ?_
      rintro e w5 ⟨rfl, v3, X, M⟩
      have K5 := Lib.hid (wk_bel S0 K0.out hB1.out M)
      have hB5 := Lib.hid (Nat.le_trans hB1.out M.alt.size)
      clear C1 M c0 S0 K0 hB1
      go_wp2_with fail
      go_roundw
      case rel => exact ⟨k + 1, v3, by omega, by go_num, K5, hB5, by rw [show sq f (k + 1) = ins (f k, (k : Int) + 1, (k : Int)) (sq f k) from rfl]; simpa using X⟩
      case measure => simp [intOf]; omega
    · obtain rfl : n = k := by omega
      obtain ⟨wm, r0, o1, g1⟩ := make_bools wr 101 (by omega)
      have r1 : (Instr.makeSlice 50 (.int .i64 101) (.int .i64 101)).run Try.prog wr = .ok (.slice (some ⟨wr.heap.size, 0, none⟩) 101 101) wm := r0
      clear r0
      have kb : Below wr.heap.size wr wm := (Below.refl _ _).grown g1 (Nat.le_refl _) (fun r e => by cases e)
      have O : Hid (Od w wm B ab v1 (sq f n) ((n : Nat) : Int) wr.heap.size (fun _ => false)) := Lib.hid ⟨K0.out.trans (kb.mono hB1.out), hBe.out, wk_next S0 kb, own_base o1 (fun g hg => by cases hg; exact hB1.out)⟩
      have GI := Lib.hid (gi_init f n)
      clear o1 g1 kb K0 hB1 S0
      generalize sq f n = S at *
      obtain ⟨last, hla⟩ : ∃ l : Int, l = ((n : Nat) : Int) := ⟨_, rfl⟩
      rw [← hla] at O
      clear hla
      generalize wr.heap.size = gb at *
      go_wp2_with fail
      clear r1
      go_loopw [11] (fun i wl => ∃ (q : Nat) (v2 : Value) (S2 : List E) (G : Nat → Bool), q ≤ dn ∧ q ≤ 100 ∧ i = .int .i64 q ∧ Hid (Od w wl B ab v2 S2 last gb G) ∧ Hid (Gi f n S2 G)) (fun i _ => dn - (intOf i).toNat)
      case atStart => exact ⟨0, _, _, _, by omega, by omega, rfl, O, GI⟩
      case round =>
        clear O GI
        obtain ⟨q, v2, S2, G, hq, hq100, rfl, O, GI⟩ := hrel
        by_cases hqd : q < dn ∧ q < 100
        · obtain ⟨hq1, hq2⟩ := hqd
          obtain ⟨b, off, ea, c0, d0, d1⟩ := bytes_at (DO.out _ O.out.bel) q hq1
          subst ea
          obtain ⟨i, hi⟩ : ∃ i : Nat, df q = (i : Int) := ⟨(df q).toNat, by omega⟩
          rw [hi] at c0 d0 d1
          have hi255 : i ≤ 255 := by omega
          have C1 := Lib.hid (DropW (i : Int) O.out.A (od_sz O))
          have HH := gi_has GI.out i
          have GI2 := Lib.hid (gi_del GI.out i)
          clear hi d0 d1 GI
          rcases (show (i = 0) ∨ (1 ≤ i ∧ i ≤ n) ∨ (n < i ∧ i ≤ 100) ∨ (100 < i) by omega) with rfl | ⟨g1, g2⟩ | ⟨g1, g2⟩ | g1
          · have hb : has ((0 : Nat) : Int) S2 = false := by
              cases hh : has ((0 : Nat) : Int) S2
              · rfl
              · have := HH.1 hh; omega
            rw [hb] at C1
            clear HH hb
            go_wp2_with fail
            refine C1.out.mono ?_
            rintro e w5 ⟨rfl, v3, X, M⟩
            have O5 := od_mov O M X
            clear C1 X M O c0
            have cG := od_cell O5 0 (by omega)
            have fG := od_frz O5
            go_wp2_with fail
            have O6 := od_set O5 0
            go_roundw
            case rel => exact ⟨q + 1, _, _, _, by omega, by omega, by go_num, O6, GI2⟩
            case measure => simp [intOf]; omega
          · cases hG : G i
            · have hb : has (i : Int) S2 = true := HH.2 ⟨g1, g2, hG⟩
              rw [hb] at C1
              clear HH hb
              go_wp2_with fail
              refine C1.out.mono ?_
              rintro e w5 ⟨rfl, v3, X, M⟩
              have O5 := od_mov O M X
              clear C1 X M O c0
              have cG := od_cell O5 i (by omega)
              rw [hG] at cG
              have fG := od_frz O5
              go_wp2_with fail
              have O6 := od_set O5 i
              go_roundw
              case rel => exact ⟨q + 1, _, _, _, by omega, by omega, by go_num, O6, GI2⟩
              case measure => simp [intOf]; omega
            · have hb : has (i : Int) S2 = false := by
                cases hh : has (i : Int) S2
                · rfl
                · have := (HH.1 hh).2.2; rw [hG] at this; cases this
              rw [hb] at C1
              clear HH hb
              go_wp2_with fail
              refine C1.out.mono ?_
              rintro e w5 ⟨rfl, v3, X, M⟩
              have O5 := od_mov O M X
              clear C1 X M O c0
              have cG := od_cell O5 i (by omega)
              rw [hG] at cG
              have fG := od_frz O5
              go_wp2_with fail
              have O6 := od_set O5 i
              go_roundw
              case rel => exact ⟨q + 1, _, _, _, by omega, by omega, by go_num, O6, GI2⟩
              case measure => simp [intOf]; omega
          · try (exfalso; omega)
            all_goals
              have hb : has (i : Int) S2 = false := by
                cases hh : has (i : Int) S2
                · rfl
                · have := HH.1 hh; omega
              rw [hb] at C1
              clear HH hb
              go_wp2_with fail
              refine C1.out.mono ?_
              rintro e w5 ⟨rfl, v3, X, M⟩
              have O5 := od_mov O M X
              clear C1 X M O c0
              have cG := od_cell O5 i (by omega)
              have fG := od_frz O5
              go_wp2_with fail
              have O6 := od_set O5 i
              go_roundw
              case rel => exact ⟨q + 1, _, _, _, by omega, by omega, by go_num, O6, GI2⟩
              case measure => simp [intOf]; omega
          · have hb : has (i : Int) S2 = false := by
              cases hh : has (i : Int) S2
              · rfl
              · have := HH.1 hh; omega
            rw [hb] at C1
            clear HH hb
            go_wp2_with fail
            refine C1.out.mono ?_
            rintro e w5 ⟨rfl, v3, X, M⟩
            have O5 := od_up (od_mov O M X) i (by omega)
            clear C1 X M O c0
            go_wp2_with fail
            go_roundw
            case rel => exact ⟨q + 1, _, _, _, by omega, by omega, by go_num, O5, GI2⟩
            case measure => simp [intOf]; omega
        · have hqd2 : q = dn ∨ (q < dn ∧ q = 100) := by omega
          clear hqd DO
          obtain ⟨m1, m2⟩ := due_max GI.out (fun k hk => RF.out k (by omega))
          have C1 := Lib.hid (DueW 9223372036854775807 O.out.A (od_sz O))
          rw [m1, m2] at C1
          have SL := wk_len O.out.A
          obtain ⟨LL, -, IV⟩ := O.out.A.out.ag
          have ST := Lib.hid (And.intro IV.st IV.one)
          clear IV m1 m2 LL
          rcases hqd2 with rfl | ⟨hq1, rfl⟩
          · skip
            skip
            go_wp2_with fail
            refine C1.out.mono ?_
            rintro e w5 ⟨u, v3, rfl, X, M, -, OR⟩
            have O5 := od_mov O M X
            have NB : u.ownBlock ≠ some gb := fun z => by have := (own_lo OR z).1; have := (own_lo O.out.G (g := gb) rfl).2; omega
            have E5 : Hid (Oe w w5 B ab v3 [] last gb G wr.heap.size u S2) := Lib.hid ⟨O5, OR, NB⟩
            clear C1 X M O O5 OR NB
            generalize wr.heap.size = b2 at *
            obtain ⟨ua, uc, rfl⟩ := own_val E5.out.r
            obtain ⟨sl, hsl⟩ : ∃ m, S2.length = m := ⟨_, rfl⟩
            have HSL := Lib.hid hsl
            rw [hsl] at E5 SL ⊢
            clear hsl
            go_wp2_with fail
            go_loopw [14] (fun i wl => ∃ p : Nat, p ≤ sl ∧ i = .int .i64 p ∧ Hid (Oe w wl B ab v3 [] last gb (gl G S2 p) b2 (.slice ua sl uc) S2)) (fun i _ => sl - (intOf i).toNat)
            case atStart => exact ⟨0, by omega, rfl, E5⟩
            case round =>
              clear E5
              obtain ⟨p, hp, rfl, E5⟩ := hrel
              by_cases hps : p < sl
              · obtain ⟨K, hK, hat, hGK⟩ := gi_at GI.out (k := p) (by rw [HSL.out]; exact hps)
                have hgf := gl_false GI.out ST.out.2 (k := p) (by rw [HSL.out]; exact hps) (by rw [hat]) hGK p (Nat.le_refl _)
                have GS : Hid (gl G S2 (p + 1) = upd (gl G S2 p) (K + 1)) := Lib.hid (by show upd _ _ = _; rw [hat]; rfl)
                obtain ⟨b, off, ea, hlt, z0, _⟩ := rows_at1 (Lib.hid (RO.out _ E5.out.O.out.bel)) K (by omega)
                subst ea
                obtain ⟨x0, hx0⟩ : ∃ x, f K = x := ⟨_, rfl⟩
                rw [hx0] at z0 hat
                have HAT := Lib.hid hat
                obtain ⟨g3, c3, e3, _, s0, s1, s2⟩ := row_at E5.out.r rfl p (by rw [HSL.out]; exact hps) HAT
                simp only [Value.slice.injEq] at e3
                obtain ⟨rfl, -, rfl⟩ := e3
                have cG := od_cell E5.out.O (K + 1) (by omega)
                rw [hgf] at cG
                have d1 : decide ((K : Int) + 1 < 1) = false := decide_eq_false (by omega)
                have d2 : decide ((n : Int) < (K : Int) + 1) = false := decide_eq_false (by omega)
                have d3 : ((K : Int) != (K : Int) + 1 - 1) = false := by simp
                have d6 : decide ((100 : Int) < (K : Int) + 1) = false := decide_eq_false (by omega)
                have hK101 : K + 1 < 101 := by omega
                clear hat hGK hgf hx0 hlt
                rcases (show p = 0 ∨ ∃ j, p = j + 1 from by cases p; exact .inl rfl; exact .inr ⟨_, rfl⟩) with rfl | ⟨j, rfl⟩
                · skip
                  go_wp2_with fail
                  go_quiet (fail)
                  have E6 := oe_next E5 (below_drewN' (Below.refl _ _) nq)
                  clear E5 s0 s1 s2 cG z0
                  generalize wr.drewN nq = W1 at *
                  obtain ⟨g4, c4, e4, _, s0, s1, s2⟩ := row_at E6.out.r rfl _ (by rw [HSL.out]; exact hps) HAT
                  simp only [Value.slice.injEq, Option.some.injEq, Addr.mk.injEq, and_true, true_and] at e4
                  obtain ⟨rfl, -, rfl⟩ := e4
                  have cG := od_cell E6.out.O (K + 1) (by omega)
                  have fG := od_frz E6.out.O
                  go_wp2_with fail
                  replace E6 := oe_set E6 (K + 1)
                  rw [← GS.out] at E6
                  clear s0 s1 s2 cG fG
                  generalize W1.setCell ⟨gb, K + 1, none⟩ (.bool true) = W2 at *
                  obtain ⟨g4, c4, e4, _, s0, s1, s2⟩ := row_at E6.out.r rfl _ (by rw [HSL.out]; exact hps) HAT
                  simp only [Value.slice.injEq, Option.some.injEq, Addr.mk.injEq, and_true, true_and] at e4
                  obtain ⟨rfl, -, rfl⟩ := e4
                  go_wp2_with fail
                  go_quiet (fail)
                  have E7 := oe_next E6 (below_drewN' (Below.refl _ _) nq)
                  clear E6 s0 s1 s2
                  go_wp2_with fail
                  go_roundw
                  case rel => exact ⟨0 + 1, by omega, by go_num, E7⟩
                  case measure => simp [intOf]; omega
                · obtain ⟨⟨y0, y1, y2⟩, hy⟩ : ∃ y, at_ S2 j = y := ⟨_, rfl⟩
                  have lt1 := srt_lt ST.out.1 (show j < j + 1 by omega) (by rw [HSL.out]; exact hps)
                  rw [hy, HAT.out] at lt1
                  unfold lt at lt1
                  dsimp only at lt1
                  have HY := Lib.hid hy
                  clear hy
                  go_wp2_with fail
                  go_quiet (fail)
                  have E6 := oe_next E5 (below_drewN' (Below.refl _ _) nq)
                  clear E5 s0 s1 s2 cG z0
                  generalize wr.drewN nq = W1 at *
                  obtain ⟨g4, c4, e4, _, s0, s1, s2⟩ := row_at E6.out.r rfl _ (by rw [HSL.out]; exact hps) HAT
                  simp only [Value.slice.injEq, Option.some.injEq, Addr.mk.injEq, and_true, true_and] at e4
                  obtain ⟨rfl, -, rfl⟩ := e4
                  have cG := od_cell E6.out.O (K + 1) (by omega)
                  have fG := od_frz E6.out.O
                  go_wp2_with fail
                  replace E6 := oe_set E6 (K + 1)
                  rw [← GS.out] at E6
                  clear s0 s1 s2 cG fG
                  generalize W1.setCell ⟨gb, K + 1, none⟩ (.bool true) = W2 at *
                  obtain ⟨g4, c4, e4, _, s0, s1, s2⟩ := row_at E6.out.r rfl _ (by rw [HSL.out]; exact hps) HAT
                  simp only [Value.slice.injEq, Option.some.injEq, Addr.mk.injEq, and_true, true_and] at e4
                  obtain ⟨rfl, -, rfl⟩ := e4
                  obtain ⟨g4, c4, e4, _, t0, t1, t2⟩ := row_at E6.out.r rfl j (by rw [HSL.out]; omega) HY
                  simp only [Value.slice.injEq, Option.some.injEq, Addr.mk.injEq, and_true, true_and] at e4
                  obtain ⟨rfl, -, rfl⟩ := e4
                  rcases lt1 with l1 | ⟨l1, l2⟩
                  · have d4 : decide (x0 < y0) = false := decide_eq_false (by omega)
                    have d5 : (y0 == x0) = false := by simp; omega
                    go_wp2_with fail
                    go_quiet (fail)
                    have E7 := oe_next E6 (below_drewN' (Below.refl _ _) nq)
                    clear E6 s0 s1 s2
                    go_wp2_with fail
                    go_roundw
                    case rel => exact ⟨(j + 1) + 1, by omega, by go_num, E7⟩
                    case measure => simp [intOf]; omega
                  · subst l1
                    have d4 : decide ((K : Int) + 1 ≤ y1) = false := decide_eq_false (by omega)
                    go_wp2_with fail
                    go_quiet (fail)
                    have E7 := oe_next E6 (below_drewN' (Below.refl _ _) nq)
                    clear E6 s0 s1 s2
                    go_wp2_with fail
                    go_roundw
                    case rel => exact ⟨(j + 1) + 1, by omega, by go_num, E7⟩
                    case measure => simp [intOf]; omega
              · obtain rfl : p = sl := by omega
                have GT := Lib.hid (fun j (h1 : 1 ≤ j) (h2 : j ≤ n) => (by have := gl_true GI.out h1 h2; rw [HSL.out] at this; exact this : gl G S2 p j = true))
                generalize gl G S2 p = G3 at *
                clear RO ST
                go_wp2_with fail
                go_loopw [15] (fun i wl => ∃ t : Nat, 1 ≤ t ∧ t ≤ n + 1 ∧ i = .int .i64 t ∧ Hid (Oe w wl B ab v3 [] last gb G3 b2 (.slice ua p uc) S2)) (fun i _ => n + 1 - (intOf i).toNat)
                case atStart => exact ⟨1, by omega, by omega, rfl, E5⟩
                case round =>
                  clear E5
                  obtain ⟨t, ht1, ht2, rfl, E5⟩ := hrel
                  by_cases htn : t ≤ n
                  · have cG := od_cell E5.out.O t (by omega)
                    rw [GT.out t ht1 htn] at cG
                    go_wp2_with fail
                    go_roundw
                    case rel => exact ⟨t + 1, by omega, by omega, by go_num, E5⟩
                    case measure => simp [intOf]; omega
                  · obtain rfl : t = n + 1 := by omega
                    have CL : Hid (Calls Try.prog 11 #[.pointer (some ⟨ab, 0, none⟩)] wr fun e w' => e = .returned (.int .i64 0) ∧ wr = w') := Lib.hid (LenW E5.out.O.out.A)
                    go_wp2_with fail
                    refine CL.out.mono ?_
                    rintro e w9 ⟨rfl, e9⟩
                    cases e9
                    go_wp2_with fail
                    refine (CW.out _).mono ?_
                    rintro e w7 ⟨rfl, k7⟩
                    go_wp2_with fail
                    go_ret
                    exact ⟨rfl, by have := E5.out.O.out.bel; rw [E5.out.O.out.hB] at this; exact below_next this k7⟩
          · skip
            skip
            go_wp2_with fail
            refine C1.out.mono ?_
            rintro e w5 ⟨u, v3, rfl, X, M, -, OR⟩
            have O5 := od_mov O M X
            have NB : u.ownBlock ≠ some gb := fun z => by have := (own_lo OR z).1; have := (own_lo O.out.G (g := gb) rfl).2; omega
            have E5 : Hid (Oe w w5 B ab v3 [] last gb G wr.heap.size u S2) := Lib.hid ⟨O5, OR, NB⟩
            clear C1 X M O O5 OR NB
            generalize wr.heap.size = b2 at *
            obtain ⟨ua, uc, rfl⟩ := own_val E5.out.r
            obtain ⟨sl, hsl⟩ : ∃ m, S2.length = m := ⟨_, rfl⟩
            have HSL := Lib.hid hsl
            rw [hsl] at E5 SL ⊢
            clear hsl
            go_wp2_with fail
            go_loopw [14] (fun i wl => ∃ p : Nat, p ≤ sl ∧ i = .int .i64 p ∧ Hid (Oe w wl B ab v3 [] last gb (gl G S2 p) b2 (.slice ua sl uc) S2)) (fun i _ => sl - (intOf i).toNat)
            case atStart => exact ⟨0, by omega, rfl, E5⟩
            case round =>
              clear E5
              obtain ⟨p, hp, rfl, E5⟩ := hrel
              by_cases hps : p < sl
              · obtain ⟨K, hK, hat, hGK⟩ := gi_at GI.out (k := p) (by rw [HSL.out]; exact hps)
                have hgf := gl_false GI.out ST.out.2 (k := p) (by rw [HSL.out]; exact hps) (by rw [hat]) hGK p (Nat.le_refl _)
                have GS : Hid (gl G S2 (p + 1) = upd (gl G S2 p) (K + 1)) := Lib.hid (by show upd _ _ = _; rw [hat]; rfl)
                obtain ⟨b, off, ea, hlt, z0, _⟩ := rows_at1 (Lib.hid (RO.out _ E5.out.O.out.bel)) K (by omega)
                subst ea
                obtain ⟨x0, hx0⟩ : ∃ x, f K = x := ⟨_, rfl⟩
                rw [hx0] at z0 hat
                have HAT := Lib.hid hat
                obtain ⟨g3, c3, e3, _, s0, s1, s2⟩ := row_at E5.out.r rfl p (by rw [HSL.out]; exact hps) HAT
                simp only [Value.slice.injEq] at e3
                obtain ⟨rfl, -, rfl⟩ := e3
                have cG := od_cell E5.out.O (K + 1) (by omega)
                rw [hgf] at cG
                have d1 : decide ((K : Int) + 1 < 1) = false := decide_eq_false (by omega)
                have d2 : decide ((n : Int) < (K : Int) + 1) = false := decide_eq_false (by omega)
                have d3 : ((K : Int) != (K : Int) + 1 - 1) = false := by simp
                have d6 : decide ((100 : Int) < (K : Int) + 1) = false := decide_eq_false (by omega)
                have hK101 : K + 1 < 101 := by omega
                clear hat hGK hgf hx0 hlt
                rcases (show p = 0 ∨ ∃ j, p = j + 1 from by cases p; exact .inl rfl; exact .inr ⟨_, rfl⟩) with rfl | ⟨j, rfl⟩
                · skip
                  go_wp2_with fail
                  go_quiet (fail)
                  have E6 := oe_next E5 (below_drewN' (Below.refl _ _) nq)
                  clear E5 s0 s1 s2 cG z0
                  generalize wr.drewN nq = W1 at *
                  obtain ⟨g4, c4, e4, _, s0, s1, s2⟩ := row_at E6.out.r rfl _ (by rw [HSL.out]; exact hps) HAT
                  simp only [Value.slice.injEq, Option.some.injEq, Addr.mk.injEq, and_true, true_and] at e4
                  obtain ⟨rfl, -, rfl⟩ := e4
                  have cG := od_cell E6.out.O (K + 1) (by omega)
                  have fG := od_frz E6.out.O
                  go_wp2_with fail
                  replace E6 := oe_set E6 (K + 1)
                  rw [← GS.out] at E6
                  clear s0 s1 s2 cG fG
                  generalize W1.setCell ⟨gb, K + 1, none⟩ (.bool true) = W2 at *
                  obtain ⟨g4, c4, e4, _, s0, s1, s2⟩ := row_at E6.out.r rfl _ (by rw [HSL.out]; exact hps) HAT
                  simp only [Value.slice.injEq, Option.some.injEq, Addr.mk.injEq, and_true, true_and] at e4
                  obtain ⟨rfl, -, rfl⟩ := e4
                  go_wp2_with fail
                  go_quiet (fail)
                  have E7 := oe_next E6 (below_drewN' (Below.refl _ _) nq)
                  clear E6 s0 s1 s2
                  go_wp2_with fail
                  go_roundw
                  case rel => exact ⟨0 + 1, by omega, by go_num, E7⟩
                  case measure => simp [intOf]; omega
                · obtain ⟨⟨y0, y1, y2⟩, hy⟩ : ∃ y, at_ S2 j = y := ⟨_, rfl⟩
                  have lt1 := srt_lt ST.out.1 (show j < j + 1 by omega) (by rw [HSL.out]; exact hps)
                  rw [hy, HAT.out] at lt1
                  unfold lt at lt1
                  dsimp only at lt1
                  have HY := Lib.hid hy
                  clear hy
                  go_wp2_with fail
                  go_quiet (fail)
                  have E6 := oe_next E5 (below_drewN' (Below.refl _ _) nq)
                  clear E5 s0 s1 s2 cG z0
                  generalize wr.drewN nq = W1 at *
                  obtain ⟨g4, c4, e4, _, s0, s1, s2⟩ := row_at E6.out.r rfl _ (by rw [HSL.out]; exact hps) HAT
                  simp only [Value.slice.injEq, Option.some.injEq, Addr.mk.injEq, and_true, true_and] at e4
                  obtain ⟨rfl, -, rfl⟩ := e4
                  have cG := od_cell E6.out.O (K + 1) (by omega)
                  have fG := od_frz E6.out.O
                  go_wp2_with fail
                  replace E6 := oe_set E6 (K + 1)
                  rw [← GS.out] at E6
                  clear s0 s1 s2 cG fG
                  generalize W1.setCell ⟨gb, K + 1, none⟩ (.bool true) = W2 at *
                  obtain ⟨g4, c4, e4, _, s0, s1, s2⟩ := row_at E6.out.r rfl _ (by rw [HSL.out]; exact hps) HAT
                  simp only [Value.slice.injEq, Option.some.injEq, Addr.mk.injEq, and_true, true_and] at e4
                  obtain ⟨rfl, -, rfl⟩ := e4
                  obtain ⟨g4, c4, e4, _, t0, t1, t2⟩ := row_at E6.out.r rfl j (by rw [HSL.out]; omega) HY
                  simp only [Value.slice.injEq, Option.some.injEq, Addr.mk.injEq, and_true, true_and] at e4
                  obtain ⟨rfl, -, rfl⟩ := e4
                  rcases lt1 with l1 | ⟨l1, l2⟩
                  · have d4 : decide (x0 < y0) = false := decide_eq_false (by omega)
                    have d5 : (y0 == x0) = false := by simp; omega
                    go_wp2_with fail
                    go_quiet (fail)
                    have E7 := oe_next E6 (below_drewN' (Below.refl _ _) nq)
                    clear E6 s0 s1 s2
                    go_wp2_with fail
                    go_roundw
                    case rel => exact ⟨(j + 1) + 1, by omega, by go_num, E7⟩
                    case measure => simp [intOf]; omega
                  · subst l1
                    have d4 : decide ((K : Int) + 1 ≤ y1) = false := decide_eq_false (by omega)
                    go_wp2_with fail
                    go_quiet (fail)
                    have E7 := oe_next E6 (below_drewN' (Below.refl _ _) nq)
                    clear E6 s0 s1 s2
                    go_wp2_with fail
                    go_roundw
                    case rel => exact ⟨(j + 1) + 1, by omega, by go_num, E7⟩
                    case measure => simp [intOf]; omega
              · obtain rfl : p = sl := by omega
                have GT := Lib.hid (fun j (h1 : 1 ≤ j) (h2 : j ≤ n) => (by have := gl_true GI.out h1 h2; rw [HSL.out] at this; exact this : gl G S2 p j = true))
                generalize gl G S2 p = G3 at *
                clear RO ST
                go_wp2_with fail
                go_loopw [15] (fun i wl => ∃ t : Nat, 1 ≤ t ∧ t ≤ n + 1 ∧ i = .int .i64 t ∧ Hid (Oe w wl B ab v3 [] last gb G3 b2 (.slice ua p uc) S2)) (fun i _ => n + 1 - (intOf i).toNat)
                case atStart => exact ⟨1, by omega, by omega, rfl, E5⟩
                case round =>
                  clear E5
                  obtain ⟨t, ht1, ht2, rfl, E5⟩ := hrel
                  by_cases htn : t ≤ n
                  · have cG := od_cell E5.out.O t (by omega)
                    rw [GT.out t ht1 htn] at cG
                    go_wp2_with fail
                    go_roundw
                    case rel => exact ⟨t + 1, by omega, by omega, by go_num, E5⟩
                    case measure => simp [intOf]; omega
                  · obtain rfl : t = n + 1 := by omega
                    have CL : Hid (Calls Try.prog 11 #[.pointer (some ⟨ab, 0, none⟩)] wr fun e w' => e = .returned (.int .i64 0) ∧ wr = w') := Lib.hid (LenW E5.out.O.out.A)
                    go_wp2_with fail
                    refine CL.out.mono ?_
                    rintro e w9 ⟨rfl, e9⟩
                    cases e9
                    go_wp2_with fail
                    refine (CW.out _).mono ?_
                    rintro e w7 ⟨rfl, k7⟩
                    go_wp2_with fail
                    go_ret
                    exact ⟨rfl, by have := E5.out.O.out.bel; rw [E5.out.O.out.hB] at this; exact below_next this k7⟩
end Go.Proofs.Ytlafeijkpnpdeaa.Agq2

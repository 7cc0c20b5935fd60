/- Package nap's laws: NapWorth. -/
import Derived.Test.YtigknchcjlieoaaNapM
namespace Go.Proofs.Ytigknchcjlieoaa.NapN
open Go.RowKit Go.Shelf Base Kit Conf PowA PowB PowC PowR WideB Alt RefA Boo LvlA LvlG LvlH LvlI LvlJ LvlP OscPlain OscZ NapA NapB NapC NapD NapE NapF NapG NapH NapI NapL NapM
set_option linter.unusedVariables false
set_option linter.unusedSimpArgs false

theorem naw_sorted (p : PowC) (now en : Int) : ∀ k, (naw p now en k).Pairwise (· < ·)
  | 0 => List.Pairwise.nil
  | k + 1 => by
    have ih := naw_sorted p now en k
    unfold naw
    split
    · rw [List.pairwise_append]
      refine ⟨ih, List.pairwise_singleton _ _, fun a ha b hb => ?_⟩
      rw [List.mem_singleton.1 hb]
      exact (naw_mem ha).1
    · exact ih
theorem sorted_get {L : List Nat} (h : L.Pairwise (· < ·)) {i j : Nat} (hij : i < j) (hj : j < L.length) : L.getD i 0 < L.getD j 0 := by
  have hi : i < L.length := by omega
  rw [List.getD_eq_getElem?_getD, List.getD_eq_getElem?_getD, List.getElem?_eq_getElem hi, List.getElem?_eq_getElem hj]
  exact List.pairwise_iff_getElem.1 h i j hi hj hij
theorem bst_first (c : Nat → Int) (L : Nat → Nat) : ∀ i, (∀ a b, a < b → b ≤ i → L a < L b) → ∀ j, j ≤ i → c (bst c L i) ≤ c (L j) ∧ (c (L j) = c (bst c L i) → bst c L i ≤ L j)
  | 0, _, j, h => by
    obtain rfl : j = 0 := by omega
    exact ⟨Int.le_refl _, fun _ => Nat.le_refl _⟩
  | i + 1, hm, j, h => by
    have ih := bst_first c L i (fun a b h1 h2 => hm a b h1 (by omega))
    obtain ⟨y, hy, ey⟩ := bst_in c L i
    by_cases hc : c (L (i + 1)) < c (bst c L i)
    · rw [show bst c L (i + 1) = L (i + 1) from by unfold bst; rw [if_pos hc]]
      by_cases e : j = i + 1
      · subst e; exact ⟨Int.le_refl _, fun _ => Nat.le_refl _⟩
      · have := ih j (by omega)
        exact ⟨by omega, fun e2 => by omega⟩
    · rw [show bst c L (i + 1) = bst c L i from by rw [bst, if_neg hc]]
      by_cases e : j = i + 1
      · subst e
        refine ⟨by omega, fun e2 => ?_⟩
        have := hm y (i + 1) (by omega) (Nat.le_refl _)
        omega
      · exact ih j (by omega)
/-- what is told of the best one -/
theorem worth (p : PowC) (now en : Int) : BestR p now en = -1 ∨ ∃ (m : Nat) (c : Int), BestR p now en = (m : Int) ∧ CostR p (m : Int) now en = (c, 0) ∧ c < p.id * (en - now) ∧ (0 ≤ p.id * (en - now) ∧ p.id * (en - now) ≤ 1000000 * 1099511627776 ∧ 0 ≤ en - now ∧ en - now ≤ 1099511627776) ∧
    ∀ i, i < (nawL p now en).length → ∃ d, CostR p (((nawL p now en).getD i 0 : Nat) : Int) now en = (d, 0) ∧ c ≤ d ∧ (d = c → m ≤ (nawL p now en).getD i 0) := by
  unfold BestR
  by_cases h0 : (lst p now en p.nn).length = 0
  · rw [if_pos h0]; exact .inl rfl
  · rw [if_neg h0]
    by_cases hP : p.id * (en - now) ≤ costN p (bM (fun k => costN p k now en) (lst p now en p.nn)) now en
    · rw [if_pos hP]; exact .inl rfl
    · rw [if_neg hP]
      right
      have hm := bM_mem (fun k => costN p k now en) h0
      have fm := lst_fine hm
      have hl : ¬ 1099511627776 < en - now := by omega
      have el : lst p now en p.nn = nawL p now en := by unfold lst; rw [if_neg hl]; rfl
      rw [el] at h0 hm hP ⊢
      have pb := rest_bd fm.2.2.1.1
      have hnn : 0 ≤ en - now := by have := fm.2.2.1.2; omega
      have ib := mul_bd pb.2.1.1 pb.2.1.2 hnn fm.2.2.2.2
      have ct : ∀ y, y ∈ nawL p now en → CostR p (y : Int) now en = (costN p y now en, 0) := fun y hy => by
        have h9 : y ∈ naw p now en p.nn := hy
        have := (naw_mem h9).2
        unfold CostR
        rw [if_neg (by omega), Int.toNat_natCast]
      refine ⟨_, _, rfl, ct _ hm, by omega, ⟨ib.1, ib.2, hnn, fm.2.2.2.2⟩, fun i hi => ⟨_, ct _ (mem_get hi), ?_⟩⟩
      have so : (nawL p now en).Pairwise (· < ·) := naw_sorted p now en p.nn
      have := bst_first (fun k => costN p k now en) (fun i => (nawL p now en).getD i 0) ((nawL p now en).length - 1) (fun a b h1 h2 => sorted_get so h1 (by omega)) i (by omega)
      exact this

set_option maxRecDepth 100000 in
set_option maxHeartbeats 8000000 in
theorem worth_law (p : PowC) (n0 n1 : Int) (w : World) (ok : p.Ok w) (h0 : I64 n0) (h1 : I64 n1) :
    Calls Try.prog 9 #[.agg #[.slice p.la p.ln p.lc, .slice p.na p.nn p.nc, .int .i64 p.sw, .int .i64 p.id, .int .i64 p.ch, .int .i64 p.qu, .int .i64 p.sl, .int .i64 p.pp], .agg #[.int .i64 n0, .int .i64 n1]] w fun e w' => e = .returned (.bool true) ∧ Below w.heap.size w w' := by
  by_cases hf : p.ln ≤ 100 ∧ p.nn ≤ 100
  · have h100 := hf.2
    have F := Lib.hid (fun w1 (h : Below w.heap.size w w1) => fewn_any p w1 (ok.below h (Nat.le_refl _)) true (Lib.hid (by simpa using hf)))
    have okh := fun w1 (h : Below w.heap.size w w1) => ok.below h (Nat.le_refl _)
    rcases worth p n0 n1 with hy | ⟨m, c, hy, hc, hlt, ⟨ib0, ib, e0, e1⟩, hall⟩
    · have C1 := Lib.hid (fun w1 h => Best_any p n0 n1 w1 (okh w1 h) h100 _ (Lib.hid hy))
      clear hy okh
      have S := tw_in w #[.slice p.la p.ln p.lc, .slice p.na p.nn p.nc, .int .i64 p.sw, .int .i64 p.id, .int .i64 p.ch, .int .i64 p.qu, .int .i64 p.sl, .int .i64 p.pp] #[.int .i64 n0, .int .i64 n1] 25 28
      have bc := S.out.one.cell
      have bn := S.out.two.cell
      go_enter Try.func9, Try.ntmps9
      go_wp2_with fail
      generalize (w.alloc (.cells #[.slice p.la p.ln p.lc, .slice p.na p.nn p.nc, .int .i64 p.sw, .int .i64 p.id, .int .i64 p.ch, .int .i64 p.qu, .int .i64 p.sl, .int .i64 p.pp] 25)).alloc (.cells #[.int .i64 n0, .int .i64 n1] 28) = W at S bc bn ⊢
      refine (F.out _ S.out.bel).mono ?_
      rintro e1 w2 ⟨rfl, hb2⟩
      have S := tw_next S hb2
      clear hb2 bc bn
      have bc := S.out.one.cell
      have bn := S.out.two.cell
      go_wp2_with fail
      refine (C1.out _ S.out.bel).mono ?_
      rintro e1 w2 ⟨rfl, hb2⟩
      have S := tw_next S hb2
      clear hb2 bc bn
      have bc := S.out.one.cell
      have bn := S.out.two.cell
      go_wp2_with fail
      refine (worksn_any _).mono ?_
      rintro e1 w2 ⟨rfl, hb2⟩
      have S := tw_next S hb2
      clear hb2
      go_wp2_with fail
      go_ret
      exact ⟨rfl, S.out.bel⟩
    · have C1 := Lib.hid (fun w1 h => Best_any p n0 n1 w1 (okh w1 h) h100 _ (Lib.hid hy))
      have C2 := Lib.hid (fun w1 h => Cost_any p (m : Int) n0 n1 w1 (okh w1 h) c 0 (Lib.hid hc))
      have C4 := Lib.hid (fun w1 h t d e hd => Cost_any p t n0 n1 w1 (okh w1 h) d e hd)
      have C3 := fun w1 h => Allowed_any p n0 n1 w1 (okh w1 h) h100 _ (Lib.hid rfl)
      have HO := Lib.hid (fun (w' : World) (B : Nat) (v : Value) h => nawL_own (w := w') (B := B) (v := v) (p := p) (now := n0) (en := n1) (Lib.hid rfl) h100 h)
      have hln := nawL_len p n0 n1
      generalize nawL p n0 n1 = L at hall C3 HO hln
      have C3 := Lib.hid C3
      have HA := Lib.hid hall
      obtain ⟨P, hP⟩ : ∃ P, p.id * (n1 - n0) = P := ⟨_, rfl⟩
      rw [hP] at hlt ib ib0
      have hm63 : (m : Int) ≤ 9223372036854775807 := by
        have e9 := hc
        unfold CostR at e9
        by_cases h9 : CntR p (m : Int) n0 n1 < 1 ∨ 1099511627776 < n1 - n0
        · rw [if_pos h9] at e9; simp at e9
        · obtain ⟨k, e8, hk, -⟩ := cnt_ge (show 1 ≤ CntR p (m : Int) n0 n1 by omega)
          omega
      clear hy hc okh hall
      have S := tw_in w #[.slice p.la p.ln p.lc, .slice p.na p.nn p.nc, .int .i64 p.sw, .int .i64 p.id, .int .i64 p.ch, .int .i64 p.qu, .int .i64 p.sl, .int .i64 p.pp] #[.int .i64 n0, .int .i64 n1] 25 28
      have bc := S.out.one.cell
      have bn := S.out.two.cell
      go_enter Try.func9, Try.ntmps9
      go_wp2_with fail
      generalize (w.alloc (.cells #[.slice p.la p.ln p.lc, .slice p.na p.nn p.nc, .int .i64 p.sw, .int .i64 p.id, .int .i64 p.ch, .int .i64 p.qu, .int .i64 p.sl, .int .i64 p.pp] 25)).alloc (.cells #[.int .i64 n0, .int .i64 n1] 28) = W at S bc bn ⊢
      refine (F.out _ S.out.bel).mono ?_
      rintro e1 w2 ⟨rfl, hb2⟩
      have S := tw_next S hb2
      clear hb2 bc bn
      have bc := S.out.one.cell
      have bn := S.out.two.cell
      go_wp2_with fail
      refine (C1.out _ S.out.bel).mono ?_
      rintro e1 w2 ⟨rfl, hb2⟩
      have S := tw_next S hb2
      clear hb2 bc bn
      have bc := S.out.one.cell
      have bn := S.out.two.cell
      go_wp2_with fail
      refine (C2.out _ S.out.bel).mono ?_
      rintro e1 w2 ⟨rfl, hb2⟩
      have S := tw_next S hb2
      clear hb2 bc bn
      have bc := S.out.one.cell
      have bn := S.out.two.cell
      go_wp2_with fail
      refine (C3.out _ S.out.bel).mono ?_
      rintro e1 w2 ⟨v, rfl, hown, hb2⟩
      obtain ⟨a, cp, rfl, R1⟩ := HO.out _ _ _ hown
      have S := tw_next S hb2
      clear hb2 bc bn hown hP
      go_wp2_with fail
      go_loopw [9] (fun i wr => ∃ j : Nat, j ≤ L.length ∧ i = .int .i64 j ∧ Hid (Below w2.heap.size w2 wr)) (fun i _ => L.length - (intOf i).toNat)
      case atStart => exact ⟨0, Nat.zero_le _, rfl, Lib.hid (Below.refl _ _)⟩
      case round =>
        obtain ⟨j, hj, rfl, HB⟩ := hrel
        by_cases hl : j < L.length
        · obtain ⟨b, off, rfl, hbl, c0, -⟩ := rows_at1 R1 j hl
          have c0 := keep HB.out c0 hbl
          have S := tw_next S HB.out
          obtain ⟨d, hd, q1, q2⟩ := HA.out j hl
          obtain ⟨y, hy⟩ : ∃ y, L.getD j 0 = y := ⟨_, rfl⟩
          rw [hy] at c0 hd q2
          have D := Lib.hid (fun w1 h => C4.out w1 h (y : Int) d 0 (Lib.hid hd))
          have bc := S.out.one.cell
          have bn := S.out.two.cell
          clear hd hy
          go_wp2_with fail
          have S := tw_drew S
          have HB := Lib.hid (HB.out.drew)
          go_region_held3 (fun w' => (∀ i, w'.cell? ⟨w.heap.size, i, none⟩ = (#[.slice p.la p.ln p.lc, .slice p.na p.nn p.nc, .int .i64 p.sw, .int .i64 p.id, .int .i64 p.ch, .int .i64 p.qu, .int .i64 p.sl, .int .i64 p.pp] : Array Value)[i]?) ∧ (∀ i, w'.cell? ⟨w.heap.size + 1, i, none⟩ = (#[.int .i64 n0, .int .i64 n1] : Array Value)[i]?) ∧ w'.cell? ⟨b, off + j, none⟩ = some (.int .i64 (y : Int)))
            (first
              | exact r5
              | exact ⟨bc, bn, c0⟩)
            (first
              | (go_at_call 32; refine (D.out _ S.out.bel).mono ?_; rintro e1 w5 ⟨rfl, k5⟩; have S5 := tw_next S k5; have c5 := keep' k5 c0; have r5 := And.intro S5.out.one.cell (And.intro S5.out.two.cell c5); have HB5 := below_hid HB k5; clear k5))
          clear bc bn c0 r5
          by_cases he : d = c
          · subst he
            have q2 := q2 rfl
            go_wp2_with fail
            go_roundw
            case rel => exact ⟨j + 1, by omega, by go_num, HB5⟩
            case measure => simp [intOf]; omega
          · have he2 : (d == c) = false := by rw [beq_eq_false_iff_ne]; exact he
            clear q2 he
            go_wp2_with fail
            go_roundw
            case rel => exact ⟨j + 1, by omega, by go_num, HB5⟩
            case measure => simp [intOf]; omega
        · obtain rfl : j = L.length := by omega
          have S := tw_next S HB.out
          go_wp2_with fail
          refine (worksn_any _).mono ?_
          rintro e1 w2 ⟨rfl, hb2⟩
          have S := tw_next S hb2
          clear hb2
          go_wp2_with fail
          go_ret
          exact ⟨rfl, S.out.bel⟩
  · have F := Lib.hid (fun w1 (h : Below w.heap.size w w1) => fewn_any p w1 (ok.below h (Nat.le_refl _)) false (Lib.hid (by simpa using hf)))
    have S := tw_in w #[.slice p.la p.ln p.lc, .slice p.na p.nn p.nc, .int .i64 p.sw, .int .i64 p.id, .int .i64 p.ch, .int .i64 p.qu, .int .i64 p.sl, .int .i64 p.pp] #[.int .i64 n0, .int .i64 n1] 25 28
    have bc := S.out.one.cell
    have bn := S.out.two.cell
    go_enter Try.func9, Try.ntmps9
    go_wp2_with fail
    generalize (w.alloc (.cells #[.slice p.la p.ln p.lc, .slice p.na p.nn p.nc, .int .i64 p.sw, .int .i64 p.id, .int .i64 p.ch, .int .i64 p.qu, .int .i64 p.sl, .int .i64 p.pp] 25)).alloc (.cells #[.int .i64 n0, .int .i64 n1] 28) = W at S bc bn ⊢
    refine (F.out _ S.out.bel).mono ?_
    rintro e1 w2 ⟨rfl, hb2⟩
    have S := tw_next S hb2
    clear hb2 bc bn
    have bc := S.out.one.cell
    have bn := S.out.two.cell
    go_wp2_with fail
    refine (worksn_any _).mono ?_
    rintro e1 w2 ⟨rfl, hb2⟩
    have S := tw_next S hb2
    clear hb2
    go_wp2_with fail
    go_ret
    exact ⟨rfl, S.out.bel⟩
end Go.Proofs.Ytigknchcjlieoaa.NapN

import Derived.Test.YtlafeijkpnpdeaaGreatMg32
import Derived.Test.YtlafeijkpnpdeaaGreatMg6
import Derived.Test.YtlafeijkpnpdeaaGreatMg7
import Derived.Test.YtlafeijkpnpdeaaGreatMg11

/- The law SlotsSums. -/
namespace Go.Proofs.YtlafeijkpnpdeaaGreat.So3
open Go.RowKit Base Kit RefA WideA WideB RefC Plain Conf Conf2 PowA PowB Vfa Vfb Val Vld Vpa Vpb Vpr Vsh Short Vcf Vch Vci Vnu Vmo Vck Vrp Vl4 FitA FitB FitC NapG Soa Sob Soc Sod Soe Sof Alt Cls Sog Soh Soi Soj Sok Vpl Sow Sop
set_option linter.unusedVariables false
set_option linter.unusedSimpArgs false
theorem isF_ways {c : ConfC} {mode : Int} : (isF c mode = false ∧ decide ((CheckR c).1 = 0) = false) ∨ (isF c mode = false ∧ decide ((CheckR c).1 = 0) = true ∧ mode < 0) ∨ (isF c mode = false ∧ decide ((CheckR c).1 = 0) = true ∧ 0 ≤ mode ∧ (c.mn : Int) ≤ mode) ∨ (isF c mode = true ∧ decide ((CheckR c).1 = 0) = true ∧ ∃ i : Nat, mode = (i : Int) ∧ i < c.mn) := by
  by_cases h : (CheckR c).1 = 0
  · by_cases h1 : mode < 0
    · exact .inr (.inl ⟨isF_no.2 (by omega), by simpa using h, h1⟩)
    · by_cases h2 : (c.mn : Int) ≤ mode
      · exact .inr (.inr (.inl ⟨isF_no.2 (by omega), by simpa using h, by omega, h2⟩))
      · exact .inr (.inr (.inr ⟨isF_iff.2 ⟨h, by omega, by omega⟩, by simpa using h, mode.toNat, by omega, by omega⟩))
  · exact .inl ⟨isF_no.2 (fun z => h z.1), by simpa using h⟩
theorem loadP_no {c : ConfC} {mode part : Int} (h : isF c mode = false) : loadP c mode part = (0, 0, 2) := by unfold loadP; rw [h, if_neg (by simp)]
theorem loadP_out {c : ConfC} {mode part : Int} (h : part < 0 ∨ (c.pn : Int) ≤ part) : loadP c mode part = (0, 0, 2) := by unfold loadP; rw [if_neg (by omega)]
theorem loadP_in {c : ConfC} {i : Nat} {part : Int} (h : isF c (i : Int) = true) (h1 : 0 ≤ part) (h2 : part < (c.pn : Int)) : loadP c (i : Int) part = ((cntP (c.m i) part (c.m i).wn : Int), lenP (c.m i) part (c.m i).wn, 0) := by unfold loadP; rw [if_pos ⟨h, h1, h2⟩, Int.toNat_natCast]
theorem freeP_no {c : ConfC} {mode : Int} (h : isF c mode = false) : freeP c mode = (0, 2) := by unfold freeP; rw [h, if_neg (by simp)]
theorem freeP_in {c : ConfC} {i : Nat} (h : isF c (i : Int) = true) : freeP c (i : Int) = ((c.m i).fr - sumL (c.m i) (c.m i).wn, 0) := by unfold freeP; rw [if_pos h, Int.toNat_natCast]
set_option maxRecDepth 100000 in
set_option maxHeartbeats 4000000 in
theorem sums_law (c : ConfC) (mode part : Int) (w : World) (ok : c.Ok w) (i0 : -9223372036854775808 ≤ mode ∧ mode ≤ 9223372036854775807) (i1 : -9223372036854775808 ≤ part ∧ part ≤ 9223372036854775807) : Calls Tryz.prog 6 #[.agg #[.slice c.pa c.pn c.pc, .slice c.ca c.cn c.cc, .slice c.ma c.mn c.mc, .slice c.w.la c.w.ln c.w.lc, .slice c.w.na c.w.nn c.w.nc, .int .i64 c.w.sw, .int .i64 c.w.id, .int .i64 c.w.ch, .int .i64 c.w.qu, .int .i64 c.w.sl, .int .i64 c.w.pp, .slice c.da c.dn c.dc, .slice c.ua c.un c.uc], .int .i64 mode, .int .i64 part] w fun e w' => e = .returned (.bool true) ∧ Below w.heap.size w w' := by
  have hmn := ok.modes.out.1
  have hpn := ok.parts.out.1
  have OK := Lib.hid (fun w' (h : Below w.heap.size w w') => ok.below h (Nat.le_refl _))
  have CS := Lib.hid (fun w' (h : c.Ok w') => short_any c w' h)
  have CW := Lib.hid (fun w' => works_any w')
  have S := cs_in w c
  have bc := S.out.box.cell
  go_enter Tryz.func6, Tryz.ntmps6
  go_wp2_with fail
  generalize w.alloc (.cells #[.slice c.pa c.pn c.pc, .slice c.ca c.cn c.cc, .slice c.ma c.mn c.mc, .slice c.w.la c.w.ln c.w.lc, .slice c.w.na c.w.nn c.w.nc, .int .i64 c.w.sw, .int .i64 c.w.id, .int .i64 c.w.ch, .int .i64 c.w.qu, .int .i64 c.w.sl, .int .i64 c.w.pp, .slice c.da c.dn c.dc, .slice c.ua c.un c.uc] 33) = W at *
  refine (CS.out _ (OK.out _ S.out.bel)).mono ?_
  rintro e1 w5 ⟨b, hb, rfl, k5⟩
  have S := cs_next S k5
  clear k5 bc
  have bc := S.out.box.cell
  cases b
  · clear hb
    go_wp2_with fail
    refine (CW.out _).mono ?_
    rintro e1 w5 ⟨rfl, k5⟩
    have S := cs_next S k5
    clear k5 bc
    have bc := S.out.box.cell
    go_wp2_with fail
    go_ret
    exact ⟨rfl, S.out.bel⟩
  have sh := hb.1 rfl
  clear hb CS
  rcases isF_ways (c := c) (mode := mode) with ⟨hf, hq⟩ | ⟨hf, hq, h1⟩ | ⟨hf, hq, h1, h2⟩ | ⟨hf, hq, i, rfl, hi⟩
  · have CM := Lib.hid (fun w' (h : c.Ok w') => May_any c w' false h (Lib.hid hq))
    have CL := Lib.hid (fun w' (h : c.Ok w') => Load_any c mode part 0 0 2 w' h sh (Lib.hid (loadP_no hf)))
    have CF := Lib.hid (fun w' (h : c.Ok w') => Free_any c mode 0 2 w' h sh (Lib.hid (freeP_no hf)))
    clear hf hq sh ok
    go_wp2_with fail
    refine (CM.out _ (OK.out _ S.out.bel)).mono ?_
    rintro e1 w5 ⟨rfl, k5⟩
    have S := cs_next S k5
    clear k5 bc
    have bc := S.out.box.cell
    go_wp2_with fail
    refine (CL.out _ (OK.out _ S.out.bel)).mono ?_
    rintro e1 w5 ⟨rfl, k5⟩
    have S := cs_next S k5
    clear k5 bc
    have bc := S.out.box.cell
    go_wp2_with fail
    refine (CF.out _ (OK.out _ S.out.bel)).mono ?_
    rintro e1 w5 ⟨rfl, k5⟩
    have S := cs_next S k5
    clear k5 bc
    have bc := S.out.box.cell
    go_wp2_with fail
    refine (CW.out _).mono ?_
    rintro e1 w5 ⟨rfl, k5⟩
    have S := cs_next S k5
    clear k5 bc
    have bc := S.out.box.cell
    go_wp2_with fail
    go_ret
    exact ⟨rfl, S.out.bel⟩
  · have CM := Lib.hid (fun w' (h : c.Ok w') => May_any c w' true h (Lib.hid hq))
    have CL := Lib.hid (fun w' (h : c.Ok w') => Load_any c mode part 0 0 2 w' h sh (Lib.hid (loadP_no hf)))
    have CF := Lib.hid (fun w' (h : c.Ok w') => Free_any c mode 0 2 w' h sh (Lib.hid (freeP_no hf)))
    clear hf hq sh ok
    go_wp2_with fail
    refine (CM.out _ (OK.out _ S.out.bel)).mono ?_
    rintro e1 w5 ⟨rfl, k5⟩
    have S := cs_next S k5
    clear k5 bc
    have bc := S.out.box.cell
    go_wp2_with fail
    refine (CL.out _ (OK.out _ S.out.bel)).mono ?_
    rintro e1 w5 ⟨rfl, k5⟩
    have S := cs_next S k5
    clear k5 bc
    have bc := S.out.box.cell
    go_wp2_with fail
    refine (CF.out _ (OK.out _ S.out.bel)).mono ?_
    rintro e1 w5 ⟨rfl, k5⟩
    have S := cs_next S k5
    clear k5 bc
    have bc := S.out.box.cell
    go_wp2_with fail
    refine (CW.out _).mono ?_
    rintro e1 w5 ⟨rfl, k5⟩
    have S := cs_next S k5
    clear k5 bc
    have bc := S.out.box.cell
    go_wp2_with fail
    go_ret
    exact ⟨rfl, S.out.bel⟩
  · have CM := Lib.hid (fun w' (h : c.Ok w') => May_any c w' true h (Lib.hid hq))
    have CL := Lib.hid (fun w' (h : c.Ok w') => Load_any c mode part 0 0 2 w' h sh (Lib.hid (loadP_no hf)))
    have CF := Lib.hid (fun w' (h : c.Ok w') => Free_any c mode 0 2 w' h sh (Lib.hid (freeP_no hf)))
    have hd : decide (mode < (c.mn : Int)) = false := decide_eq_false (by omega)
    clear hf hq sh ok
    go_wp2_with fail
    refine (CM.out _ (OK.out _ S.out.bel)).mono ?_
    rintro e1 w5 ⟨rfl, k5⟩
    have S := cs_next S k5
    clear k5 bc
    have bc := S.out.box.cell
    go_wp2_with fail
    refine (CL.out _ (OK.out _ S.out.bel)).mono ?_
    rintro e1 w5 ⟨rfl, k5⟩
    have S := cs_next S k5
    clear k5 bc
    have bc := S.out.box.cell
    go_wp2_with fail
    refine (CF.out _ (OK.out _ S.out.bel)).mono ?_
    rintro e1 w5 ⟨rfl, k5⟩
    have S := cs_next S k5
    clear k5 bc
    have bc := S.out.box.cell
    go_wp2_with fail
    refine (CW.out _).mono ?_
    rintro e1 w5 ⟨rfl, k5⟩
    have S := cs_next S k5
    clear k5 bc
    have bc := S.out.box.cell
    go_wp2_with fail
    go_ret
    exact ⟨rfl, S.out.bel⟩
  · have v := (isF_iff.1 hf).1
    have HS := Lib.hid (sums_of v sh hi)
    have HWN := Lib.hid (mb_of v sh i hi).wn
    have CM := Lib.hid (fun w' (h : c.Ok w') => May_any c w' true h (Lib.hid hq))
    obtain ⟨b, off, ea, hlt, g0, g1⟩ := mode_cells ok i hi
    obtain ⟨M, hM⟩ : ∃ M, c.m i = M := ⟨_, rfl⟩
    have CLK := Lib.hid (fun (k u : Nat) (v : Int) (hk : k < c.pn) (hu : Hid (cntP M (k : Int) M.wn = u)) (hv : Hid (lenP M (k : Int) M.wn = v)) w' (h : c.Ok w') => Load_any c (i : Int) (k : Int) (u : Int) v 0 w' h sh (Lib.hid (by rw [loadP_in hf (by omega) (by omega), hM, hu.out, hv.out])))
    have hL := freeP_in hf
    rw [hM] at hL HS HWN g0 g1
    obtain ⟨L, hLL⟩ : ∃ L, M.fr - sumL M M.wn = L := ⟨_, rfl⟩
    rw [hLL] at hL
    have l0 := HS.out.nn
    rw [hLL] at l0
    have HL := Lib.hid hLL
    have HL0 : Hid (0 ≤ L ∧ L ≤ 1000000000) := Lib.hid ⟨l0, by
      have a := HS.out.all; have b := HS.out.bd c.pn (Nat.le_refl _); have d := HS.out.fr; omega⟩
    have CF := Lib.hid (fun w' (h : c.Ok w') => Free_any c (i : Int) L 0 w' h sh (Lib.hid hL))
    replace ea := Lib.hid ea
    replace hlt := Lib.hid hlt
    have gg := Lib.hid (And.intro g0 g1)
    have p1 : part < 0 ∨ (c.pn : Int) ≤ part ∨ (0 ≤ part ∧ part < (c.pn : Int)) := by omega
    rcases p1 with h1 | h1 | ⟨h1, h2⟩
    · have CL := Lib.hid (fun w' (h : c.Ok w') => Load_any c (i : Int) part 0 0 2 w' h sh (Lib.hid (loadP_out (.inl h1))))
      have HX : Hid (∀ k : Nat, (k : Int) = part → k < c.pn → (cntP M (k : Int) M.wn : Int) = 0 ∧ lenP M (k : Int) M.wn = 0) := Lib.hid (fun k hk hk2 => by omega)
      clear hf hq sh ok hLL hL hM g0 g1 v
      go_wp2_with fail
      refine (CM.out _ (OK.out _ S.out.bel)).mono ?_
      rintro e1 w5 ⟨rfl, k5⟩
      have S := cs_next S k5
      clear k5 bc
      have bc := S.out.box.cell
      go_wp2_with fail
      refine (CL.out _ (OK.out _ S.out.bel)).mono ?_
      rintro e1 w5 ⟨rfl, k5⟩
      have S := cs_next S k5
      clear k5 bc
      have bc := S.out.box.cell
      go_wp2_with fail
      refine (CF.out _ (OK.out _ S.out.bel)).mono ?_
      rintro e1 w5 ⟨rfl, k5⟩
      have S := cs_next S k5
      clear k5 bc
      have bc := S.out.box.cell
      go_wp2_with fail
      clear CM CL CF
      go_loopw [13, 14, 15] (fun s m i wr => ∃ k : Nat, k ≤ c.pn ∧ i = .int .i64 k ∧ s = .int .i64 (L + sL M M.wn k) ∧ m = .int .i64 (sC M M.wn k : Int) ∧ Hid (Cs w wr w.heap.size c)) (fun _ _ i _ => c.pn - (intOf i).toNat)
      case atStart => exact ⟨0, by omega, rfl, by simp [sL], rfl, S⟩
      case round =>
        clear S bc
        obtain ⟨k, hk, rfl, rfl, rfl, S⟩ := hrel
        have bc := S.out.box.cell
        obtain ⟨g1, g2, g3⟩ := HS.out.bd k hk
        obtain ⟨l0, l1⟩ := HL0.out
        have hwn := HWN.out
        have hpn8 := HS.out.pn
        by_cases hl : k < c.pn
        · obtain ⟨g4, g5, g6⟩ := HS.out.bd (k + 1) (by omega)
          obtain ⟨u, hu⟩ : ∃ u, cntP M (k : Int) M.wn = u := ⟨_, rfl⟩
          obtain ⟨v, hv⟩ : ∃ v, lenP M (k : Int) M.wn = v := ⟨_, rfl⟩
          have e1 : sC M M.wn (k + 1) = sC M M.wn k + u := by rw [← hu]; rfl
          have e2 : sL M M.wn (k + 1) = sL M M.wn k + v := by rw [← hv]; rfl
          have EX := HX.out k
          rw [hu, hv] at EX
          have CK := Lib.hid (fun w' (h : c.Ok w') => CLK.out k u v hl (Lib.hid hu) (Lib.hid hv) w' h)
          clear hu hv
          rw [e1] at g4
          rw [e2] at g5 g6
          have E1 := Lib.hid e1
          have E2 := Lib.hid e2
          clear e1 e2
          generalize sC M M.wn k = p0 at *
          generalize sL M M.wn k = p1 at *
          by_cases hp : (k : Int) = part
          · obtain ⟨q1, q2⟩ := EX hp hl
            have t1 : ((u : Int) != 0) = false := by rw [q1]; simp
            have t2 : (v != 0) = false := by rw [q2]; simp
            clear q1 q2
            have hp' : ((k : Int) == part) = true := by simpa using hp
            clear hp EX
            go_wp2_with fail
            refine (CK.out _ (OK.out _ S.out.bel)).mono ?_
            rintro e1 w5 ⟨rfl, k5⟩
            have S := cs_next S k5
            clear k5 bc
            have bc := S.out.box.cell
            go_wp2_with fail
            go_roundw
            case rel => exact ⟨k + 1, by omega, by go_num, by rw [E2.out]; go_num, by rw [E1.out]; go_num, S⟩
            case measure => simp [intOf]; omega
          · have hp' : ((k : Int) == part) = false := by simpa using hp
            clear hp EX
            go_wp2_with fail
            refine (CK.out _ (OK.out _ S.out.bel)).mono ?_
            rintro e1 w5 ⟨rfl, k5⟩
            have S := cs_next S k5
            clear k5 bc
            have bc := S.out.box.cell
            go_wp2_with fail
            go_roundw
            case rel => exact ⟨k + 1, by omega, by go_num, by rw [E2.out]; go_num, by rw [E1.out]; go_num, S⟩
            case measure => simp [intOf]; omega
        · obtain rfl : k = c.pn := by omega
          have e1 := HS.out.cnt
          have e2 : L + sL M M.wn c.pn = M.fr := by rw [← HL.out]; exact HS.out.all
          clear g1 g2 g3
          rw [e1, e2]
          clear e1 e2 bc
          have bc : ∀ j, wr.cell? ⟨w.heap.size, j, none⟩ = (#[.slice c.pa c.pn c.pc, .slice c.ca c.cn c.cc, .slice (some ⟨b, off, none⟩) c.mn c.mc, .slice c.w.la c.w.ln c.w.lc, .slice c.w.na c.w.nn c.w.nc, .int .i64 c.w.sw, .int .i64 c.w.id, .int .i64 c.w.ch, .int .i64 c.w.qu, .int .i64 c.w.sl, .int .i64 c.w.pp, .slice c.da c.dn c.dc, .slice c.ua c.un c.uc] : Array Value)[j]? := fun j => (S.out.box.cell j).trans (by rw [ea.out])
          have q0 := keep S.out.bel gg.out.1 hlt.out
          have q1 := keep S.out.bel gg.out.2 hlt.out
          go_wp2_with fail
          refine (CW.out _).mono ?_
          rintro e1 w7 ⟨rfl, k7⟩
          go_wp2_with fail
          go_ret
          exact ⟨rfl, below_next S.out.bel k7⟩
    · have CL := Lib.hid (fun w' (h : c.Ok w') => Load_any c (i : Int) part 0 0 2 w' h sh (Lib.hid (loadP_out (.inr h1))))
      clear hf hq sh ok hLL hL hM g0 g1 v
      have HX : Hid (∀ k : Nat, (k : Int) = part → k < c.pn → (cntP M (k : Int) M.wn : Int) = 0 ∧ lenP M (k : Int) M.wn = 0) := Lib.hid (fun k hk hk2 => by omega)
      go_wp2_with fail
      refine (CM.out _ (OK.out _ S.out.bel)).mono ?_
      rintro e1 w5 ⟨rfl, k5⟩
      have S := cs_next S k5
      clear k5 bc
      have bc := S.out.box.cell
      go_wp2_with fail
      refine (CL.out _ (OK.out _ S.out.bel)).mono ?_
      rintro e1 w5 ⟨rfl, k5⟩
      have S := cs_next S k5
      clear k5 bc
      have bc := S.out.box.cell
      go_wp2_with fail
      refine (CF.out _ (OK.out _ S.out.bel)).mono ?_
      rintro e1 w5 ⟨rfl, k5⟩
      have S := cs_next S k5
      clear k5 bc
      have bc := S.out.box.cell
      go_wp2_with fail
      clear CM CL CF
      go_loopw [13, 14, 15] (fun s m i wr => ∃ k : Nat, k ≤ c.pn ∧ i = .int .i64 k ∧ s = .int .i64 (L + sL M M.wn k) ∧ m = .int .i64 (sC M M.wn k : Int) ∧ Hid (Cs w wr w.heap.size c)) (fun _ _ i _ => c.pn - (intOf i).toNat)
      case atStart => exact ⟨0, by omega, rfl, by simp [sL], rfl, S⟩
      case round =>
        clear S bc
        obtain ⟨k, hk, rfl, rfl, rfl, S⟩ := hrel
        have bc := S.out.box.cell
        obtain ⟨g1, g2, g3⟩ := HS.out.bd k hk
        obtain ⟨l0, l1⟩ := HL0.out
        have hwn := HWN.out
        have hpn8 := HS.out.pn
        by_cases hl : k < c.pn
        · obtain ⟨g4, g5, g6⟩ := HS.out.bd (k + 1) (by omega)
          obtain ⟨u, hu⟩ : ∃ u, cntP M (k : Int) M.wn = u := ⟨_, rfl⟩
          obtain ⟨v, hv⟩ : ∃ v, lenP M (k : Int) M.wn = v := ⟨_, rfl⟩
          have e1 : sC M M.wn (k + 1) = sC M M.wn k + u := by rw [← hu]; rfl
          have e2 : sL M M.wn (k + 1) = sL M M.wn k + v := by rw [← hv]; rfl
          have EX := HX.out k
          rw [hu, hv] at EX
          have CK := Lib.hid (fun w' (h : c.Ok w') => CLK.out k u v hl (Lib.hid hu) (Lib.hid hv) w' h)
          clear hu hv
          rw [e1] at g4
          rw [e2] at g5 g6
          have E1 := Lib.hid e1
          have E2 := Lib.hid e2
          clear e1 e2
          generalize sC M M.wn k = p0 at *
          generalize sL M M.wn k = p1 at *
          by_cases hp : (k : Int) = part
          · obtain ⟨q1, q2⟩ := EX hp hl
            have t1 : ((u : Int) != 0) = false := by rw [q1]; simp
            have t2 : (v != 0) = false := by rw [q2]; simp
            clear q1 q2
            have hp' : ((k : Int) == part) = true := by simpa using hp
            clear hp EX
            go_wp2_with fail
            refine (CK.out _ (OK.out _ S.out.bel)).mono ?_
            rintro e1 w5 ⟨rfl, k5⟩
            have S := cs_next S k5
            clear k5 bc
            have bc := S.out.box.cell
            go_wp2_with fail
            go_roundw
            case rel => exact ⟨k + 1, by omega, by go_num, by rw [E2.out]; go_num, by rw [E1.out]; go_num, S⟩
            case measure => simp [intOf]; omega
          · have hp' : ((k : Int) == part) = false := by simpa using hp
            clear hp EX
            go_wp2_with fail
            refine (CK.out _ (OK.out _ S.out.bel)).mono ?_
            rintro e1 w5 ⟨rfl, k5⟩
            have S := cs_next S k5
            clear k5 bc
            have bc := S.out.box.cell
            go_wp2_with fail
            go_roundw
            case rel => exact ⟨k + 1, by omega, by go_num, by rw [E2.out]; go_num, by rw [E1.out]; go_num, S⟩
            case measure => simp [intOf]; omega
        · obtain rfl : k = c.pn := by omega
          have e1 := HS.out.cnt
          have e2 : L + sL M M.wn c.pn = M.fr := by rw [← HL.out]; exact HS.out.all
          clear g1 g2 g3
          rw [e1, e2]
          clear e1 e2 bc
          have bc : ∀ j, wr.cell? ⟨w.heap.size, j, none⟩ = (#[.slice c.pa c.pn c.pc, .slice c.ca c.cn c.cc, .slice (some ⟨b, off, none⟩) c.mn c.mc, .slice c.w.la c.w.ln c.w.lc, .slice c.w.na c.w.nn c.w.nc, .int .i64 c.w.sw, .int .i64 c.w.id, .int .i64 c.w.ch, .int .i64 c.w.qu, .int .i64 c.w.sl, .int .i64 c.w.pp, .slice c.da c.dn c.dc, .slice c.ua c.un c.uc] : Array Value)[j]? := fun j => (S.out.box.cell j).trans (by rw [ea.out])
          have q0 := keep S.out.bel gg.out.1 hlt.out
          have q1 := keep S.out.bel gg.out.2 hlt.out
          go_wp2_with fail
          refine (CW.out _).mono ?_
          rintro e1 w7 ⟨rfl, k7⟩
          go_wp2_with fail
          go_ret
          exact ⟨rfl, below_next S.out.bel k7⟩
    · obtain ⟨X, hX⟩ : ∃ X, cntP M part M.wn = X := ⟨_, rfl⟩
      obtain ⟨Y, hY⟩ : ∃ Y, lenP M part M.wn = Y := ⟨_, rfl⟩
      have hl := loadP_in hf h1 h2
      rw [hM, hX, hY] at hl
      have CL := Lib.hid (fun w' (h : c.Ok w') => Load_any c (i : Int) part (X : Int) Y 0 w' h sh (Lib.hid hl))
      have HX : Hid (∀ k : Nat, (k : Int) = part → k < c.pn → (cntP M (k : Int) M.wn : Int) = (X : Int) ∧ lenP M (k : Int) M.wn = Y) := Lib.hid (fun k hk hk2 => by rw [hk, hX, hY]; exact ⟨rfl, rfl⟩)
      clear hf hq sh ok hLL hL hM g0 g1 v hX hY hl
      go_wp2_with fail
      refine (CM.out _ (OK.out _ S.out.bel)).mono ?_
      rintro e1 w5 ⟨rfl, k5⟩
      have S := cs_next S k5
      clear k5 bc
      have bc := S.out.box.cell
      go_wp2_with fail
      refine (CL.out _ (OK.out _ S.out.bel)).mono ?_
      rintro e1 w5 ⟨rfl, k5⟩
      have S := cs_next S k5
      clear k5 bc
      have bc := S.out.box.cell
      go_wp2_with fail
      refine (CF.out _ (OK.out _ S.out.bel)).mono ?_
      rintro e1 w5 ⟨rfl, k5⟩
      have S := cs_next S k5
      clear k5 bc
      have bc := S.out.box.cell
      go_wp2_with fail
      clear CM CL CF
      go_loopw [13, 14, 15] (fun s m i wr => ∃ k : Nat, k ≤ c.pn ∧ i = .int .i64 k ∧ s = .int .i64 (L + sL M M.wn k) ∧ m = .int .i64 (sC M M.wn k : Int) ∧ Hid (Cs w wr w.heap.size c)) (fun _ _ i _ => c.pn - (intOf i).toNat)
      case atStart => exact ⟨0, by omega, rfl, by simp [sL], rfl, S⟩
      case round =>
        clear S bc
        obtain ⟨k, hk, rfl, rfl, rfl, S⟩ := hrel
        have bc := S.out.box.cell
        obtain ⟨g1, g2, g3⟩ := HS.out.bd k hk
        obtain ⟨l0, l1⟩ := HL0.out
        have hwn := HWN.out
        have hpn8 := HS.out.pn
        by_cases hl : k < c.pn
        · obtain ⟨g4, g5, g6⟩ := HS.out.bd (k + 1) (by omega)
          obtain ⟨u, hu⟩ : ∃ u, cntP M (k : Int) M.wn = u := ⟨_, rfl⟩
          obtain ⟨v, hv⟩ : ∃ v, lenP M (k : Int) M.wn = v := ⟨_, rfl⟩
          have e1 : sC M M.wn (k + 1) = sC M M.wn k + u := by rw [← hu]; rfl
          have e2 : sL M M.wn (k + 1) = sL M M.wn k + v := by rw [← hv]; rfl
          have EX := HX.out k
          rw [hu, hv] at EX
          have CK := Lib.hid (fun w' (h : c.Ok w') => CLK.out k u v hl (Lib.hid hu) (Lib.hid hv) w' h)
          clear hu hv
          rw [e1] at g4
          rw [e2] at g5 g6
          have E1 := Lib.hid e1
          have E2 := Lib.hid e2
          clear e1 e2
          generalize sC M M.wn k = p0 at *
          generalize sL M M.wn k = p1 at *
          by_cases hp : (k : Int) = part
          · obtain ⟨q1, q2⟩ := EX hp hl
            have t1 : ((u : Int) != (X : Int)) = false := by rw [q1]; simp
            have t2 : (v != Y) = false := by rw [q2]; simp
            clear q1 q2
            have hp' : ((k : Int) == part) = true := by simpa using hp
            clear hp EX
            go_wp2_with fail
            refine (CK.out _ (OK.out _ S.out.bel)).mono ?_
            rintro e1 w5 ⟨rfl, k5⟩
            have S := cs_next S k5
            clear k5 bc
            have bc := S.out.box.cell
            go_wp2_with fail
            go_roundw
            case rel => exact ⟨k + 1, by omega, by go_num, by rw [E2.out]; go_num, by rw [E1.out]; go_num, S⟩
            case measure => simp [intOf]; omega
          · have hp' : ((k : Int) == part) = false := by simpa using hp
            clear hp EX
            go_wp2_with fail
            refine (CK.out _ (OK.out _ S.out.bel)).mono ?_
            rintro e1 w5 ⟨rfl, k5⟩
            have S := cs_next S k5
            clear k5 bc
            have bc := S.out.box.cell
            go_wp2_with fail
            go_roundw
            case rel => exact ⟨k + 1, by omega, by go_num, by rw [E2.out]; go_num, by rw [E1.out]; go_num, S⟩
            case measure => simp [intOf]; omega
        · obtain rfl : k = c.pn := by omega
          have e1 := HS.out.cnt
          have e2 : L + sL M M.wn c.pn = M.fr := by rw [← HL.out]; exact HS.out.all
          clear g1 g2 g3
          rw [e1, e2]
          clear e1 e2 bc
          have bc : ∀ j, wr.cell? ⟨w.heap.size, j, none⟩ = (#[.slice c.pa c.pn c.pc, .slice c.ca c.cn c.cc, .slice (some ⟨b, off, none⟩) c.mn c.mc, .slice c.w.la c.w.ln c.w.lc, .slice c.w.na c.w.nn c.w.nc, .int .i64 c.w.sw, .int .i64 c.w.id, .int .i64 c.w.ch, .int .i64 c.w.qu, .int .i64 c.w.sl, .int .i64 c.w.pp, .slice c.da c.dn c.dc, .slice c.ua c.un c.uc] : Array Value)[j]? := fun j => (S.out.box.cell j).trans (by rw [ea.out])
          have q0 := keep S.out.bel gg.out.1 hlt.out
          have q1 := keep S.out.bel gg.out.2 hlt.out
          go_wp2_with fail
          refine (CW.out _).mono ?_
          rintro e1 w7 ⟨rfl, k7⟩
          go_wp2_with fail
          go_ret
          exact ⟨rfl, below_next S.out.bel k7⟩
end Go.Proofs.YtlafeijkpnpdeaaGreat.So3

/- SlotsSums: the law holds, for every input. -/
namespace Go.Proofs.YtlafeijkpnpdeaaGreat.slotsSums
open Go.ChangeShapes Go.WideShapes Go.ChangeAt Go.RowKit
set_option linter.unusedVariables false

theorem own : ownKnob Tryz.prog.godebug = none := by kernel_rfl

set_option maxRecDepth 100000 in
theorem lifted (os : Os) (started : os.Started) (H : Type) (enc : TypeId × Value → H) :
    ReturnsInHanded {} Tryz.checked os 6 .any (Rows.slotsSumsSpec.pre6 enc Tryz.prog Tryz.f6 Rows.slotsSumsRow.domain false) (Rows.slotsSumsSpec.post enc Tryz.prog Tryz.f6 false true false false) := by
  refine returnsInHanded_of_change (C := Tryz.checked) own started (by kernel_rfl) Tryz.func6
    (ChangeSpec.witness6 (enc := enc) (C := Tryz.checked) false ⟨#[], #[.agg #[.slice none 0 0, .slice none 0 0, .slice none 0 0, .slice none 0 0, .slice none 0 0, .int .i64 0, .int .i64 0, .int .i64 0, .int .i64 0, .int .i64 0, .int .i64 0, .slice none 0 0, .slice none 0 0], .int .i64 0, .int .i64 0], []⟩ 8 (by kernel_rfl) (by kernel_rfl) (by kernel_rfl) (by kernel_rfl)) ?_
  intro W base args ds gs before hval0 hW hcnd _
  have hval : ∀ (j : Nat) t v, Tryz.f6.params[j]? = some t → args[j]? = some v → Value.okWide Tryz.prog W .any base t v := hval0
  have hW' := hW
  obtain ⟨p, q, hA0, hV, rfl, hfz, hnd⟩ := hW
  have hA : DataW.TrodAll enc Tryz.prog W 0 (fun _ => true) true Tryz.f6.params.toList args.toList ds p := hA0
  rw [Tryz.params6] at hA hval
  obtain ⟨v0, vs0, d0, ds0, p0, q0, hargs, rfl, rfl, h0, r0⟩ := trodAll_cons hA
  obtain ⟨v1, vs1, d1, ds1, p1, q1, rfl, rfl, rfl, h1, r1⟩ := trodAll_cons r0
  obtain ⟨v2, vs2, d2, ds2, p2, q2, rfl, rfl, rfl, h2, r2⟩ := trodAll_cons r1
  obtain ⟨rfl, rfl, rfl⟩ := trodAll_nil r2
  obtain rfl : args = #[v0, v1, v2] := by cases args; simp_all
  obtain ⟨rfl, rfl⟩ := trodVars_none hV
  obtain ⟨cs0, rfl, hsz0⟩ := okWide_struct Tryz.underlying33 (hval 0 33 v0 rfl rfl)
  obtain ⟨fuel0, hf0⟩ := h0
  obtain ⟨c0, e0, ok0⟩ := Conf2.conf_in hf0
  obtain rfl := Conf.agg_list e0
  obtain ⟨a1, rfl, rfl, rfl, w1⟩ := open_int Tryz.underlying3 (hval 1 3 v1 rfl rfl) h1
  obtain ⟨a2, rfl, rfl, rfl, w2⟩ := open_int Tryz.underlying3 (hval 2 3 v2 rfl rfl) h2
  clear hA0 hval0
  refine (So3.sums_law c0 a1 a2 W ok0 (Lift.bd64 w1) (Lift.bd64 w2)).mono fun e W' ⟨he, hg⟩ => ?_
  subst he
  exact ⟨_, rfl, Lift.law_post (by kernel_rfl) (by kernel_rfl) Tryz.underlying4 rfl rfl hW' rfl rfl rfl hg⟩

theorem over : Rows.slotsSumsRow.holds Tryz.pinned (OpenSpec.ofChange Rows.slotsSumsSpec) :=
  OpenClaim.holds_of_wide 6 Tryz.f6 rfl rfl rfl rfl rfl rfl rfl ⟨rfl, rfl, rfl, rfl, rfl⟩ rfl rfl rfl rfl rfl (by kernel_rfl) Tryz.func6 (by kernel_rfl)
    (of_decide_eq_true (by kernel_rfl)) (by unfold Func.isWrapper; first | (rw [if_pos (by decide +kernel)]; kernel_rfl) | (rw [if_neg (by decide +kernel)]; exact ⟨rfl, rfl⟩))
    (fun os started H enc _ => lifted os started H enc)

theorem proved : Rows.SlotsSumsSaid :=
  over
end Go.Proofs.YtlafeijkpnpdeaaGreat.slotsSums

/- The laws LedgerPlays and LedgerFills. -/
import Derived.Test.YteikliciijfmmaaLedW
namespace Go.Proofs.Yteikliciijfmmaa.LedX
open Go.RowKit Base Kit WideA WideB Plain FitA FitB FitC Conf Conf2 Alt RefA LedA LedB LedC LedD Short FitR LedN LedE LedR LedS LedT LedW
set_option linter.unusedVariables false
set_option linter.unusedSimpArgs false

theorem cst_drew {w0 w : World} {c : ConfC} (h : Hid (Cst w0 w c)) : Hid (Cst w0 w.drew c) := cst_next h ((Below.refl _ _).drew)
/-- the two ledgers, and the configuration's block -/
structure Lw (w0 w : World) (c : ConfC) (l : Nat) (v : Value) (a : Nat → Nat) (r : Nat) (V : Value) (cy : Nat → Int) : Prop where
  bo : Hid (Bo w0 w c l v a r V cy cy)
  box : Box w w0.heap.size #[.slice c.pa c.pn c.pc, .slice c.ca c.cn c.cc, .slice c.ma c.mn c.mc, .slice c.w.la c.w.ln c.w.lc, .slice c.w.na c.w.nn c.w.nc, .int .i64 c.w.sw, .int .i64 c.w.id, .int .i64 c.w.ch, .int .i64 c.w.qu, .int .i64 c.w.sl, .int .i64 c.w.pp, .slice c.da c.dn c.dc, .slice c.ua c.un c.uc] 45
theorem lw_next {w0 w w1 : World} {c : ConfC} {l : Nat} {v : Value} {a : Nat → Nat} {r : Nat} {V : Value} {cy : Nat → Int} (h : Hid (Lw w0 w c l v a r V cy)) (k : Below w.heap.size w w1) : Hid (Lw w0 w1 c l v a r V cy) := Lib.hid ⟨bo_next h.out.bo k, h.out.box.next k⟩
theorem lw_drew {w0 w : World} {c : ConfC} {l : Nat} {v : Value} {a : Nat → Nat} {r : Nat} {V : Value} {cy : Nat → Int} (h : Hid (Lw w0 w c l v a r V cy)) : Hid (Lw w0 w.drew c l v a r V cy) := lw_next h ((Below.refl _ _).drew)
theorem lw_bel {w0 w : World} {c : ConfC} {l : Nat} {v : Value} {a : Nat → Nat} {r : Nat} {V : Value} {cy : Nat → Int} (h : Hid (Lw w0 w c l v a r V cy)) : Below w0.heap.size w0 w := h.out.bo.out.ls.out.bel
theorem lw_done {w0 w : World} {c : ConfC} {l : Nat} {v : Value} {a : Nat → Nat} {r : Nat} {V : Value} {cy : Nat → Int} (h : Hid (Lw w0 w c l v a r V cy)) (d p x : Int) (hp : I64 p) (hx : I64 x) :
    Calls Try.prog 45 #[.pointer (some ⟨l, 0, none⟩), .pointer (some ⟨r, 0, none⟩), .agg #[.int .i64 d, .int .i64 p, .int .i64 x]] w fun e w' => ∃ V' cy', e = .returned (.bool true) ∧ Hid (Lw w0 w' c l v a r V' cy') :=
  (done_any h.out.bo d p x hp hx).mono fun e w' ⟨V', cy', h1, h2, h3⟩ => ⟨V', cy', h1, Lib.hid ⟨h2, bo_box h.out.bo h3 h.out.box (by decide) (by decide)⟩⟩
theorem lw_like {w0 w : World} {c : ConfC} {l : Nat} {v : Value} {a : Nat → Nat} {r : Nat} {V : Value} {cy : Nat → Int} (h : Hid (Lw w0 w c l v a r V cy)) :
    Calls Try.prog 48 #[.pointer (some ⟨l, 0, none⟩), .pointer (some ⟨r, 0, none⟩)] w fun e w' => e = .returned (.bool true) ∧ Hid (Lw w0 w' c l v a r V cy) :=
  (like_any h.out.bo).mono fun e w' ⟨h1, h2⟩ => ⟨h1, lw_next h h2⟩
theorem md_zero (b c : Int) : (md 0 b c true).1 = 0 := by
  unfold md
  split
  · rfl
  · rename_i h3
    have e : mdQ 0 b c true = 0 := by
      unfold mdQ
      rw [if_pos rfl, Int.zero_mul]
      exact Int.ediv_eq_zero_of_lt (by omega) (by omega)
    rw [e]; simp
theorem cst_zero (W : PowC) : (cst W 0).1 = 0 := by
  unfold cst cs
  split
  · rfl
  · split
    · rfl
    · exact md_zero _ _
set_option maxRecDepth 100000 in
set_option maxHeartbeats 4000000 in
theorem plays_law (c : ConfC) (aa : Option Addr) (an ac : Nat) (f : Nat → Nat → Int) (w : World) (ok : c.Ok w) (h : Hid (Open.RowsIn w aa an 3 f)) :
    Calls Try.prog 11 #[.agg #[.slice c.pa c.pn c.pc, .slice c.ca c.cn c.cc, .slice c.ma c.mn c.mc, .slice c.w.la c.w.ln c.w.lc, .slice c.w.na c.w.nn c.w.nc, .int .i64 c.w.sw, .int .i64 c.w.id, .int .i64 c.w.ch, .int .i64 c.w.qu, .int .i64 c.w.sl, .int .i64 c.w.pp, .slice c.da c.dn c.dc, .slice c.ua c.un c.uc], .slice aa an ac] w fun e w' => e = .returned (.bool true) ∧ Below w.heap.size w w' := by
  have S := cst_in w c
  have OK := Lib.hid ok
  have hpn := ok.parts.out.1
  clear ok
  go_enter Try.func11, Try.ntmps11
  go_wp2_with fail
  generalize w.alloc (.cells #[.slice c.pa c.pn c.pc, .slice c.ca c.cn c.cc, .slice c.ma c.mn c.mc, .slice c.w.la c.w.ln c.w.lc, .slice c.w.na c.w.nn c.w.nc, .int .i64 c.w.sw, .int .i64 c.w.id, .int .i64 c.w.ch, .int .i64 c.w.qu, .int .i64 c.w.sl, .int .i64 c.w.pp, .slice c.da c.dn c.dc, .slice c.ua c.un c.uc] 45) = w1 at S ⊢
  refine (short_any c w1 (ok_in S OK.out)).mono ?_
  rintro e1 w2 ⟨b, hb, rfl, hb2⟩
  have S := cst_next S hb2
  clear hb2
  cases b
  · go_wp2_with fail
    refine (LedW.works_any _).mono ?_
    rintro e1 w3 ⟨rfl, hb3⟩
    go_wp2_with fail
    go_ret
    exact ⟨rfl, below_next S.out.bel hb3⟩
  have hs : Sh c := by simpa using hb
  have hn : c.pn ≤ 100 := hs.1.1
  have HS := Lib.hid hs
  clear hb hs
  go_wp2_with fail
  refine (LedW.works_any _).mono ?_
  rintro e1 w3 ⟨rfl, hb3⟩
  have S := cst_next S hb3
  clear hb3
  go_wp2_with fail
  have SD := cst_drew S
  have bd := SD.out.box.cell
  clear S
  go_region_held3 (fun w' => ∀ i, w'.cell? ⟨w.heap.size, i, none⟩ = (#[.slice c.pa c.pn c.pc, .slice c.ca c.cn c.cc, .slice c.ma c.mn c.mc, .slice c.w.la c.w.ln c.w.lc, .slice c.w.na c.w.nn c.w.nc, .int .i64 c.w.sw, .int .i64 c.w.id, .int .i64 c.w.ch, .int .i64 c.w.qu, .int .i64 c.w.sl, .int .i64 c.w.pp, .slice c.da c.dn c.dc, .slice c.ua c.un c.uc] : Array Value)[i]?)
    (first
      | exact bd
      | exact r5)
    (first
      | (go_at_call 28; refine (newL_any w _ c (Lib.hid SD.out.bel) OK HS).mono ?_; rintro e1 w5 ⟨l, v, a, rfl, LL, hb5⟩; (try have RR := rs_next RR hb5); have S5 := cst_next SD hb5; clear SD hb5; have SD := S5; clear S5; have r5 := SD.out.box.cell)
      | (go_at_call 44; refine (newr_any (w0 := w) _ OK (Lib.hid SD.out.bel) hn).mono ?_; rintro e1 w5 ⟨r, V, rfl, hb5, RR⟩; (try have LL := ls_next LL hb5); have S5 := cst_next SD hb5; clear SD hb5; have SD := S5; clear S5; have r5 := SD.out.box.cell))
  all_goals
    have HL : Hid (Lw w _ c l v a r V (fun _ => 0)) := Lib.hid ⟨Lib.hid ⟨LL, RR⟩, SD.out.box⟩
    clear bd r5 LL RR SD
    go_wp2_with fail
    go_loopw [7] (fun i wr => ∃ (k : Nat) (V : Value) (cy : Nat → Int), k ≤ an ∧ k ≤ 40 ∧ i = .int .i64 k ∧ Hid (Lw w wr c l v a r V cy)) (fun i _ => 40 - (intOf i).toNat)
    case atStart => exact ⟨0, _, _, by omega, by omega, rfl, HL⟩
    case round =>
      clear HL
      obtain ⟨k, V, cy, hk, hk4, rfl, HL⟩ := hrel
      by_cases hlt : k < an
      · by_cases h4 : k < 40
        · obtain ⟨b, off, rfl, hbl, c0, c1, c2, i0, i1, i2⟩ := rows_at3 h k hlt
          have c0 := keep (lw_bel HL) c0 hbl
          have c1 := keep (lw_bel HL) c1 hbl
          have c2 := keep (lw_bel HL) c2 hbl
          generalize f k 0 = d at *
          generalize f k 1 = p at *
          generalize f k 2 = x at *
          go_wp2_with fail
          refine (lw_done HL d p x i1 i2).mono ?_
          rintro e1 w6 ⟨V6, cy6, rfl, H6⟩
          go_wp2_with fail
          refine (lw_like H6).mono ?_
          rintro e1 w7 ⟨rfl, H7⟩
          go_wp2_with fail
          go_roundw
          case rel => exact ⟨k + 1, _, _, by omega, by omega, by go_num, H7⟩
          case measure => simp [intOf]; omega
        · obtain rfl : k = 40 := by omega
          go_wp2_with fail
          refine (lw_like HL).mono ?_
          rintro e1 w7 ⟨rfl, H7⟩
          go_wp2_with fail
          go_ret
          exact ⟨rfl, lw_bel H7⟩
      · obtain rfl : k = an := by omega
        go_wp2_with fail
        refine (lw_like HL).mono ?_
        rintro e1 w7 ⟨rfl, H7⟩
        go_wp2_with fail
        go_ret
        exact ⟨rfl, lw_bel H7⟩

set_option maxRecDepth 100000 in
set_option maxHeartbeats 4000000 in
theorem fills_law (c : ConfC) (aa : Option Addr) (an ac : Nat) (f : Nat → Nat → Int) (w : World) (ok : c.Ok w) (h : Hid (Open.RowsIn w aa an 3 f)) :
    Calls Try.prog 10 #[.agg #[.slice c.pa c.pn c.pc, .slice c.ca c.cn c.cc, .slice c.ma c.mn c.mc, .slice c.w.la c.w.ln c.w.lc, .slice c.w.na c.w.nn c.w.nc, .int .i64 c.w.sw, .int .i64 c.w.id, .int .i64 c.w.ch, .int .i64 c.w.qu, .int .i64 c.w.sl, .int .i64 c.w.pp, .slice c.da c.dn c.dc, .slice c.ua c.un c.uc], .slice aa an ac] w fun e w' => e = .returned (.bool true) ∧ Below w.heap.size w w' := by
  have S := cst_in w c
  have OK := Lib.hid ok
  have hpn := ok.parts.out.1
  clear ok
  go_enter Try.func10, Try.ntmps10
  go_wp2_with fail
  generalize w.alloc (.cells #[.slice c.pa c.pn c.pc, .slice c.ca c.cn c.cc, .slice c.ma c.mn c.mc, .slice c.w.la c.w.ln c.w.lc, .slice c.w.na c.w.nn c.w.nc, .int .i64 c.w.sw, .int .i64 c.w.id, .int .i64 c.w.ch, .int .i64 c.w.qu, .int .i64 c.w.sl, .int .i64 c.w.pp, .slice c.da c.dn c.dc, .slice c.ua c.un c.uc] 45) = w1 at S ⊢
  refine (short_any c w1 (ok_in S OK.out)).mono ?_
  rintro e1 w2 ⟨b, hb, rfl, hb2⟩
  have S := cst_next S hb2
  clear hb2
  cases b
  · go_wp2_with fail
    refine (LedW.works_any _).mono ?_
    rintro e1 w3 ⟨rfl, hb3⟩
    go_wp2_with fail
    go_ret
    exact ⟨rfl, below_next S.out.bel hb3⟩
  have hs : Sh c := by simpa using hb
  have hn : c.pn ≤ 100 := hs.1.1
  have HS := Lib.hid hs
  clear hb hs
  go_wp2_with fail
  refine (LedW.works_any _).mono ?_
  rintro e1 w3 ⟨rfl, hb3⟩
  have S := cst_next S hb3
  clear hb3
  go_wp2_with fail
  have SD := cst_drew S
  have bd := SD.out.box.cell
  clear S
  go_region_held3 (fun w' => ∀ i, w'.cell? ⟨w.heap.size, i, none⟩ = (#[.slice c.pa c.pn c.pc, .slice c.ca c.cn c.cc, .slice c.ma c.mn c.mc, .slice c.w.la c.w.ln c.w.lc, .slice c.w.na c.w.nn c.w.nc, .int .i64 c.w.sw, .int .i64 c.w.id, .int .i64 c.w.ch, .int .i64 c.w.qu, .int .i64 c.w.sl, .int .i64 c.w.pp, .slice c.da c.dn c.dc, .slice c.ua c.un c.uc] : Array Value)[i]?)
    (first
      | exact bd
      | exact r5)
    (first
      | (go_at_call 28; refine (newL_any w _ c (Lib.hid SD.out.bel) OK HS).mono ?_; rintro e1 w5 ⟨l, v, a, rfl, LL, hb5⟩; (try have RR := rs_next RR hb5); have S5 := cst_next SD hb5; clear SD hb5; have SD := S5; clear S5; have r5 := SD.out.box.cell)
      | (go_at_call 44; refine (newr_any (w0 := w) _ OK (Lib.hid SD.out.bel) hn).mono ?_; rintro e1 w5 ⟨r, V, rfl, hb5, RR⟩; (try have LL := ls_next LL hb5); have S5 := cst_next SD hb5; clear SD hb5; have SD := S5; clear S5; have r5 := SD.out.box.cell))
  all_goals
    have HL : Hid (Lw w _ c l v a r V (fun _ => 0)) := Lib.hid ⟨Lib.hid ⟨LL, RR⟩, SD.out.box⟩
    clear bd r5 LL RR SD
    go_wp2_with fail
    go_loopw [7] (fun i wr => ∃ (k : Nat) (V : Value) (cy : Nat → Int), k ≤ an ∧ k ≤ 40 ∧ i = .int .i64 k ∧ Hid (Lw w wr c l v a r V cy)) (fun i _ => 40 - (intOf i).toNat)
    case atStart => exact ⟨0, _, _, by omega, by omega, rfl, HL⟩
    case round =>
      clear HL
      obtain ⟨k, V, cy, hk, hk4, rfl, HL⟩ := hrel
      by_cases hlt : k < an ∧ k < 40
      · obtain ⟨hlt, h4⟩ := hlt
        obtain ⟨b, off, rfl, hbl, c0, c1, c2, i0, i1, i2⟩ := rows_at3 h k hlt
        have c0 := keep (lw_bel HL) c0 hbl
        have c1 := keep (lw_bel HL) c1 hbl
        have c2 := keep (lw_bel HL) c2 hbl
        generalize f k 0 = d at *
        generalize f k 1 = p at *
        generalize f k 2 = x at *
        go_wp2_with fail
        refine (lw_done HL d p x i1 i2).mono ?_
        rintro e1 w6 ⟨V6, cy6, rfl, H6⟩
        go_wp2_with fail
        go_roundw
        case rel => exact ⟨k + 1, _, _, by omega, by omega, by go_num, H6⟩
        case measure => simp [intOf]; omega
      · have ways : (k < an ∧ k = 40) ∨ k = an := by omega
        clear hlt
        rcases ways with ⟨hlt, rfl⟩ | rfl
        all_goals
          go_wp2_with fail
          refine (bo_refillL HL.out.bo).mono ?_
          rintro e1 w7 ⟨⟨v7, rfl⟩, H7, k7⟩
          have B7 := Lib.hid (bo_box HL.out.bo k7 HL.out.box (by decide) (by decide))
          clear k7 HL
          obtain ⟨pa, hpa⟩ : ∃ x, c.pa = x := ⟨_, rfl⟩
          have bc := B7.out.cell
          rw [hpa] at bc
          have HPA := Lib.hid hpa
          clear hpa
          go_wp2_with fail
          go_loopw [8] (fun i wr => ∃ k : Nat, k ≤ c.pn ∧ i = .int .i64 k ∧ Hid (Below w7.heap.size w7 wr)) (fun i _ => c.pn - (intOf i).toNat)
          case atStart => exact ⟨0, by omega, rfl, Lib.hid (Below.refl _ _)⟩
          case round =>
            clear bc
            obtain ⟨k, hk, rfl, HC⟩ := hrel
            have HR := bo_next H7 HC.out
            have BR := Lib.hid (B7.out.next HC.out)
            have bc := BR.out.cell
            rw [HPA.out] at bc
            by_cases hlt : k < c.pn
            · obtain ⟨pb, po, ep, lp, bu, bi⟩ := rs_bud (bo_drew HR).out.rs k hlt
              rw [HPA.out] at ep
              subst ep
              have bd : ∀ i, wr.drew.cell? ⟨w.heap.size, i, none⟩ = (#[.slice (some ⟨pb, po, none⟩) c.pn c.pc, .slice c.ca c.cn c.cc, .slice c.ma c.mn c.mc, .slice c.w.la c.w.ln c.w.lc, .slice c.w.na c.w.nn c.w.nc, .int .i64 c.w.sw, .int .i64 c.w.id, .int .i64 c.w.ch, .int .i64 c.w.qu, .int .i64 c.w.sl, .int .i64 c.w.pp, .slice c.da c.dn c.dc, .slice c.ua c.un c.uc] : Array Value)[i]? := bc
              have KL := Lib.hid BR.out.drew.lt
              have HD := bo_drew HR
              have U : Hid (usedP c.w c.pn (fun _ => 0) (k : Int) = 0) := Lib.hid (by unfold usedP; rw [if_pos ⟨by omega, by omega⟩]; exact cst_zero _)
              obtain ⟨B, hB⟩ : ∃ B, (c.p k).bud = B := ⟨_, rfl⟩
              obtain ⟨o, ho⟩ : ∃ o, outP c.w (fun i => (c.p i).bud) c.pn (fun _ => 0) (k : Int) = o := ⟨_, rfl⟩
              have O := Lib.hid ho
              unfold outP at ho
              rw [if_pos ⟨by omega, by omega⟩, cst_zero, Int.toNat_natCast] at ho
              simp only [hB] at ho
              rw [hB] at bu
              subst ho
              clear hB
              have KB : Hid (Below wr.heap.size wr wr.drew) := Lib.hid ((Below.refl _ _).drew)
              go_wp2_with fail
              clear bc
              go_region_held3 (fun w' => (∀ i, w'.cell? ⟨w.heap.size, i, none⟩ = (#[.slice (some ⟨pb, po, none⟩) c.pn c.pc, .slice c.ca c.cn c.cc, .slice c.ma c.mn c.mc, .slice c.w.la c.w.ln c.w.lc, .slice c.w.na c.w.nn c.w.nc, .int .i64 c.w.sw, .int .i64 c.w.id, .int .i64 c.w.ch, .int .i64 c.w.qu, .int .i64 c.w.sl, .int .i64 c.w.pp, .slice c.da c.dn c.dc, .slice c.ua c.un c.uc] : Array Value)[i]?) ∧ w'.cell? ⟨pb, po + k * 11 + 8, none⟩ = some (.int .i64 B))
                (first
                  | exact ⟨bd, bu⟩
                  | exact r5)
                (first
                  | (go_at_call 31; refine (bo_usedL (by assumption) _ 0 U).mono ?_; rintro e1 w5 ⟨rfl, k5⟩; have K5 := Lib.hid (below_next KB.out k5); have KL5 := Lib.hid (lt_next k5 KL.out); have H5 := bo_next HD k5; have B5 := keepc k5 KL.out bd; have U5 := keep' k5 bu; clear k5 HD KB bd bu KL; have HD := H5; have KB := K5; have bd := B5; have bu := U5; have KL := KL5; clear H5 K5 B5 U5 KL5; have r5 := And.intro bd bu)
                  | (go_at_call 47; refine (bo_outL (by assumption) _ _ O).mono ?_; rintro e1 w5 ⟨rfl, k5⟩; have K5 := Lib.hid (below_next KB.out k5); have KL5 := Lib.hid (lt_next k5 KL.out); have H5 := bo_next HD k5; have B5 := keepc k5 KL.out bd; have U5 := keep' k5 bu; clear k5 HD KB bd bu KL; have HD := H5; have KB := K5; have bd := B5; have bu := U5; have KL := KL5; clear H5 K5 B5 U5 KL5; have r5 := And.intro bd bu))
              clear r5
              go_wp2_with fail
              go_roundw
              case rel => exact ⟨k + 1, by omega, by go_num, Lib.hid (below_next HC.out KB.out)⟩
              case measure => simp [intOf]; omega
            · obtain rfl : k = c.pn := by omega
              go_wp2_with fail
              go_ret
              exact ⟨rfl, HR.out.ls.out.bel⟩
end Go.Proofs.Yteikliciijfmmaa.LedX

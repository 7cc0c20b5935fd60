/- The law FitParts. -/
import Derived.Test.YteikliciijfmmaaFitQ
namespace Go.Proofs.Yteikliciijfmmaa.FitR
open Go.RowKit Base Kit WideA WideB Plain FitA FitB FitC FitP FitQ Conf Conf2 Alt RefA Own Short
set_option linter.unusedVariables false
set_option linter.unusedSimpArgs false

/-- what stays: the configuration's block -/
structure Cst (w0 w : World) (c : ConfC) : Prop where
  bel : Below w0.heap.size w0 w
  box : Box w w0.heap.size #[.slice c.pa c.pn c.pc, .slice c.ca c.cn c.cc, .slice c.ma c.mn c.mc, .slice c.w.la c.w.ln c.w.lc, .slice c.w.na c.w.nn c.w.nc, .int .i64 c.w.sw, .int .i64 c.w.id, .int .i64 c.w.ch, .int .i64 c.w.qu, .int .i64 c.w.sl, .int .i64 c.w.pp, .slice c.da c.dn c.dc, .slice c.ua c.un c.uc] 45
theorem cst_next {w0 w w1 : World} {c : ConfC} (h : Hid (Cst w0 w c)) (k : Below w.heap.size w w1) : Hid (Cst w0 w1 c) := Lib.hid ⟨below_next h.out.bel k, h.out.box.next k⟩
theorem cst_in (w : World) (c : ConfC) : Hid (Cst w (w.alloc (.cells #[.slice c.pa c.pn c.pc, .slice c.ca c.cn c.cc, .slice c.ma c.mn c.mc, .slice c.w.la c.w.ln c.w.lc, .slice c.w.na c.w.nn c.w.nc, .int .i64 c.w.sw, .int .i64 c.w.id, .int .i64 c.w.ch, .int .i64 c.w.qu, .int .i64 c.w.sl, .int .i64 c.w.pp, .slice c.da c.dn c.dc, .slice c.ua c.un c.uc] 45)) c) := Lib.hid ⟨(Below.refl _ _).alloc (Nat.le_refl _) _, Box.new _ _ _⟩
theorem ok_in {w0 w : World} {c : ConfC} (h : Hid (Cst w0 w c)) (ok : c.Ok w0) : c.Ok w := ok.below h.out.bel (Nat.le_refl _)

/-- a partition's cells, in a world -/
def PC (w : World) (pb a : Nat) (q : PartC) : Prop :=
  w.cell? ⟨pb, a, none⟩ = some (.slice q.ra q.rn q.rc) ∧ w.cell? ⟨pb, a + 1, none⟩ = some (.slice q.pa q.pn q.pc) ∧ w.cell? ⟨pb, a + 2, none⟩ = some (.slice q.oa q.on q.oc) ∧ w.cell? ⟨pb, a + 3, none⟩ = some (.slice q.sa q.sn q.sc) ∧ w.cell? ⟨pb, a + 4, none⟩ = some (.int .i64 q.fl) ∧
  w.cell? ⟨pb, a + 5, none⟩ = some (.slice q.qa q.qn q.qc) ∧ w.cell? ⟨pb, a + 6, none⟩ = some (.slice q.ta q.tn q.tc) ∧ w.cell? ⟨pb, a + 7, none⟩ = some (.int .i64 q.cap) ∧ w.cell? ⟨pb, a + 8, none⟩ = some (.int .i64 q.bud) ∧ w.cell? ⟨pb, a + 9, none⟩ = some (.int .i64 q.lad) ∧ w.cell? ⟨pb, a + 10, none⟩ = some (.slice q.ca q.cn q.cc)
theorem pc_next {w w1 : World} {B pb a : Nat} {q : PartC} (h : PC w pb a q) (hb : Below B w w1) (hB : pb < B) : PC w1 pb a q := by
  obtain ⟨p0, p1, p2, p3, p4, p5, p6, p7, p8, p9, p10⟩ := h
  exact ⟨keep hb p0 hB, keep hb p1 hB, keep hb p2 hB, keep hb p3 hB, keep hb p4 hB, keep hb p5 hB, keep hb p6 hB, keep hb p7 hB, keep hb p8 hB, keep hb p9 hB, keep hb p10 hB⟩
set_option maxRecDepth 100000 in
set_option maxHeartbeats 4000000 in
theorem parts_law (c : ConfC) (part mode : Int) (w : World) (ok : c.Ok w) (h1 : I64 part) (h2 : I64 mode) :
    Calls Try.prog 14 #[.agg #[.slice c.pa c.pn c.pc, .slice c.ca c.cn c.cc, .slice c.ma c.mn c.mc, .slice c.w.la c.w.ln c.w.lc, .slice c.w.na c.w.nn c.w.nc, .int .i64 c.w.sw, .int .i64 c.w.id, .int .i64 c.w.ch, .int .i64 c.w.qu, .int .i64 c.w.sl, .int .i64 c.w.pp, .slice c.da c.dn c.dc, .slice c.ua c.un c.uc], .int .i64 part, .int .i64 mode] w fun e w' => e = .returned (.bool true) ∧ Below w.heap.size w w' := by
  have S := cst_in w c
  have OK := Lib.hid ok
  have hpn := ok.parts.out.1
  clear ok
  go_enter Try.func14, Try.ntmps14
  go_wp2_with fail
  generalize w.alloc (.cells #[.slice c.pa c.pn c.pc, .slice c.ca c.cn c.cc, .slice c.ma c.mn c.mc, .slice c.w.la c.w.ln c.w.lc, .slice c.w.na c.w.nn c.w.nc, .int .i64 c.w.sw, .int .i64 c.w.id, .int .i64 c.w.ch, .int .i64 c.w.qu, .int .i64 c.w.sl, .int .i64 c.w.pp, .slice c.da c.dn c.dc, .slice c.ua c.un c.uc] 45) = w1 at S ⊢
  refine (short_any c w1 (ok_in S OK.out)).mono ?_
  rintro e1 w2 ⟨b, hb, rfl, hb2⟩
  have S := cst_next S hb2
  clear hb2
  cases b
  · go_wp2_with fail
    refine (FitL.works_any _).mono ?_
    rintro e1 w3 ⟨rfl, hb3⟩
    go_wp2_with fail
    go_ret
    exact ⟨rfl, below_next S.out.bel hb3⟩
  have hs : Sh c := by simpa using hb
  have HS := Lib.hid hs
  clear hb hs
  go_wp2_with fail
  go_loopw [7] (fun i wr => ∃ k : Nat, k ≤ c.pn ∧ i = .int .i64 k ∧ Hid (Cst w wr c)) (fun i _ => c.pn - (intOf i).toNat)
  case atStart => exact ⟨0, by omega, rfl, S⟩
  case round =>
    clear S
    obtain ⟨k, hk, rfl, S⟩ := hrel
    have bc := S.out.box.cell
    by_cases hlt : k < c.pn
    · have C1 := Lib.hid (fun w h => demand_any (c.p k) w h (HS.out.2.1 k hlt).2.1)
      have C2 := Lib.hid (fun w h => demandr_any (c.p k) w h (HS.out.2.1 k hlt).2.1)
      have C3 := Lib.hid (fun w h ok hok => sure_any (c.p k) w h (HS.out.2.1 k hlt).2.1 ok hok)
      have R := Lib.hid (fun w2 (h : Below w.heap.size w w2) => ((OK.out.part k hlt).below h (Nat.le_refl _)).proc)
      obtain ⟨pb, po, ep, lp, hpc⟩ := part_at OK.out.parts k hlt
      have PT := Lib.hid (show PC w pb (po + k * 11) (c.p k) from hpc)
      have EA := Lib.hid ep
      rw [ep] at bc
      clear hpc ep
      have i7 := (OK.out.part k hlt).cap
      have hq := (HS.out.2.1 k hlt).2.1
      have R := Lib.hid (fun w2 (h : Below w.heap.size w w2) => ((OK.out.part k hlt).below h (Nat.le_refl _)).proc)
      generalize c.p k = q at *
      obtain ⟨d1, e1⟩ : ∃ x, (dem q).1 = x := ⟨_, rfl⟩
      obtain ⟨d2, e2⟩ : ∃ x, (dem q).2 = x := ⟨_, rfl⟩
      obtain ⟨sb, es⟩ : ∃ x, (decide ((dem q).2 = 0) && decide ((dem q).1 ≤ q.cap)) = x := ⟨_, rfl⟩
      have ES := Lib.hid es
      rw [e1, e2] at es
      have C1 := fun w h => demand_any q w h hq
      have C2 := fun w h => demandr_any q w h hq
      have C3 := Lib.hid (fun w h => sure_any q w h hq sb ES)
      rw [e1, e2] at C1 C2
      have C1 := Lib.hid C1; have C2 := Lib.hid C2
      have hw : (d2 = 0 ∧ d1 ≤ q.cap ∧ sb = true) ∨ (d2 = 0 ∧ q.cap < d1 ∧ sb = false) ∨ ((d2 == 0) = false ∧ sb = false) := by
        by_cases h1 : d2 = 0
        · by_cases h2 : d1 ≤ q.cap
          · exact .inl ⟨h1, h2, by rw [← es]; simp [h1, h2]⟩
          · exact .inr (.inl ⟨h1, by omega, by rw [← es]; simp [h2]⟩)
        · exact .inr (.inr ⟨by simpa using h1, by rw [← es]; simp [h1]⟩)
      clear e1 e2 es hq ES
      obtain ⟨p0, p1, p2, p3, p4, p5, p6, p7, p8, p9, p10⟩ := pc_next PT.out S.out.bel lp
      go_wp2_with fail
      refine (C1.out _ (R.out _ S.out.bel)).mono ?_
      rintro e1 w3 ⟨rfl, hb3⟩
      have S := cst_next S hb3
      clear hb3 bc p0 p1 p2 p3 p4 p5 p6 p7 p8 p9 p10
      obtain ⟨p0, p1, p2, p3, p4, p5, p6, p7, p8, p9, p10⟩ := pc_next PT.out S.out.bel lp
      have bc := S.out.box.cell
      rw [EA.out] at bc
      go_wp2_with fail
      refine (C2.out _ (R.out _ S.out.bel)).mono ?_
      rintro e1 w4 ⟨rfl, hb4⟩
      have S := cst_next S hb4
      clear hb4 bc p0 p1 p2 p3 p4 p5 p6 p7 p8 p9 p10
      obtain ⟨p0, p1, p2, p3, p4, p5, p6, p7, p8, p9, p10⟩ := pc_next PT.out S.out.bel lp
      have bc := S.out.box.cell
      rw [EA.out] at bc
      go_wp2_with fail
      refine (C3.out _ (R.out _ S.out.bel)).mono ?_
      rintro e1 w5 ⟨rfl, hb5⟩
      have S := cst_next S hb5
      clear hb5 bc p0 p1 p2 p3 p4 p5 p6 p7 p8 p9 p10
      obtain ⟨p0, p1, p2, p3, p4, p5, p6, p7, p8, p9, p10⟩ := pc_next PT.out S.out.bel lp
      have bc := S.out.box.cell
      rw [EA.out] at bc
      rcases hw with ⟨rfl, h9, rfl⟩ | ⟨rfl, h9, rfl⟩ | ⟨h9, rfl⟩
      all_goals
        go_wp2_with fail
        go_roundw
        case rel => exact ⟨k + 1, by omega, by go_num, S⟩
        case measure => simp [intOf]; omega
    · obtain rfl : k = c.pn := by omega
      obtain ⟨X1, X2⟩ : (∀ w, c.Ok w → Calls _ _ _ w (CovPost c part mode w)) ∧ (∀ w, c.Ok w → Calls _ _ _ w (CovPost c part mode w)) := ⟨fun w h => (cov_any c part mode w h HS.out).1, fun w h => (cov_any c part mode w h HS.out).2⟩
      have X1 := Lib.hid X1; have X2 := Lib.hid X2
      go_wp2_with fail
      have S := cst_next S ((Below.refl _ _).drew)
      clear bc
      have bc := S.out.box.cell
      go_region_held3 (fun w' => ∀ i, w'.cell? ⟨w.heap.size, i, none⟩ = (#[.slice c.pa c.pn c.pc, .slice c.ca c.cn c.cc, .slice c.ma c.mn c.mc, .slice c.w.la c.w.ln c.w.lc, .slice c.w.na c.w.nn c.w.nc, .int .i64 c.w.sw, .int .i64 c.w.id, .int .i64 c.w.ch, .int .i64 c.w.qu, .int .i64 c.w.sl, .int .i64 c.w.pp, .slice c.da c.dn c.dc, .slice c.ua c.un c.uc] : Array Value)[i]?)
        (first
          | exact bc
          | exact S7.out.box.cell
          | exact S6.out.box.cell
          | exact S5.out.box.cell)
        (first
          | (go_at_call 53; refine (X1.out _ (ok_in S OK.out)).mono ?_; rintro e1 w5 ⟨b1, hb1, rfl, hb5⟩; have S5 := cst_next S hb5; clear hb5)
          | (go_at_call 54; refine (X2.out _ (ok_in S5 OK.out)).mono ?_; rintro e1 w6 ⟨b2, hb2, rfl, hb6⟩; obtain rfl : b1 = b2 := Bool.eq_iff_iff.2 (hb1.trans hb2.symm); have S6 := cst_next S5 hb6; clear hb6)
          | (go_at_call 15; refine (FitL.works_any _).mono ?_; rintro e1 w7 ⟨rfl, hb7⟩; have S7 := cst_next S6 hb7; clear hb7))
      go_wp2_with fail
      go_ret
      exact ⟨rfl, S7.out.bel⟩
end Go.Proofs.Yteikliciijfmmaa.FitR

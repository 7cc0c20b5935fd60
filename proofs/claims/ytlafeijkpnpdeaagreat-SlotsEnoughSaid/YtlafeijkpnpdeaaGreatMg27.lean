import Derived.Lib.SliceRun
import Derived.IntWalk
import Derived.Test.YtlafeijkpnpdeaaGreatMg26

/- Package slots: upto, lowest, Lowest. -/
namespace Go.Proofs.YtlafeijkpnpdeaaGreat.Soc
open Go.RowKit Base Kit WideA WideB Plain Conf Conf2 PowA PowB Vfa Vfb Val Vld Vpa Vpb Vpr Vsh Short Vcf Vch Vci Vnu Vmo Vck Vrp FitA FitB FitC NapG Soa Sob Cls
set_option linter.unusedVariables false
set_option linter.unusedSimpArgs false
set_option maxRecDepth 100000 in
set_option maxHeartbeats 1000000 in
theorem upto_any (p : PowC) (k : Nat) (b off : Nat) (w : World) (ea : p.la = some ⟨b, off, none⟩) (hk : k < p.ln) (hc : p.ln ≤ p.lc) (hm : p.lc ≤ 9223372036854775807) :
    Calls Tryz.prog 38 #[.agg #[.slice p.la p.ln p.lc, .slice p.na p.nn p.nc, .int .i64 p.sw, .int .i64 p.id, .int .i64 p.ch, .int .i64 p.qu, .int .i64 p.sl, .int .i64 p.pp], .int .i64 k] w fun e w' => e = .returned (.agg #[.slice p.la (k + 1) (k + 1), .slice p.na p.nn p.nc, .int .i64 p.sw, .int .i64 p.id, .int .i64 p.ch, .int .i64 p.qu, .int .i64 p.sl, .int .i64 p.pp]) ∧ Below w.heap.size w w' := by
  rw [ea]
  have h1 : k + 1 ≤ p.lc := by omega
  clear hc
  go_enter Tryz.func38, Tryz.ntmps38
  go_wp2_with fail
  refine bodyPost_ret (v := .agg #[.slice (some ⟨b, off, none⟩) (k + 1) (k + 1), .slice p.na p.nn p.nc, .int .i64 p.sw, .int .i64 p.id, .int .i64 p.ch, .int .i64 p.qu, .int .i64 p.sl, .int .i64 p.pp]) ?_ rfl ⟨rfl, ?_⟩
  · simp [results, Tryz.results38, go_sem]
  · exact ((Below.refl _ _).alloc (Nat.le_refl _) _).alloc (by simp) _
theorem rows_take {w : World} {a : Option Addr} {n sz : Nat} {f : Nat → Nat → Int} (h : Hid (Open.RowsIn w a n sz f)) (k : Nat) (hk : k ≤ n) : Hid (Open.RowsIn w a k sz f) := by
  obtain ⟨h0, h1, h2⟩ := h.out
  refine Lib.hid ⟨by omega, ?_, fun i hi j hj => h2 i (by omega) j hj⟩
  rcases h1 with h1 | ⟨b, off, e, hl, hc⟩
  · exact .inl (by omega)
  · exact .inr ⟨b, off, e, hl, fun i hi j hj => hc i (by omega) j hj⟩
/-- a configuration's box, a window's, and a cap's cell -/
structure Lw (w0 w : World) (c : ConfC) (wb b off : Nat) (x0 x1 x2 cap : Int) : Prop where
  S : Hid (Cs w0 w w0.heap.size c)
  win : Box w wb #[.int .i64 x0, .int .i64 x1, .int .i64 x2] 54
  hlt : b < w0.heap.size
  cap : w0.cell? ⟨b, off + x0.toNat * 11 + 7, none⟩ = some (.int .i64 cap)
theorem lw_next {w0 w w1 : World} {c : ConfC} {wb b off : Nat} {x0 x1 x2 cap : Int} (h : Hid (Lw w0 w c wb b off x0 x1 x2 cap)) (k : Below w.heap.size w w1) : Hid (Lw w0 w1 c wb b off x0 x1 x2 cap) :=
  Lib.hid ⟨cs_next h.out.S k, h.out.win.next k, h.out.hlt, h.out.cap⟩
theorem lw_cap {w0 w : World} {c : ConfC} {wb b off : Nat} {x0 x1 x2 cap : Int} (h : Hid (Lw w0 w c wb b off x0 x1 x2 cap)) : w.cell? ⟨b, off + x0.toNat * 11 + 7, none⟩ = some (.int .i64 cap) := keep h.out.S.out.bel h.out.cap h.out.hlt
theorem cap_at {c : ConfC} {w : World} (ok : c.Ok w) {x0 : Int} (h0 : 0 ≤ x0) (h1 : x0 < (c.pn : Int)) : ∃ b off, c.pa = some ⟨b, off, none⟩ ∧ b < w.heap.size ∧ w.cell? ⟨b, off + x0.toNat * 11 + 7, none⟩ = some (.int .i64 (capP c x0)) := by
  obtain ⟨b, off, ea, hlt, _, _, _, _, _, _, _, u7, _, _, _⟩ := part_at ok.parts x0.toNat (by omega)
  exact ⟨b, off, ea, hlt, u7⟩
theorem fb_step {P : Nat → Bool} {n k : Nat} (h : fb P n = n → False) : True := trivial
theorem lowP_hit {c : ConfC} {x0 x2 : Int} {k : Nat} (h1 : ∀ j, j < k → fitL c x0 x2 j = false) (h2 : fitL c x0 x2 k = true) (hk : k < c.w.ln) : lowP c x0 x2 = k := by
  have e := fb_hit (P := fun k => !fitL c x0 x2 k) (k := k) (fun j hj => by simp [h1 j hj]) (by simp [h2]) c.w.ln hk
  unfold lowP frI
  rw [e, if_pos hk]
theorem lowP_none {c : ConfC} {x0 x2 : Int} (h1 : ∀ j, j < c.w.ln → fitL c x0 x2 j = false) : lowP c x0 x2 = -1 := by
  have e := fb_all (P := fun k => !fitL c x0 x2 k) c.w.ln (fun j hj => by simp [h1 j hj])
  unfold lowP frI
  rw [e, if_neg (by omega)]
set_option maxRecDepth 100000 in
set_option maxHeartbeats 2000000 in
theorem lowest_any (c : ConfC) (x0 x1 x2 : Int) (r : Int) (w : World) (ok : c.Ok w) (hcap : c.w.ln ≤ c.w.lc ∧ c.w.lc ≤ 9223372036854775807) (h0 : 0 ≤ x0) (h1 : x0 < (c.pn : Int)) (hr : Hid (lowP c x0 x2 = r)) :
    Calls Tryz.prog 27 #[.agg #[.slice c.pa c.pn c.pc, .slice c.ca c.cn c.cc, .slice c.ma c.mn c.mc, .slice c.w.la c.w.ln c.w.lc, .slice c.w.na c.w.nn c.w.nc, .int .i64 c.w.sw, .int .i64 c.w.id, .int .i64 c.w.ch, .int .i64 c.w.qu, .int .i64 c.w.sl, .int .i64 c.w.pp, .slice c.da c.dn c.dc, .slice c.ua c.un c.uc], .agg #[.int .i64 x0, .int .i64 x1, .int .i64 x2]] w fun e w' => e = .returned (.int .i64 r) ∧ Below w.heap.size w w' := by
  have hln := ok.pow.lev.out.1
  have hpn := ok.parts.out.1
  obtain ⟨b, off, ea, hlt, u7⟩ := cap_at ok h0 h1
  have icap : I64 (capP c x0) := (ok.part x0.toNat (by omega)).cap
  have OK := Lib.hid (fun w' (h : Below w.heap.size w w') => ok.below h (Nat.le_refl _))
  have LH := Lib.hid (fun k h1 h2 hk => (lowP_hit (c := c) (x0 := x0) (x2 := x2) (k := k) h1 h2 hk).symm.trans hr.out)
  have LN := Lib.hid (fun h1 => (lowP_none (c := c) (x0 := x0) (x2 := x2) h1).symm.trans hr.out)
  obtain ⟨cap, hc⟩ : ∃ cap, capP c x0 = cap := ⟨_, rfl⟩
  rw [hc] at u7 icap
  have HC := Lib.hid hc
  have EA := Lib.hid ea
  have S : Hid (Lw w ((w.alloc (.cells #[.slice c.pa c.pn c.pc, .slice c.ca c.cn c.cc, .slice c.ma c.mn c.mc, .slice c.w.la c.w.ln c.w.lc, .slice c.w.na c.w.nn c.w.nc, .int .i64 c.w.sw, .int .i64 c.w.id, .int .i64 c.w.ch, .int .i64 c.w.qu, .int .i64 c.w.sl, .int .i64 c.w.pp, .slice c.da c.dn c.dc, .slice c.ua c.un c.uc] 33)).alloc (.cells #[.int .i64 x0, .int .i64 x1, .int .i64 x2] 54)) c (w.heap.size + 1) b off x0 x1 x2 cap) := by
    have BM := Box.new (w.alloc (.cells #[.slice c.pa c.pn c.pc, .slice c.ca c.cn c.cc, .slice c.ma c.mn c.mc, .slice c.w.la c.w.ln c.w.lc, .slice c.w.na c.w.nn c.w.nc, .int .i64 c.w.sw, .int .i64 c.w.id, .int .i64 c.w.ch, .int .i64 c.w.qu, .int .i64 c.w.sl, .int .i64 c.w.pp, .slice c.da c.dn c.dc, .slice c.ua c.un c.uc] 33)) #[.int .i64 x0, .int .i64 x1, .int .i64 x2] 54
    rw [World.size_alloc] at BM
    exact Lib.hid ⟨cs_alloc (cs_in w c) _, BM, hlt, u7⟩
  clear hr hc ea u7
  go_enter Tryz.func27, Tryz.ntmps27
  go_wp2_with fail
  generalize (w.alloc (.cells #[.slice c.pa c.pn c.pc, .slice c.ca c.cn c.cc, .slice c.ma c.mn c.mc, .slice c.w.la c.w.ln c.w.lc, .slice c.w.na c.w.nn c.w.nc, .int .i64 c.w.sw, .int .i64 c.w.id, .int .i64 c.w.ch, .int .i64 c.w.qu, .int .i64 c.w.sl, .int .i64 c.w.pp, .slice c.da c.dn c.dc, .slice c.ua c.un c.uc] 33)).alloc (.cells #[.int .i64 x0, .int .i64 x1, .int .i64 x2] 54) = W at *
  have bc := S.out.S.out.box.cell
  go_wp2_with fail
  clear bc
  go_loopw [10] (fun i wr => ∃ k : Nat, k ≤ c.w.ln ∧ i = .int .i64 k ∧ Hid (∀ j, j < k → fitL c x0 x2 j = false) ∧ Hid (Lw w wr c (w.heap.size + 1) b off x0 x1 x2 cap)) (fun i _ => c.w.ln - (intOf i).toNat)
  case atStart => exact ⟨0, by omega, rfl, Lib.hid (fun j hj => by omega), S⟩
  case round =>
    clear S
    obtain ⟨k, hk, rfl, NF, S⟩ := hrel
    by_cases hl : k < c.w.ln
    · obtain ⟨d, o, el, _⟩ := rows_at ok.pow.lev k hl
      obtain ⟨f, hf⟩ : ∃ f, fitL c x0 x2 k = f := ⟨_, rfl⟩
      have CU := Lib.hid (fun w' (h : Hid (Lw w w' c (w.heap.size + 1) b off x0 x1 x2 cap)) => (upto_any c.w k d o w' el hl hcap.1 hcap.2).mono (R' := fun e w'' => e = .returned (.agg #[.slice c.w.la (k + 1) (k + 1), .slice c.w.na c.w.nn c.w.nc, .int .i64 c.w.sw, .int .i64 c.w.id, .int .i64 c.w.ch, .int .i64 c.w.qu, .int .i64 c.w.sl, .int .i64 c.w.pp]) ∧ Hid (Lw w w'' c (w.heap.size + 1) b off x0 x1 x2 cap)) fun e w2 hh => ⟨hh.1, lw_next h hh.2⟩)
      have CF := Lib.hid (fun w' (h : Hid (Lw w w' c (w.heap.size + 1) b off x0 x1 x2 cap)) => (fits_any c.w.la (k + 1) (k + 1) c.w.lf (.slice c.w.na c.w.nn c.w.nc) c.w.sw (.int .i64 c.w.id) (.int .i64 c.w.ch) (.int .i64 c.w.qu) (.int .i64 c.w.sl) (.int .i64 c.w.pp) cap x2 f w' (rows_take (OK.out w' h.out.S.out.bel).pow.lev (k + 1) (by omega)) ok.pow.sw icap (Lib.hid (by rw [← hf, ← HC.out]; rfl))).mono (R' := fun e w'' => e = .returned (.bool f) ∧ Hid (Lw w w'' c (w.heap.size + 1) b off x0 x1 x2 cap)) fun e w2 hh => ⟨hh.1, lw_next h hh.2⟩)
      have HF := Lib.hid hf
      have S := lw_next S (Below.refl _ _).drew
      clear hf el
      go_wp2_with fail
      refine cls_region (fun w' => Hid (Lw w w' c (w.heap.size + 1) b off x0 x1 x2 cap)) (by kernel_rfl) (by kernel_rfl) S ?_
      repeat
        (first
          | (refine Cls.cls_take (v := ?_) (by rfl) (fun w' hC => ?_) ?_
             rotate_left
             · (have r1 : ∀ i, w'.cell? ⟨w.heap.size, i, none⟩ = (#[.slice (some ⟨b, off, none⟩) c.pn c.pc, .slice c.ca c.cn c.cc, .slice c.ma c.mn c.mc, .slice c.w.la c.w.ln c.w.lc, .slice c.w.na c.w.nn c.w.nc, .int .i64 c.w.sw, .int .i64 c.w.id, .int .i64 c.w.ch, .int .i64 c.w.qu, .int .i64 c.w.sl, .int .i64 c.w.pp, .slice c.da c.dn c.dc, .slice c.ua c.un c.uc] : Array Value)[i]? := fun i => (hC.out.S.out.box.cell i).trans (by rw [EA.out]); have r2 := hC.out.win.cell; have r3 := lw_cap hC
                (go_simp)
                try (first
                  | done
                  | (with_reducible rfl)
                  | (first | exact CU.out _ hC | exact CF.out _ hC))))
          | refine Cls.cls_skip (by rfl) ?_)
        try simp only [Act.put, List.setIfInBounds_toArray, List.set_cons_zero, List.set_cons_succ, List.getElem_toArray, List.getElem_cons_succ, List.getElem_cons_zero]
      refine wpQuiet_nil ?_
      clear S CU CF
      intro w6 S
      cases f
      · have NF := Lib.hid (fun j (hj : j < k + 1) => show fitL c x0 x2 j = false by
          by_cases e : j = k
          · subst e; exact HF.out
          · exact NF.out j (by omega))
        go_wp2_with fail
        go_roundw
        case rel => exact ⟨k + 1, by omega, by go_num, NF, S⟩
        case measure => simp [intOf]; omega
      · have e := LH.out k NF.out HF.out hl
        go_wp2_with fail
        go_ret
        exact ⟨Kit.ret_int e, S.out.S.out.bel⟩
    · obtain rfl : k = c.w.ln := by omega
      have e := LN.out NF.out
      go_wp2_with fail
      go_ret
      exact ⟨Kit.ret_int e, S.out.S.out.bel⟩
end Go.Proofs.YtlafeijkpnpdeaaGreat.Soc

/- Package slots: Lowest, spare, Spare, gap, Gap. -/
namespace Go.Proofs.YtlafeijkpnpdeaaGreat.Sod
open Go.RowKit Base Kit WideA WideB Plain Conf Conf2 PowA PowB Vfa Vfb Val Vld Vpa Vpb Vpr Vsh Short Vcf Vch Vci Vnu Vmo Vck Vrp FitA FitB FitC NapG Soa Sob Soc Cls
set_option linter.unusedVariables false
set_option linter.unusedSimpArgs false
set_option maxRecDepth 100000 in
set_option maxHeartbeats 2000000 in
theorem spare_any (c : ConfC) (x0 x1 x2 : Int) (r : Int) (w : World) (ok : c.Ok w) (h0 : 0 ≤ x0) (h1 : x0 < (c.pn : Int)) (g0 : 0 ≤ x2) (g1 : x2 ≤ 1000000000) (hr : Hid (spareP c x0 x2 = r)) :
    Calls Tryz.prog 25 #[.agg #[.slice c.pa c.pn c.pc, .slice c.ca c.cn c.cc, .slice c.ma c.mn c.mc, .slice c.w.la c.w.ln c.w.lc, .slice c.w.na c.w.nn c.w.nc, .int .i64 c.w.sw, .int .i64 c.w.id, .int .i64 c.w.ch, .int .i64 c.w.qu, .int .i64 c.w.sl, .int .i64 c.w.pp, .slice c.da c.dn c.dc, .slice c.ua c.un c.uc], .agg #[.int .i64 x0, .int .i64 x1, .int .i64 x2]] w fun e w' => e = .returned (.int .i64 r) ∧ Below w.heap.size w w' := by
  have hpn := ok.parts.out.1
  obtain ⟨b, off, ea, hlt, u7⟩ := cap_at ok h0 h1
  have icap : I64 (capP c x0) := (ok.part x0.toNat (by omega)).cap
  have OK := Lib.hid (fun w' (h : Below w.heap.size w w') => ok.below h (Nat.le_refl _))
  have hr := hr.out
  unfold spareP at hr
  obtain ⟨cap, hc⟩ : ∃ cap, capP c x0 = cap := ⟨_, rfl⟩
  rw [hc] at u7 icap hr
  obtain ⟨n1, hn1⟩ : ∃ x, (nd (top c.w.ln c.w.lf 0) c.w.sw cap).1 = x := ⟨_, rfl⟩
  obtain ⟨n2, hn2⟩ : ∃ x, (nd (top c.w.ln c.w.lf 0) c.w.sw cap).2 = x := ⟨_, rfl⟩
  have nb : 0 ≤ n1 ∧ n1 ≤ 9223372036854775807 := by
    rw [← hn1]
    unfold nd
    split
    · simp
    · split
      · simp
      · split
        · simp
        · have := md_bd cap 1000 (top c.w.ln c.w.lf 0) true (fun _ _ _ => trivial); simp only; omega
  rw [hn1] at hr
  have EA := Lib.hid ea
  have S : Hid (Lw w ((w.alloc (.cells #[.slice c.pa c.pn c.pc, .slice c.ca c.cn c.cc, .slice c.ma c.mn c.mc, .slice c.w.la c.w.ln c.w.lc, .slice c.w.na c.w.nn c.w.nc, .int .i64 c.w.sw, .int .i64 c.w.id, .int .i64 c.w.ch, .int .i64 c.w.qu, .int .i64 c.w.sl, .int .i64 c.w.pp, .slice c.da c.dn c.dc, .slice c.ua c.un c.uc] 33)).alloc (.cells #[.int .i64 x0, .int .i64 x1, .int .i64 x2] 54)) c (w.heap.size + 1) b off x0 x1 x2 cap) := by
    have BM := Box.new (w.alloc (.cells #[.slice c.pa c.pn c.pc, .slice c.ca c.cn c.cc, .slice c.ma c.mn c.mc, .slice c.w.la c.w.ln c.w.lc, .slice c.w.na c.w.nn c.w.nc, .int .i64 c.w.sw, .int .i64 c.w.id, .int .i64 c.w.ch, .int .i64 c.w.qu, .int .i64 c.w.sl, .int .i64 c.w.pp, .slice c.da c.dn c.dc, .slice c.ua c.un c.uc] 33)) #[.int .i64 x0, .int .i64 x1, .int .i64 x2] 54
    rw [World.size_alloc] at BM
    exact Lib.hid ⟨cs_alloc (cs_in w c) _, BM, hlt, u7⟩
  have CF := Lib.hid (fun w' (h : Hid (Lw w w' c (w.heap.size + 1) b off x0 x1 x2 cap)) => (need_any c.w.la c.w.ln c.w.lc c.w.lf (.slice c.w.na c.w.nn c.w.nc) c.w.sw (.int .i64 c.w.id) (.int .i64 c.w.ch) (.int .i64 c.w.qu) (.int .i64 c.w.sl) (.int .i64 c.w.pp) cap n1 n2 w' (OK.out w' h.out.S.out.bel).pow.lev ok.pow.sw icap (Lib.hid (Prod.ext hn1 hn2))).mono (R' := fun e w'' => e = .returned (.tuple #[.int .i64 n1, .int .i64 n2]) ∧ Hid (Lw w w'' c (w.heap.size + 1) b off x0 x1 x2 cap)) fun e w2 hh => ⟨hh.1, lw_next h hh.2⟩)
  subst hr
  clear hc ea u7 hn1 hn2
  go_enter Tryz.func25, Tryz.ntmps25
  go_wp2_with fail
  generalize (w.alloc (.cells #[.slice c.pa c.pn c.pc, .slice c.ca c.cn c.cc, .slice c.ma c.mn c.mc, .slice c.w.la c.w.ln c.w.lc, .slice c.w.na c.w.nn c.w.nc, .int .i64 c.w.sw, .int .i64 c.w.id, .int .i64 c.w.ch, .int .i64 c.w.qu, .int .i64 c.w.sl, .int .i64 c.w.pp, .slice c.da c.dn c.dc, .slice c.ua c.un c.uc] 33)).alloc (.cells #[.int .i64 x0, .int .i64 x1, .int .i64 x2] 54) = W at *
  have S := lw_next S (Below.refl _ _).drew
  refine cls_region (fun w' => Hid (Lw w w' c (w.heap.size + 1) b off x0 x1 x2 cap)) (by kernel_rfl) (by kernel_rfl) S ?_
  repeat
    (first
      | (refine Cls.cls_take (v := ?_) (by rfl) (fun w' hC => ?_) ?_
         rotate_left
         · (have r1 : ∀ i, w'.cell? ⟨w.heap.size, i, none⟩ = (#[.slice (some ⟨b, off, none⟩) c.pn c.pc, .slice c.ca c.cn c.cc, .slice c.ma c.mn c.mc, .slice c.w.la c.w.ln c.w.lc, .slice c.w.na c.w.nn c.w.nc, .int .i64 c.w.sw, .int .i64 c.w.id, .int .i64 c.w.ch, .int .i64 c.w.qu, .int .i64 c.w.sl, .int .i64 c.w.pp, .slice c.da c.dn c.dc, .slice c.ua c.un c.uc] : Array Value)[i]? := fun i => (hC.out.S.out.box.cell i).trans (by rw [EA.out]); have r2 := hC.out.win.cell; have r3 := lw_cap hC
            (go_simp)
            try (first
              | done
              | (with_reducible rfl)
              | (exact CF.out _ hC))))
      | refine Cls.cls_skip (by rfl) ?_)
    try simp only [Act.put, List.setIfInBounds_toArray, List.set_cons_zero, List.set_cons_succ, List.getElem_toArray, List.getElem_cons_succ, List.getElem_cons_zero]
  refine wpQuiet_nil ?_
  clear S CF
  intro w6 S
  have r2 := S.out.win.cell
  go_wp2_with fail
  go_ret
  exact ⟨rfl, S.out.S.out.bel⟩

/-- what a mode's windows are within -/
structure Mb (m : ModeC) : Prop where
  wn : m.wn ≤ 100
  fr : 0 ≤ m.fr ∧ m.fr ≤ 1000000000
  st : ∀ k, k < m.wn → 0 ≤ m.wf k 1 ∧ m.wf k 1 ≤ 1000000000
  ln : ∀ k, k < m.wn → 0 ≤ m.wf k 2 ∧ m.wf k 2 ≤ 1000000000
set_option maxRecDepth 100000 in
set_option maxHeartbeats 1000000 in
theorem gap_any (m : ModeC) (k : Nat) (r : Int) (w : World) (ok : m.Ok w) (hm : Mb m) (hk : k < m.wn) (hr : Hid (gapP m k = r)) :
    Calls Tryz.prog 26 #[.agg #[.int .i64 m.fr, .slice m.wa m.wn m.wc], .int .i64 k] w fun e w' => e = .returned (.int .i64 r) ∧ Below w.heap.size w w' := by
  have hr := hr.out
  unfold gapP at hr
  have hwn := hm.wn
  obtain ⟨f0, f1⟩ := hm.fr
  obtain ⟨s0, s1⟩ := hm.st k hk
  obtain ⟨l0, l1⟩ := hm.ln k hk
  obtain ⟨b, off, ea, hlt, q0, q1, q2, i0, i1, i2⟩ := rows_at3 ok.win k hk
  have WS : IntKind.i64.wrap (m.wf k 1 + m.wf k 2) = m.wf k 1 + m.wf k 2 := IntWalk.i64_in _ (by omega)
  have HL := Lib.hid (lt_next ((Below.refl w.heap.size w).alloc (Nat.le_refl _) (.cells #[.int .i64 m.fr, .slice m.wa m.wn m.wc] 52)) hlt)
  by_cases h1 : k + 1 < m.wn
  · rw [if_pos h1] at hr
    obtain ⟨n0, n1⟩ := hm.st (k + 1) h1
    obtain ⟨b', off', ea', hlt', q0', q1', q2', i0', i1', i2'⟩ := rows_at3 ok.win (k + 1) h1
    rw [ea] at ea'
    simp only [Option.some.injEq, Addr.mk.injEq, and_true] at ea'
    obtain ⟨rfl, rfl⟩ := ea'
    rw [ea]
    clear ea q0' q2' hlt' i0' i1' i2' i0 i1 i2
    generalize m.wf k 1 = y1 at *
    generalize m.wf k 2 = y2 at *
    generalize m.wf (k + 1) 1 = y3 at *
    subst hr
    go_enter Tryz.func26, Tryz.ntmps26
    go_wp2_with fail
    go_quiet (fail)
    go_wp2_with fail
    go_ret
    exact ⟨rfl, below_drewN' ((Below.refl _ _).alloc (Nat.le_refl _) _) _⟩
  · rw [if_neg h1] at hr
    have h1 : m.wn ≤ k + 1 := by omega
    rw [ea]
    clear ea i0 i1 i2
    generalize m.wf k 1 = y1 at *
    generalize m.wf k 2 = y2 at *
    subst hr
    go_enter Tryz.func26, Tryz.ntmps26
    go_wp2_with fail
    go_quiet (fail)
    go_wp2_with fail
    go_ret
    exact ⟨rfl, below_drewN' ((Below.refl _ _).alloc (Nat.le_refl _) _) _⟩
end Go.Proofs.YtlafeijkpnpdeaaGreat.Sod

/- Package slots: Lowest, Spare, Gap. -/
namespace Go.Proofs.YtlafeijkpnpdeaaGreat.Soe
open Go.RowKit Base Kit WideA WideB Plain Conf Conf2 PowA PowB Vfa Vfb Val Vld Vpa Vpb Vpr Vsh Short Vcf Vch Vci Vnu Vmo Vck Vrp Vl4 FitA FitB FitC NapG Soa Sob Soc Sod Cls
set_option linter.unusedVariables false
set_option linter.unusedSimpArgs false
theorem mb_of {c : ConfC} (hv : (CheckR c).1 = 0) (sh : Sh c) (i : Nat) (hi : i < c.mn) : Mb (c.m i) := by
  have g := (check_good hv).mode i hi
  have hf := inB_iff.1 g.1
  refine ⟨sh.2.2 i hi, ⟨by omega, by omega⟩, fun k hk => ?_, fun k hk => ?_⟩
  · have := win_bd g.1 g.2.1 hk; omega
  · have := win_bd g.1 g.2.1 hk; omega
/-- a window that is there -/
structure Wd (c : ConfC) (mode k : Int) : Prop where
  ok : (CheckR c).1 = 0
  m0 : 0 ≤ mode
  m1 : mode < (c.mn : Int)
  k0 : 0 ≤ k
  k1 : k < ((c.m mode.toNat).wn : Int)
  p0 : 0 ≤ (c.m mode.toNat).wf k.toNat 0
  p1 : (c.m mode.toNat).wf k.toNat 0 < (c.pn : Int)
  l0 : 0 ≤ (c.m mode.toNat).wf k.toNat 2
  l1 : (c.m mode.toNat).wf k.toNat 2 ≤ 1000000000
theorem wd_of {c : ConfC} {mode k : Int} (h : isW c mode k = true) : Wd c mode k := by
  rcases isW_ways h with ⟨_, e⟩ | ⟨_, _, e⟩ | ⟨_, _, _, e⟩ | ⟨h1, h2, h3, -⟩
  · cases e
  · cases e
  · cases e
  · obtain ⟨v, a0, a1⟩ := isF_iff.1 h1
    have g := (check_good v).mode mode.toNat (by omega)
    have := win_bd g.1 g.2.1 (j := k.toNat) (by omega)
    exact ⟨v, a0, a1, h2, h3, by omega, by omega, by omega, by omega⟩
theorem wv_yes {c : ConfC} {mode k : Int} {j : Nat} : wv c mode k true j = (c.m mode.toNat).wf k.toNat j := if_pos rfl
theorem wv_no {c : ConfC} {mode k : Int} {j : Nat} : wv c mode k false j = 0 := if_neg (by decide)
set_option maxRecDepth 100000 in
set_option maxHeartbeats 1000000 in
theorem Lowest_any (c : ConfC) (mode k : Int) (r : Bool) (x : Int) (w : World) (ok : c.Ok w) (hcap : c.w.ln ≤ c.w.lc ∧ c.w.lc ≤ 9223372036854775807) (hr : Hid (isW c mode k = r)) (hx : Hid ((if r = true then lowP c (wv c mode k r 0) (wv c mode k r 2) else -1) = x)) :
    Calls Tryz.prog 14 #[.agg #[.slice c.pa c.pn c.pc, .slice c.ca c.cn c.cc, .slice c.ma c.mn c.mc, .slice c.w.la c.w.ln c.w.lc, .slice c.w.na c.w.nn c.w.nc, .int .i64 c.w.sw, .int .i64 c.w.id, .int .i64 c.w.ch, .int .i64 c.w.qu, .int .i64 c.w.sl, .int .i64 c.w.pp, .slice c.da c.dn c.dc, .slice c.ua c.un c.uc], .int .i64 mode, .int .i64 k] w fun e w' => e = .returned (.int .i64 x) ∧ Below w.heap.size w w' := by
  have OK := Lib.hid (fun w' (h : Below w.heap.size w w') => ok.below h (Nat.le_refl _))
  have CK := Lib.hid (fun w' (h : c.Ok w') => window_any c mode k r w' h hr)
  have S := cs_in w c
  have bc := S.out.box.cell
  cases r
  · obtain rfl := hx.out
    simp only [wv_no] at CK
    go_enter Tryz.func14, Tryz.ntmps14
    go_wp2_with fail
    generalize w.alloc (.cells #[.slice c.pa c.pn c.pc, .slice c.ca c.cn c.cc, .slice c.ma c.mn c.mc, .slice c.w.la c.w.ln c.w.lc, .slice c.w.na c.w.nn c.w.nc, .int .i64 c.w.sw, .int .i64 c.w.id, .int .i64 c.w.ch, .int .i64 c.w.qu, .int .i64 c.w.sl, .int .i64 c.w.pp, .slice c.da c.dn c.dc, .slice c.ua c.un c.uc] 33) = W at *
    refine (CK.out _ (OK.out _ S.out.bel)).mono ?_
    rintro e1 w5 ⟨rfl, k5⟩
    have S := cs_next S k5
    clear k5 bc
    have S := cs_alloc S (.cells #[.int .i64 0, .int .i64 0, .int .i64 0] 54)
    go_wp2_with fail
    go_ret
    exact ⟨rfl, S.out.bel⟩
  · have D := wd_of hr.out
    obtain ⟨y, hy⟩ : ∃ y, lowP c ((c.m mode.toNat).wf k.toNat 0) ((c.m mode.toNat).wf k.toNat 2) = y := ⟨_, rfl⟩
    obtain rfl : y = x := by rw [← hx.out, if_pos rfl, wv_yes, wv_yes, ← hy]
    have CL := Lib.hid (fun w' (h : c.Ok w') => lowest_any c ((c.m mode.toNat).wf k.toNat 0) ((c.m mode.toNat).wf k.toNat 1) ((c.m mode.toNat).wf k.toNat 2) y w' h hcap D.p0 D.p1 (Lib.hid hy))
    simp only [wv_yes] at CK
    clear hx hy D
    generalize (c.m mode.toNat).wf k.toNat 0 = x0 at *
    generalize (c.m mode.toNat).wf k.toNat 1 = x1 at *
    generalize (c.m mode.toNat).wf k.toNat 2 = x2 at *
    go_enter Tryz.func14, Tryz.ntmps14
    go_wp2_with fail
    generalize w.alloc (.cells #[.slice c.pa c.pn c.pc, .slice c.ca c.cn c.cc, .slice c.ma c.mn c.mc, .slice c.w.la c.w.ln c.w.lc, .slice c.w.na c.w.nn c.w.nc, .int .i64 c.w.sw, .int .i64 c.w.id, .int .i64 c.w.ch, .int .i64 c.w.qu, .int .i64 c.w.sl, .int .i64 c.w.pp, .slice c.da c.dn c.dc, .slice c.ua c.un c.uc] 33) = W at *
    refine (CK.out _ (OK.out _ S.out.bel)).mono ?_
    rintro e1 w5 ⟨rfl, k5⟩
    have S := cs_next S k5
    clear k5 bc
    have bc := (S.out.box.alloc (.cells #[.int .i64 x0, .int .i64 x1, .int .i64 x2] 54)).cell
    have S := cs_alloc S (.cells #[.int .i64 x0, .int .i64 x1, .int .i64 x2] 54)
    have bw := (Box.new w5 #[.int .i64 x0, .int .i64 x1, .int .i64 x2] 54).cell
    go_wp2_with fail
    refine (CL.out _ (OK.out _ S.out.bel)).mono ?_
    rintro e1 w6 ⟨rfl, k6⟩
    have S := cs_next S k6
    go_wp2_with fail
    go_ret
    exact ⟨rfl, S.out.bel⟩
set_option maxRecDepth 100000 in
set_option maxHeartbeats 1000000 in
theorem Spare_any (c : ConfC) (mode k : Int) (r : Bool) (x e' : Int) (w : World) (ok : c.Ok w) (hr : Hid (isW c mode k = r)) (hx : Hid ((if r = true then (spareP c (wv c mode k r 0) (wv c mode k r 2), 0) else (0, 2)) = (x, e'))) :
    Calls Tryz.prog 12 #[.agg #[.slice c.pa c.pn c.pc, .slice c.ca c.cn c.cc, .slice c.ma c.mn c.mc, .slice c.w.la c.w.ln c.w.lc, .slice c.w.na c.w.nn c.w.nc, .int .i64 c.w.sw, .int .i64 c.w.id, .int .i64 c.w.ch, .int .i64 c.w.qu, .int .i64 c.w.sl, .int .i64 c.w.pp, .slice c.da c.dn c.dc, .slice c.ua c.un c.uc], .int .i64 mode, .int .i64 k] w fun e w' => e = .returned (.tuple #[.int .i64 x, .int .i64 e']) ∧ Below w.heap.size w w' := by
  have OK := Lib.hid (fun w' (h : Below w.heap.size w w') => ok.below h (Nat.le_refl _))
  have CK := Lib.hid (fun w' (h : c.Ok w') => window_any c mode k r w' h hr)
  have S := cs_in w c
  have bc := S.out.box.cell
  cases r
  · have hx := hx.out
    rw [if_neg (by decide), Prod.mk.injEq] at hx
    obtain ⟨rfl, rfl⟩ := hx
    simp only [wv_no] at CK
    go_enter Tryz.func12, Tryz.ntmps12
    go_wp2_with fail
    generalize w.alloc (.cells #[.slice c.pa c.pn c.pc, .slice c.ca c.cn c.cc, .slice c.ma c.mn c.mc, .slice c.w.la c.w.ln c.w.lc, .slice c.w.na c.w.nn c.w.nc, .int .i64 c.w.sw, .int .i64 c.w.id, .int .i64 c.w.ch, .int .i64 c.w.qu, .int .i64 c.w.sl, .int .i64 c.w.pp, .slice c.da c.dn c.dc, .slice c.ua c.un c.uc] 33) = W at *
    refine (CK.out _ (OK.out _ S.out.bel)).mono ?_
    rintro e1 w5 ⟨rfl, k5⟩
    have S := cs_next S k5
    clear k5 bc
    have S := cs_alloc S (.cells #[.int .i64 0, .int .i64 0, .int .i64 0] 54)
    go_wp2_with fail
    go_ret2
    exact ⟨rfl, S.out.bel⟩
  · have D := wd_of hr.out
    have hx := hx.out
    rw [if_pos rfl, Prod.mk.injEq, wv_yes, wv_yes] at hx
    obtain ⟨hy, rfl⟩ := hx
    have CL := Lib.hid (fun w' (h : c.Ok w') => spare_any c ((c.m mode.toNat).wf k.toNat 0) ((c.m mode.toNat).wf k.toNat 1) ((c.m mode.toNat).wf k.toNat 2) x w' h D.p0 D.p1 D.l0 D.l1 (Lib.hid hy))
    simp only [wv_yes] at CK
    clear hy D
    generalize (c.m mode.toNat).wf k.toNat 0 = x0 at *
    generalize (c.m mode.toNat).wf k.toNat 1 = x1 at *
    generalize (c.m mode.toNat).wf k.toNat 2 = x2 at *
    go_enter Tryz.func12, Tryz.ntmps12
    go_wp2_with fail
    generalize w.alloc (.cells #[.slice c.pa c.pn c.pc, .slice c.ca c.cn c.cc, .slice c.ma c.mn c.mc, .slice c.w.la c.w.ln c.w.lc, .slice c.w.na c.w.nn c.w.nc, .int .i64 c.w.sw, .int .i64 c.w.id, .int .i64 c.w.ch, .int .i64 c.w.qu, .int .i64 c.w.sl, .int .i64 c.w.pp, .slice c.da c.dn c.dc, .slice c.ua c.un c.uc] 33) = W at *
    refine (CK.out _ (OK.out _ S.out.bel)).mono ?_
    rintro e1 w5 ⟨rfl, k5⟩
    have S := cs_next S k5
    clear k5 bc
    have bc := (S.out.box.alloc (.cells #[.int .i64 x0, .int .i64 x1, .int .i64 x2] 54)).cell
    have S := cs_alloc S (.cells #[.int .i64 x0, .int .i64 x1, .int .i64 x2] 54)
    have bw := (Box.new w5 #[.int .i64 x0, .int .i64 x1, .int .i64 x2] 54).cell
    go_wp2_with fail
    refine (CL.out _ (OK.out _ S.out.bel)).mono ?_
    rintro e1 w6 ⟨rfl, k6⟩
    have S := cs_next S k6
    go_wp2_with fail
    go_ret2
    exact ⟨rfl, S.out.bel⟩
set_option maxRecDepth 100000 in
set_option maxHeartbeats 1000000 in
theorem Gap_any (c : ConfC) (mode k : Int) (r : Bool) (x e' : Int) (w : World) (ok : c.Ok w) (sh : Sh c) (hr : Hid (isW c mode k = r)) (hx : Hid ((if r = true then (gapP (c.m mode.toNat) k.toNat, 0) else (0, 2)) = (x, e'))) :
    Calls Tryz.prog 13 #[.agg #[.slice c.pa c.pn c.pc, .slice c.ca c.cn c.cc, .slice c.ma c.mn c.mc, .slice c.w.la c.w.ln c.w.lc, .slice c.w.na c.w.nn c.w.nc, .int .i64 c.w.sw, .int .i64 c.w.id, .int .i64 c.w.ch, .int .i64 c.w.qu, .int .i64 c.w.sl, .int .i64 c.w.pp, .slice c.da c.dn c.dc, .slice c.ua c.un c.uc], .int .i64 mode, .int .i64 k] w fun e w' => e = .returned (.tuple #[.int .i64 x, .int .i64 e']) ∧ Below w.heap.size w w' := by
  have OK := Lib.hid (fun w' (h : Below w.heap.size w w') => ok.below h (Nat.le_refl _))
  have CK := Lib.hid (fun w' (h : c.Ok w') => window_any c mode k r w' h hr)
  have S := cs_in w c
  have bc := S.out.box.cell
  cases r
  · have hx := hx.out
    rw [if_neg (by decide), Prod.mk.injEq] at hx
    obtain ⟨rfl, rfl⟩ := hx
    simp only [wv_no] at CK
    go_enter Tryz.func13, Tryz.ntmps13
    go_wp2_with fail
    generalize w.alloc (.cells #[.slice c.pa c.pn c.pc, .slice c.ca c.cn c.cc, .slice c.ma c.mn c.mc, .slice c.w.la c.w.ln c.w.lc, .slice c.w.na c.w.nn c.w.nc, .int .i64 c.w.sw, .int .i64 c.w.id, .int .i64 c.w.ch, .int .i64 c.w.qu, .int .i64 c.w.sl, .int .i64 c.w.pp, .slice c.da c.dn c.dc, .slice c.ua c.un c.uc] 33) = W at *
    refine (CK.out _ (OK.out _ S.out.bel)).mono ?_
    rintro e1 w5 ⟨rfl, k5⟩
    have S := cs_next S k5
    clear k5 bc
    have S := cs_alloc S (.cells #[.int .i64 0, .int .i64 0, .int .i64 0] 54)
    go_wp2_with fail
    go_ret2
    exact ⟨rfl, S.out.bel⟩
  · obtain ⟨v, a0, a1, b0, b1, p0, p1, l0, l1⟩ := wd_of hr.out
    have hx := hx.out
    rw [if_pos rfl, Prod.mk.injEq] at hx
    obtain ⟨hy, rfl⟩ := hx
    obtain ⟨i, rfl⟩ := Int.eq_ofNat_of_zero_le a0
    obtain ⟨q, rfl⟩ := Int.eq_ofNat_of_zero_le b0
    simp only [Int.toNat_natCast, wv_yes] at *
    have hi : i < c.mn := by omega
    have hn := ok.modes.out.1
    have CL := Lib.hid (fun w' (h : (c.m i).Ok w') => gap_any (c.m i) q x w' h (mb_of v sh i hi) (by omega) (Lib.hid hy))
    obtain ⟨b, off, ea, hlt, g0, g1⟩ := mode_cells ok i hi
    replace ea := Lib.hid ea
    clear hy b1 hx p0 p1 l0 l1 v
    generalize (c.m i).wf q 0 = x0 at *
    generalize (c.m i).wf q 1 = x1 at *
    generalize (c.m i).wf q 2 = x2 at *
    obtain ⟨m, hm⟩ : ∃ m, c.m i = m := ⟨_, rfl⟩
    rw [hm] at g0 g1 CL
    have HM := Lib.hid hm
    clear hm
    go_enter Tryz.func13, Tryz.ntmps13
    go_wp2_with fail
    generalize w.alloc (.cells #[.slice c.pa c.pn c.pc, .slice c.ca c.cn c.cc, .slice c.ma c.mn c.mc, .slice c.w.la c.w.ln c.w.lc, .slice c.w.na c.w.nn c.w.nc, .int .i64 c.w.sw, .int .i64 c.w.id, .int .i64 c.w.ch, .int .i64 c.w.qu, .int .i64 c.w.sl, .int .i64 c.w.pp, .slice c.da c.dn c.dc, .slice c.ua c.un c.uc] 33) = W at *
    refine (CK.out _ (OK.out _ S.out.bel)).mono ?_
    rintro e1 w5 ⟨rfl, k5⟩
    have S := cs_next S k5
    clear k5 bc
    have S := cs_alloc S (.cells #[.int .i64 x0, .int .i64 x1, .int .i64 x2] 54)
    have bc : ∀ j, (w5.alloc (.cells #[.int .i64 x0, .int .i64 x1, .int .i64 x2] 54)).cell? ⟨w.heap.size, j, none⟩ = (#[.slice c.pa c.pn c.pc, .slice c.ca c.cn c.cc, .slice (some ⟨b, off, none⟩) c.mn c.mc, .slice c.w.la c.w.ln c.w.lc, .slice c.w.na c.w.nn c.w.nc, .int .i64 c.w.sw, .int .i64 c.w.id, .int .i64 c.w.ch, .int .i64 c.w.qu, .int .i64 c.w.sl, .int .i64 c.w.pp, .slice c.da c.dn c.dc, .slice c.ua c.un c.uc] : Array Value)[j]? := fun j => (S.out.box.cell j).trans (by rw [ea.out])
    have q0 := keep S.out.bel g0 hlt
    have q1 := keep S.out.bel g1 hlt
    clear g0 g1
    go_wp2_with fail
    refine (CL.out _ (by have := (OK.out _ S.out.bel).mode i hi; rw [HM.out] at this; exact this)).mono ?_
    rintro e1 w6 ⟨rfl, k6⟩
    have S := cs_next S k6
    go_wp2_with fail
    go_ret2
    exact ⟨rfl, S.out.bel⟩
end Go.Proofs.YtlafeijkpnpdeaaGreat.Soe

/- Package slots: Load, Free. -/
namespace Go.Proofs.YtlafeijkpnpdeaaGreat.Sof
open Go.RowKit Base Kit WideA WideB Plain Conf Conf2 PowA PowB Vfa Vfb Val Vld Vpa Vpb Vpr Vsh Short Vcf Vch Vci Vnu Vmo Vck Vrp Vl4 FitA FitB FitC NapG Soa Sob Soc Sod Soe Cls
set_option linter.unusedVariables false
set_option linter.unusedSimpArgs false
/-- how many windows a partition has, and how long they are together -/
def cntP (m : ModeC) (x : Int) : Nat → Nat
  | 0 => 0
  | k + 1 => if m.wf k 0 = x then cntP m x k + 1 else cntP m x k
def lenP (m : ModeC) (x : Int) : Nat → Int
  | 0 => 0
  | k + 1 => if m.wf k 0 = x then lenP m x k + m.wf k 2 else lenP m x k
theorem cnt_le (m : ModeC) (x : Int) : ∀ k, cntP m x k ≤ k
  | 0 => Nat.le_refl _
  | k + 1 => by have := cnt_le m x k; unfold cntP; split <;> omega
theorem len_bd {m : ModeC} (h : Mb m) (x : Int) : ∀ k, k ≤ m.wn → 0 ≤ lenP m x k ∧ lenP m x k ≤ k * 1000000000
  | 0, _ => by simp [lenP]
  | k + 1, hk => by
    have h1 := len_bd h x k (by omega)
    have h2 := h.ln k (by omega)
    unfold lenP
    split <;> omega
/-- a mode, in a variable -/
structure Mv (w0 w : World) (c : ConfC) (m : ModeC) (mb : Nat) : Prop where
  S : Hid (Cs w0 w w0.heap.size c)
  box : Box w mb #[.int .i64 m.fr, .slice m.wa m.wn m.wc] 52
theorem mv_next {w0 w w1 : World} {c : ConfC} {m : ModeC} {mb : Nat} (h : Hid (Mv w0 w c m mb)) (k : Below w.heap.size w w1) : Hid (Mv w0 w1 c m mb) := Lib.hid ⟨cs_next h.out.S k, h.out.box.next k⟩
theorem wins_eq {w0 w : World} {c : ConfC} {m : ModeC} {mb : Nat} (h : Hid (Mv w0 w c m mb)) (k : Nat) (hk : k < m.wn) (ok : m.Ok w0) : ∃ b off, m.wa = some ⟨b, off, none⟩ ∧ w.cell? ⟨b, off + k * 3, none⟩ = some (.int .i64 (m.wf k 0)) ∧ w.cell? ⟨b, off + k * 3 + 1, none⟩ = some (.int .i64 (m.wf k 1)) ∧ w.cell? ⟨b, off + k * 3 + 2, none⟩ = some (.int .i64 (m.wf k 2)) := by
  obtain ⟨b, off, ea, hlt, q0, q1, q2, _⟩ := rows_at3 ok.win k hk
  exact ⟨b, off, ea, keep h.out.S.out.bel q0 hlt, keep h.out.S.out.bel q1 hlt, keep h.out.S.out.bel q2 hlt⟩
def loadP (c : ConfC) (mode part : Int) : Int × Int × Int :=
  if isF c mode = true ∧ 0 ≤ part ∧ part < (c.pn : Int) then ((cntP (c.m mode.toNat) part (c.m mode.toNat).wn : Int), lenP (c.m mode.toNat) part (c.m mode.toNat).wn, 0) else (0, 0, 2)
set_option maxRecDepth 100000 in
set_option maxHeartbeats 1000000 in
theorem Load_any (c : ConfC) (mode part : Int) (x y e' : Int) (w : World) (ok : c.Ok w) (sh : Sh c) (hr : Hid (loadP c mode part = (x, y, e'))) :
    Calls Tryz.prog 17 #[.agg #[.slice c.pa c.pn c.pc, .slice c.ca c.cn c.cc, .slice c.ma c.mn c.mc, .slice c.w.la c.w.ln c.w.lc, .slice c.w.na c.w.nn c.w.nc, .int .i64 c.w.sw, .int .i64 c.w.id, .int .i64 c.w.ch, .int .i64 c.w.qu, .int .i64 c.w.sl, .int .i64 c.w.pp, .slice c.da c.dn c.dc, .slice c.ua c.un c.uc], .int .i64 mode, .int .i64 part] w fun e w' => e = .returned (.tuple #[.int .i64 x, .int .i64 y, .int .i64 e']) ∧ Below w.heap.size w w' := by
  have hpn := ok.parts.out.1
  have hr := hr.out
  unfold loadP at hr
  have OK := Lib.hid (fun w' (h : Below w.heap.size w w') => ok.below h (Nat.le_refl _))
  obtain ⟨f, hf⟩ : ∃ f, isF c mode = f := ⟨_, rfl⟩
  have CK := Lib.hid (fun w' (h : c.Ok w') => find_any c mode f w' h (Lib.hid hf))
  have S := cs_in w c
  have bc := S.out.box.cell
  rw [hf] at hr
  have ways : (f = false ∧ x = 0 ∧ y = 0 ∧ e' = 2) ∨ (f = true ∧ part < 0 ∧ x = 0 ∧ y = 0 ∧ e' = 2) ∨ (f = true ∧ 0 ≤ part ∧ (c.pn : Int) ≤ part ∧ x = 0 ∧ y = 0 ∧ e' = 2) ∨ (f = true ∧ 0 ≤ part ∧ part < (c.pn : Int) ∧ x = (cntP (c.m mode.toNat) part (c.m mode.toNat).wn : Int) ∧ y = lenP (c.m mode.toNat) part (c.m mode.toNat).wn ∧ e' = 0) := by
    cases f
    · rw [if_neg (by simp)] at hr; simp only [Prod.mk.injEq] at hr; exact .inl ⟨rfl, hr.1.symm, hr.2.1.symm, hr.2.2.symm⟩
    · by_cases h1 : part < 0
      · rw [if_neg (by omega)] at hr; simp only [Prod.mk.injEq] at hr; exact .inr (.inl ⟨rfl, h1, hr.1.symm, hr.2.1.symm, hr.2.2.symm⟩)
      · by_cases h2 : (c.pn : Int) ≤ part
        · rw [if_neg (by omega)] at hr; simp only [Prod.mk.injEq] at hr; exact .inr (.inr (.inl ⟨rfl, by omega, h2, hr.1.symm, hr.2.1.symm, hr.2.2.symm⟩))
        · rw [if_pos ⟨rfl, by omega, by omega⟩] at hr; simp only [Prod.mk.injEq] at hr; exact .inr (.inr (.inr ⟨rfl, by omega, by omega, hr.1.symm, hr.2.1.symm, hr.2.2.symm⟩))
  have HF := Lib.hid hf
  clear hr hf
  rcases ways with ⟨rfl, rfl, rfl, rfl⟩ | ⟨rfl, h1, rfl, rfl, rfl⟩ | ⟨rfl, h1, h2, rfl, rfl, rfl⟩ | ⟨rfl, h1, h2, rfl, rfl, rfl⟩
  · simp only [Bool.false_eq_true, if_false] at CK
    generalize m0 = m at *
    go_enter Tryz.func17, Tryz.ntmps17
    go_wp2_with fail
    generalize w.alloc (.cells #[.slice c.pa c.pn c.pc, .slice c.ca c.cn c.cc, .slice c.ma c.mn c.mc, .slice c.w.la c.w.ln c.w.lc, .slice c.w.na c.w.nn c.w.nc, .int .i64 c.w.sw, .int .i64 c.w.id, .int .i64 c.w.ch, .int .i64 c.w.qu, .int .i64 c.w.sl, .int .i64 c.w.pp, .slice c.da c.dn c.dc, .slice c.ua c.un c.uc] 33) = W at *
    refine (CK.out _ (OK.out _ S.out.bel)).mono ?_
    rintro e1 w5 ⟨rfl, k5⟩
    have S := cs_next S k5
    clear k5 bc
    have S := Lib.hid (show Mv w (w5.alloc (.cells #[.int .i64 m.fr, .slice m.wa m.wn m.wc] 52)) c m w5.heap.size from ⟨cs_alloc S _, Box.new _ _ _⟩)
    have bc := S.out.S.out.box.cell
    have bm := S.out.box.cell
    go_wp2_with fail
    generalize w5.alloc (.cells #[.int .i64 m.fr, .slice m.wa m.wn m.wc] 52) = W2 at *
    generalize w5.heap.size = mb at *
    clear bc bm
    refine bodyPost_ret (v := .tuple #[.int .i64 0, .int .i64 0, .int .i64 2]) ?_ rfl ⟨rfl, S.out.S.out.bel⟩
    simp [results, Tryz.results17, go_sem]
  · simp only [if_true] at CK
    generalize c.m mode.toNat = m at *
    go_enter Tryz.func17, Tryz.ntmps17
    go_wp2_with fail
    generalize w.alloc (.cells #[.slice c.pa c.pn c.pc, .slice c.ca c.cn c.cc, .slice c.ma c.mn c.mc, .slice c.w.la c.w.ln c.w.lc, .slice c.w.na c.w.nn c.w.nc, .int .i64 c.w.sw, .int .i64 c.w.id, .int .i64 c.w.ch, .int .i64 c.w.qu, .int .i64 c.w.sl, .int .i64 c.w.pp, .slice c.da c.dn c.dc, .slice c.ua c.un c.uc] 33) = W at *
    refine (CK.out _ (OK.out _ S.out.bel)).mono ?_
    rintro e1 w5 ⟨rfl, k5⟩
    have S := cs_next S k5
    clear k5 bc
    have S := Lib.hid (show Mv w (w5.alloc (.cells #[.int .i64 m.fr, .slice m.wa m.wn m.wc] 52)) c m w5.heap.size from ⟨cs_alloc S _, Box.new _ _ _⟩)
    have bc := S.out.S.out.box.cell
    have bm := S.out.box.cell
    go_wp2_with fail
    generalize w5.alloc (.cells #[.int .i64 m.fr, .slice m.wa m.wn m.wc] 52) = W2 at *
    generalize w5.heap.size = mb at *
    clear bc bm
    refine bodyPost_ret (v := .tuple #[.int .i64 0, .int .i64 0, .int .i64 2]) ?_ rfl ⟨rfl, S.out.S.out.bel⟩
    simp [results, Tryz.results17, go_sem]
  · simp only [if_true] at CK
    generalize c.m mode.toNat = m at *
    go_enter Tryz.func17, Tryz.ntmps17
    go_wp2_with fail
    generalize w.alloc (.cells #[.slice c.pa c.pn c.pc, .slice c.ca c.cn c.cc, .slice c.ma c.mn c.mc, .slice c.w.la c.w.ln c.w.lc, .slice c.w.na c.w.nn c.w.nc, .int .i64 c.w.sw, .int .i64 c.w.id, .int .i64 c.w.ch, .int .i64 c.w.qu, .int .i64 c.w.sl, .int .i64 c.w.pp, .slice c.da c.dn c.dc, .slice c.ua c.un c.uc] 33) = W at *
    refine (CK.out _ (OK.out _ S.out.bel)).mono ?_
    rintro e1 w5 ⟨rfl, k5⟩
    have S := cs_next S k5
    clear k5 bc
    have S := Lib.hid (show Mv w (w5.alloc (.cells #[.int .i64 m.fr, .slice m.wa m.wn m.wc] 52)) c m w5.heap.size from ⟨cs_alloc S _, Box.new _ _ _⟩)
    have bc := S.out.S.out.box.cell
    have bm := S.out.box.cell
    go_wp2_with fail
    generalize w5.alloc (.cells #[.int .i64 m.fr, .slice m.wa m.wn m.wc] 52) = W2 at *
    generalize w5.heap.size = mb at *
    clear bc bm
    refine bodyPost_ret (v := .tuple #[.int .i64 0, .int .i64 0, .int .i64 2]) ?_ rfl ⟨rfl, S.out.S.out.bel⟩
    simp [results, Tryz.results17, go_sem]
  · simp only [if_true] at CK
    obtain ⟨v, a0, a1⟩ := isF_iff.1 HF.out
    have MB := mb_of v sh mode.toNat (by omega)
    have MO := ok.mode mode.toNat (by omega)
    clear HF v
    generalize c.m mode.toNat = m at *
    have hwn := MB.wn
    go_enter Tryz.func17, Tryz.ntmps17
    go_wp2_with fail
    generalize w.alloc (.cells #[.slice c.pa c.pn c.pc, .slice c.ca c.cn c.cc, .slice c.ma c.mn c.mc, .slice c.w.la c.w.ln c.w.lc, .slice c.w.na c.w.nn c.w.nc, .int .i64 c.w.sw, .int .i64 c.w.id, .int .i64 c.w.ch, .int .i64 c.w.qu, .int .i64 c.w.sl, .int .i64 c.w.pp, .slice c.da c.dn c.dc, .slice c.ua c.un c.uc] 33) = W at *
    refine (CK.out _ (OK.out _ S.out.bel)).mono ?_
    rintro e1 w5 ⟨rfl, k5⟩
    have S := cs_next S k5
    clear k5 bc
    have S := Lib.hid (show Mv w (w5.alloc (.cells #[.int .i64 m.fr, .slice m.wa m.wn m.wc] 52)) c m w5.heap.size from ⟨cs_alloc S _, Box.new _ _ _⟩)
    have bc := S.out.S.out.box.cell
    have bm := S.out.box.cell
    go_wp2_with fail
    generalize w5.alloc (.cells #[.int .i64 m.fr, .slice m.wa m.wn m.wc] 52) = W2 at *
    generalize w5.heap.size = mb at *
    clear bc bm
    go_loopw [11, 12, 37] (fun a b i wr => ∃ k : Nat, k ≤ m.wn ∧ i = .int .i64 k ∧ a = .int .i64 (cntP m part k : Int) ∧ b = .int .i64 (lenP m part k) ∧ Hid (Mv w wr c m mb)) (fun _ _ i _ => m.wn - (intOf i).toNat)
    case atStart => exact ⟨0, by omega, rfl, rfl, rfl, S⟩
    case round =>
      clear S
      obtain ⟨k, hk, rfl, rfl, rfl, S⟩ := hrel
      by_cases hl : k < m.wn
      · obtain ⟨b, off, ea, q0, q1, q2⟩ := wins_eq S k hl MO
        have hc := cnt_le m part k
        obtain ⟨n0, n1⟩ := len_bd MB part k hk
        obtain ⟨z0, z1⟩ := MB.ln k hl
        rw [ea]
        have EC := Lib.hid (show cntP m part (k + 1) = if m.wf k 0 = part then cntP m part k + 1 else cntP m part k from rfl)
        have EL := Lib.hid (show lenP m part (k + 1) = if m.wf k 0 = part then lenP m part k + m.wf k 2 else lenP m part k from rfl)
        generalize m.wf k 0 = x0 at *
        generalize m.wf k 1 = x1 at *
        generalize m.wf k 2 = x2 at *
        generalize cntP m part k = N at *
        generalize lenP m part k = L at *
        have S2 := mv_next S ((Below.refl wr.heap.size wr).alloc (Nat.le_refl _) (.cells #[.int .i64 x0, .int .i64 x1, .int .i64 x2] 54))
        clear ea
        by_cases hx : x0 = part
        · have e1 := EC.out
          have e2 := EL.out
          rw [if_pos hx] at e1 e2
          have hx' : (x0 == part) = true := by simpa using hx
          have E1 := Lib.hid e1
          have E2 := Lib.hid e2
          clear hx e1 e2
          go_wp2_with fail
          go_roundw
          case rel => exact ⟨k + 1, by omega, by go_num, by rw [E1.out]; go_num, by rw [E2.out], S2⟩
          case measure => simp [intOf]; omega
        · have e1 := EC.out
          have e2 := EL.out
          rw [if_neg hx] at e1 e2
          have hx' : (x0 == part) = false := by simpa using hx
          have E1 := Lib.hid e1
          have E2 := Lib.hid e2
          clear hx e1 e2
          go_wp2_with fail
          go_roundw
          case rel => exact ⟨k + 1, by omega, by go_num, by rw [E1.out], by rw [E2.out], S2⟩
          case measure => simp [intOf]; omega
      · obtain rfl : k = m.wn := by omega
        go_wp2_with fail
        refine bodyPost_ret (v := .tuple #[.int .i64 (cntP m part m.wn : Int), .int .i64 (lenP m part m.wn), .int .i64 0]) ?_ rfl ⟨rfl, S.out.S.out.bel⟩
        simp [results, Tryz.results17, go_sem]
def sumL (m : ModeC) (k : Nat) : Int := sumTo (fun i => m.wf i 2) k
theorem sumL_bd {m : ModeC} (h : Mb m) : ∀ k, k ≤ m.wn → 0 ≤ sumL m k ∧ sumL m k ≤ k * 1000000000
  | 0, _ => by simp [sumL, sumTo]
  | k + 1, hk => by
    have h1 := sumL_bd h k (by omega)
    have h2 := h.ln k (by omega)
    unfold sumL at *
    rw [sumTo]
    omega
def freeP (c : ConfC) (mode : Int) : Int × Int := if isF c mode = true then ((c.m mode.toNat).fr - sumL (c.m mode.toNat) (c.m mode.toNat).wn, 0) else (0, 2)
set_option maxRecDepth 100000 in
set_option maxHeartbeats 1000000 in
theorem Free_any (c : ConfC) (mode : Int) (x e' : Int) (w : World) (ok : c.Ok w) (sh : Sh c) (hr : Hid (freeP c mode = (x, e'))) :
    Calls Tryz.prog 18 #[.agg #[.slice c.pa c.pn c.pc, .slice c.ca c.cn c.cc, .slice c.ma c.mn c.mc, .slice c.w.la c.w.ln c.w.lc, .slice c.w.na c.w.nn c.w.nc, .int .i64 c.w.sw, .int .i64 c.w.id, .int .i64 c.w.ch, .int .i64 c.w.qu, .int .i64 c.w.sl, .int .i64 c.w.pp, .slice c.da c.dn c.dc, .slice c.ua c.un c.uc], .int .i64 mode] w fun e w' => e = .returned (.tuple #[.int .i64 x, .int .i64 e']) ∧ Below w.heap.size w w' := by
  have hr := hr.out
  unfold freeP at hr
  have OK := Lib.hid (fun w' (h : Below w.heap.size w w') => ok.below h (Nat.le_refl _))
  obtain ⟨f, hf⟩ : ∃ f, isF c mode = f := ⟨_, rfl⟩
  have CK := Lib.hid (fun w' (h : c.Ok w') => find_any c mode f w' h (Lib.hid hf))
  have S := cs_in w c
  have bc := S.out.box.cell
  rw [hf] at hr
  have HF := Lib.hid hf
  clear hf
  cases f
  · simp only [Bool.false_eq_true, if_false, Prod.mk.injEq] at CK hr
    obtain ⟨rfl, rfl⟩ := hr
    generalize m0 = m at *
    go_enter Tryz.func18, Tryz.ntmps18
    go_wp2_with fail
    generalize w.alloc (.cells #[.slice c.pa c.pn c.pc, .slice c.ca c.cn c.cc, .slice c.ma c.mn c.mc, .slice c.w.la c.w.ln c.w.lc, .slice c.w.na c.w.nn c.w.nc, .int .i64 c.w.sw, .int .i64 c.w.id, .int .i64 c.w.ch, .int .i64 c.w.qu, .int .i64 c.w.sl, .int .i64 c.w.pp, .slice c.da c.dn c.dc, .slice c.ua c.un c.uc] 33) = W at *
    refine (CK.out _ (OK.out _ S.out.bel)).mono ?_
    rintro e1 w5 ⟨rfl, k5⟩
    have S := cs_next S k5
    clear k5 bc
    have S := Lib.hid (show Mv w (w5.alloc (.cells #[.int .i64 m.fr, .slice m.wa m.wn m.wc] 52)) c m w5.heap.size from ⟨cs_alloc S _, Box.new _ _ _⟩)
    have bc := S.out.S.out.box.cell
    have bm := S.out.box.cell
    go_wp2_with fail
    generalize w5.alloc (.cells #[.int .i64 m.fr, .slice m.wa m.wn m.wc] 52) = W2 at *
    generalize w5.heap.size = mb at *
    clear bc bm
    go_ret2
    exact ⟨rfl, S.out.S.out.bel⟩
  · simp only [if_true, Prod.mk.injEq] at CK hr
    obtain ⟨rfl, rfl⟩ := hr
    obtain ⟨v, a0, a1⟩ := isF_iff.1 HF.out
    have MB := mb_of v sh mode.toNat (by omega)
    have MO := ok.mode mode.toNat (by omega)
    clear HF v
    generalize c.m mode.toNat = m at *
    have hwn := MB.wn
    have hfr := MB.fr
    go_enter Tryz.func18, Tryz.ntmps18
    go_wp2_with fail
    generalize w.alloc (.cells #[.slice c.pa c.pn c.pc, .slice c.ca c.cn c.cc, .slice c.ma c.mn c.mc, .slice c.w.la c.w.ln c.w.lc, .slice c.w.na c.w.nn c.w.nc, .int .i64 c.w.sw, .int .i64 c.w.id, .int .i64 c.w.ch, .int .i64 c.w.qu, .int .i64 c.w.sl, .int .i64 c.w.pp, .slice c.da c.dn c.dc, .slice c.ua c.un c.uc] 33) = W at *
    refine (CK.out _ (OK.out _ S.out.bel)).mono ?_
    rintro e1 w5 ⟨rfl, k5⟩
    have S := cs_next S k5
    clear k5 bc
    have S := Lib.hid (show Mv w (w5.alloc (.cells #[.int .i64 m.fr, .slice m.wa m.wn m.wc] 52)) c m w5.heap.size from ⟨cs_alloc S _, Box.new _ _ _⟩)
    have bc := S.out.S.out.box.cell
    have bm := S.out.box.cell
    go_wp2_with fail
    generalize w5.alloc (.cells #[.int .i64 m.fr, .slice m.wa m.wn m.wc] 52) = W2 at *
    generalize w5.heap.size = mb at *
    clear bc bm
    go_loopw [8, 24] (fun b i wr => ∃ k : Nat, k ≤ m.wn ∧ i = .int .i64 k ∧ b = .int .i64 (m.fr - sumL m k) ∧ Hid (Mv w wr c m mb)) (fun _ i _ => m.wn - (intOf i).toNat)
    case atStart => exact ⟨0, by omega, rfl, by simp [sumL, sumTo], S⟩
    case round =>
      clear S
      obtain ⟨k, hk, rfl, rfl, S⟩ := hrel
      by_cases hl : k < m.wn
      · obtain ⟨b, off, ea, q0, q1, q2⟩ := wins_eq S k hl MO
        obtain ⟨n0, n1⟩ := sumL_bd MB k hk
        obtain ⟨z0, z1⟩ := MB.ln k hl
        rw [ea]
        have EL := Lib.hid (show sumL m (k + 1) = sumL m k + m.wf k 2 from rfl)
        generalize m.wf k 0 = x0 at *
        generalize m.wf k 1 = x1 at *
        generalize m.wf k 2 = x2 at *
        generalize sumL m k = L at *
        have S2 := mv_next S ((Below.refl wr.heap.size wr).alloc (Nat.le_refl _) (.cells #[.int .i64 x0, .int .i64 x1, .int .i64 x2] 54))
        clear ea
        go_wp2_with fail
        go_roundw
        case rel => exact ⟨k + 1, by omega, by go_num, by rw [EL.out]; congr 1; omega, S2⟩
        case measure => simp [intOf]; omega
      · obtain rfl : k = m.wn := by omega
        go_wp2_with fail
        go_ret2
        exact ⟨rfl, S.out.S.out.bel⟩
end Go.Proofs.YtlafeijkpnpdeaaGreat.Sof

import Derived.Test.YtlafeijkpnpdeaaGreatMg30
import Derived.Test.YtlafeijkpnpdeaaGreatMg9

/- The reference of slots: Rows. -/
namespace Go.Proofs.YtlafeijkpnpdeaaGreat.Soj
open Go.RowKit Base Kit RefA WideA WideB RefC Plain Conf Conf2 PowA PowB Vfa Vfb Val Vld Vpa Vpb Vpr Vsh Short Vcf Vch Vci Vnu Vmo Vck Vrp Vl4 FitA FitB FitC NapG Soa Sob Soc Sod Soe Sof Alt Cls Sog Soh Soi Held
set_option linter.unusedVariables false
set_option linter.unusedSimpArgs false
attribute [local go_sem ↓] Go.wp_at_zero Go.wp_at_succ
theorem infoRowr : (Tryz.prog.info? 42).map (fun i => (i.zero, i.size, i.bytes)) = some (some (.agg #[.int .i64 0, .int .i64 0, .int .i64 0, .int .i64 0, .int .i64 0, .int .i64 0, .int .i64 0]), 7, 56) := by kernel_rfl
theorem own_below {w w1 : World} {base n size : Nat} {e : TypeId} {v : Value} {xs : List Value} (h : w.ownsRow base e size v n xs) (k : Below w.heap.size w w1) : w1.ownsRow base e size v n xs := by
  by_cases hv : v = .slice none 0 0
  · obtain ⟨h1, h2⟩ := h
    refine ⟨h1, ?_⟩
    rcases h2 with h2 | ⟨g, cap, cur, e1, r⟩
    · exact .inl h2
    · rw [hv] at e1; simp at e1
  · obtain ⟨g, c, rfl, _, _⟩ := own_form h hv
    exact own_alt h (Alt.of_below (S := fun _ => False) k) id
/-- the configuration's box, and the rows that there are -/
structure Rr (w0 w : World) (c : ConfC) (v : Value) (L : List (Nat × Nat)) : Prop where
  S : Hid (Cs w0 w w0.heap.size c)
  own : w.ownsRow w0.heap.size 42 7 v L.length (encR c L)
theorem rr_next {w0 w w1 : World} {c : ConfC} {v : Value} {L : List (Nat × Nat)} (h : Hid (Rr w0 w c v L)) (k : Below w.heap.size w w1) : Hid (Rr w0 w1 c v L) :=
  Lib.hid ⟨cs_next h.out.S k, own_below h.out.own k⟩
/-- with a mode's box -/
structure Rm (w0 w : World) (c : ConfC) (v : Value) (L : List (Nat × Nat)) (m : ModeC) (mb : Nat) : Prop where
  R : Hid (Rr w0 w c v L)
  box : Box w mb #[.int .i64 m.fr, .slice m.wa m.wn m.wc] 52
theorem rm_next {w0 w w1 : World} {c : ConfC} {v : Value} {L : List (Nat × Nat)} {m : ModeC} {mb : Nat} (h : Hid (Rm w0 w c v L m mb)) (k : Below w.heap.size w w1) : Hid (Rm w0 w1 c v L m mb) :=
  Lib.hid ⟨rr_next h.out.R k, h.out.box.next k⟩
/-- with a window's -/
structure Rw (w0 w : World) (c : ConfC) (v : Value) (L : List (Nat × Nat)) (m : ModeC) (mb wb : Nat) (y0 y1 y2 : Int) : Prop where
  R : Hid (Rm w0 w c v L m mb)
  box : Box w wb #[.int .i64 y0, .int .i64 y1, .int .i64 y2] 54
theorem rw_next {w0 w w1 : World} {c : ConfC} {v : Value} {L : List (Nat × Nat)} {m : ModeC} {mb wb : Nat} {y0 y1 y2 : Int} (h : Hid (Rw w0 w c v L m mb wb y0 y1 y2)) (k : Below w.heap.size w w1) : Hid (Rw w0 w1 c v L m mb wb y0 y1 y2) :=
  Lib.hid ⟨rm_next h.out.R k, h.out.box.next k⟩
theorem own_neR {w : World} {base : Nat} {e T : TypeId} {size n b : Nat} {v : Value} {xs : List Value} {vs : Array Value} (h : w.ownsRow base e size v n xs) (k : Box w b vs T) (hne : e ≠ T) : v.ownBlock ≠ some b := by
  rcases h.2 with ⟨h', _⟩ | ⟨g', cap', cur, hv, hg, hh, r⟩
  · rw [h']; simp [Value.ownBlock]
  · rw [hv]
    intro e1
    simp only [Value.ownBlock, Option.some.injEq] at e1
    subst e1
    unfold Box at k
    rw [k] at hh
    simp at hh
    exact hne hh.2.symm
theorem rm_app {w0 w w2 : World} {c : ConfC} {v v' : Value} {L : List (Nat × Nat)} {m : ModeC} {mb : Nat} {z : Nat × Nat} (h : Hid (Rm w0 w c v L m mb)) (hg : w.grownBy w2 v.ownBlock) (hown : w2.ownsRow w0.heap.size 42 7 v' (L.length + 1) (encR c L ++ rv c z)) : Hid (Rm w0 w2 c v' (L ++ [z]) m mb) := by
  have o := h.out.R.out.own
  refine Lib.hid ⟨Lib.hid ⟨Lib.hid ⟨?_, ?_⟩, ?_⟩, ?_⟩
  · refine Alt.below (S := fun i => v.ownBlock = some i) h.out.R.out.S.out.bel (Alt.of_grown hg (fun i e => e)) h.out.R.out.S.out.bel.size (fun i e => (World.ownsRow.lt o i e).1)
  · exact h.out.R.out.S.out.box.grown hg (fun e => own_neR o h.out.R.out.S.out.box (by decide) e.symm)
  · rw [List.length_append, encR_snoc]; exact hown
  · exact h.out.box.grown hg (fun e => own_neR o h.out.box (by decide) e.symm)
def RrPost (c : ConfC) (w : World) (r : Ending) (w' : World) : Prop := ∃ v, r = .returned v ∧ w'.ownsRow w.heap.size 42 7 v (rowsL c).length (encR c (rowsL c)) ∧ Below w.heap.size w w'
set_option maxRecDepth 100000 in
set_option maxHeartbeats 8000000 in
theorem Rowsr_any (c : ConfC) (w : World) (ok : c.Ok w) (sh : Sh c) :
    Calls Tryz.prog 10 #[.agg #[.slice c.pa c.pn c.pc, .slice c.ca c.cn c.cc, .slice c.ma c.mn c.mc, .slice c.w.la c.w.ln c.w.lc, .slice c.w.na c.w.nn c.w.nc, .int .i64 c.w.sw, .int .i64 c.w.id, .int .i64 c.w.ch, .int .i64 c.w.qu, .int .i64 c.w.sl, .int .i64 c.w.pp, .slice c.da c.dn c.dc, .slice c.ua c.un c.uc]] w (RrPost c w) := by
  have OK := Lib.hid (fun w' (h : Below w.heap.size w w') => ok.below h (Nat.le_refl _))
  have hmn := ok.modes.out.1
  have hln := ok.pow.lev.out.1
  obtain ⟨f, hf⟩ : ∃ f, decide ((CheckR c).1 = 0) = f := ⟨_, rfl⟩
  have CK := Lib.hid (fun w' (h : c.Ok w') => May_any c w' f h (Lib.hid hf))
  have S := cs_in w c
  have bc := S.out.box.cell
  go_enter Tryz.func10, Tryz.ntmps10
  go_wp2_with fail
  generalize w.alloc (.cells #[.slice c.pa c.pn c.pc, .slice c.ca c.cn c.cc, .slice c.ma c.mn c.mc, .slice c.w.la c.w.ln c.w.lc, .slice c.w.na c.w.nn c.w.nc, .int .i64 c.w.sw, .int .i64 c.w.id, .int .i64 c.w.ch, .int .i64 c.w.qu, .int .i64 c.w.sl, .int .i64 c.w.pp, .slice c.da c.dn c.dc, .slice c.ua c.un c.uc] 33) = W at *
  refine (CK.out _ (OK.out _ S.out.bel)).mono ?_
  rintro e1 w5 ⟨rfl, k5⟩
  have S := cs_next S k5
  clear k5 bc CK
  cases f
  · have EL : rowsL c = [] := by unfold rowsL; rw [if_neg (of_decide_eq_false hf)]
    clear hf
    go_wp2_with fail
    go_ret
    exact ⟨_, rfl, by rw [EL]; exact World.ownsRow_nil _ _ _ _, S.out.bel⟩
  have hv := of_decide_eq_true hf
  have EL := Lib.hid (show rowsL c = prs c c.mn from if_pos hv)
  have HV := Lib.hid hv
  have GL := gl_of hv
  have LB := Lib.hid (prs_bd (c := c) sh.2.2)
  obtain ⟨ln0, ln1⟩ := GL.ln
  clear hf hv GL
  have bc := S.out.box.cell
  have R : Hid (Rr w w5 c (.slice none 0 0) []) := Lib.hid ⟨S, World.ownsRow_nil _ _ _ _⟩
  obtain ⟨tp, htp⟩ : ∃ tp : Nat, (c.w.ln : Int) - 1 = tp := ⟨c.w.ln - 1, by omega⟩
  have HTP := Lib.hid htp
  have tp0 : tp + 1 ≤ c.w.ln := by omega
  have tp1 : c.w.ln ≤ tp + 1 := by omega
  clear htp
  go_wp2_with fail
  rw [HTP.out]
  clear bc S
  go_loopw [3, 5] (fun x i wr => ∃ (k : Nat) (v : Value), k ≤ c.mn ∧ i = .int .i64 k ∧ x = v ∧ Hid (Rr w wr c v (prs c k))) (fun _ i _ => c.mn - (intOf i).toNat)
  case atStart => exact ⟨0, _, by omega, rfl, rfl, R⟩
  case round =>
    clear R
    obtain ⟨i, v, hi, rfl, hx, R⟩ := hrel
    have hx' := hx.symm
    clear hx
    subst hx'
    by_cases hl : i < c.mn
    · obtain ⟨b, off, ea, hlt, g0, g1⟩ := mode_cells ok i hl
      have win := (ok.mode i hl).win
      have MB := mb_of HV.out sh i hl
      have G := (check_good HV.out).mode i hl
      have WB := Lib.hid (fun j (hj : j < (c.m i).wn) => win_bd G.1 G.2.1 hj)
      have lb := LB.out i hi
      replace ea := Lib.hid ea
      obtain ⟨m, hm⟩ : ∃ m, c.m i = m := ⟨_, rfl⟩
      rw [hm] at g0 g1 MB WB win
      have HM := Lib.hid hm
      have bc : ∀ j, wr.cell? ⟨w.heap.size, j, none⟩ = (#[.slice c.pa c.pn c.pc, .slice c.ca c.cn c.cc, .slice (some ⟨b, off, none⟩) c.mn c.mc, .slice c.w.la c.w.ln c.w.lc, .slice c.w.na c.w.nn c.w.nc, .int .i64 c.w.sw, .int .i64 c.w.id, .int .i64 c.w.ch, .int .i64 c.w.qu, .int .i64 c.w.sl, .int .i64 c.w.pp, .slice c.da c.dn c.dc, .slice c.ua c.un c.uc] : Array Value)[j]? := fun j => (R.out.S.out.box.cell j).trans (by rw [ea.out])
      have q0 := keep R.out.S.out.bel g0 hlt
      have q1 := keep R.out.S.out.bel g1 hlt
      have hwn := MB.wn
      clear g0 g1 hm G
      have RM : Hid (Rm w (wr.alloc (.cells #[.int .i64 m.fr, .slice m.wa m.wn m.wc] 52)) c v (prs c i) m wr.heap.size) := Lib.hid ⟨rr_next R ((Below.refl _ _).alloc (Nat.le_refl _) _), Box.new _ _ _⟩
      go_wp2_with fail
      generalize wr.alloc (.cells #[.int .i64 m.fr, .slice m.wa m.wn m.wc] 52) = W1 at *
      generalize wr.heap.size = mb at *
      clear R bc q0 q1
      replace RM : Hid (Rm w W1 c v (prs c i ++ wins i 0) m mb) := by simpa [wins] using RM
      go_loopw [3, 7] (fun x z wr => ∃ (k : Nat) (v : Value), k ≤ m.wn ∧ z = .int .i64 k ∧ x = v ∧ Hid (Rm w wr c v (prs c i ++ wins i k) m mb)) (fun _ z _ => m.wn - (intOf z).toNat)
      case atStart => exact ⟨0, _, by omega, rfl, rfl, RM⟩
      case round =>
        clear RM
        obtain ⟨q, v, hq, rfl, hx, RM⟩ := hrel
        have hx' := hx.symm
        clear hx
        subst hx'
        by_cases hlq : q < m.wn
        · obtain ⟨d1, o1, ew, hlt1, g0, g1, g2, i0, i1, i2⟩ := rows_at3 win q hlq
          replace ew := Lib.hid ew
          have bm : ∀ j, wr.cell? ⟨mb, j, none⟩ = (#[.int .i64 m.fr, .slice (some ⟨d1, o1, none⟩) m.wn m.wc] : Array Value)[j]? := fun j => (RM.out.box.cell j).trans (by rw [ew.out])
          have q0 := keep RM.out.R.out.S.out.bel g0 hlt1
          have q1 := keep RM.out.R.out.S.out.bel g1 hlt1
          have q2 := keep RM.out.R.out.S.out.bel g2 hlt1
          have wb := WB.out q hlq
          clear g0 g1 g2
          obtain ⟨y0, e0⟩ : ∃ x, m.wf q 0 = x := ⟨_, rfl⟩
          obtain ⟨y1, e1⟩ : ∃ x, m.wf q 1 = x := ⟨_, rfl⟩
          obtain ⟨y2, e2⟩ : ∃ x, m.wf q 2 = x := ⟨_, rfl⟩
          rw [e0] at q0 i0 wb
          rw [e1] at q1 i1 wb
          rw [e2] at q2 i2 wb
          have HF0 := Lib.hid (fun p (hp : p < c.w.ln) => (fit_nR (x2 := y2) HV.out wb.1 wb.2.1 hp))
          have ND := Lib.hid (fun w' p r (hp : p < c.w.ln) (h : Hid (Rw w w' c v (prs c i ++ wins i q) m mb wr.heap.size y0 y1 y2)) (hr : Hid (nR c y0 p = r)) => (needr_any c y0 p r w' (OK.out w' h.out.R.out.R.out.S.out.bel) HV wb.1 wb.2.1 hp hr).mono (R' := fun e w'' => e = .returned (.int .i64 r) ∧ Hid (Rw w w'' c v (prs c i ++ wins i q) m mb wr.heap.size y0 y1 y2)) fun e w2 hh => ⟨hh.1, rw_next h hh.2⟩)
          have RW : Hid (Rw w (wr.alloc (.cells #[.int .i64 y0, .int .i64 y1, .int .i64 y2] 54)) c v (prs c i ++ wins i q) m mb wr.heap.size y0 y1 y2) := Lib.hid ⟨rm_next RM ((Below.refl _ _).alloc (Nat.le_refl _) _), Box.new _ _ _⟩
          go_wp2_with fail
          generalize wr.alloc (.cells #[.int .i64 y0, .int .i64 y1, .int .i64 y2] 54) = W2 at *
          generalize wr.heap.size = wd at *
          clear RM bm q0 q1 q2
          go_loopw [9, 10] (fun l j wr => ∃ (t : Nat) (z : Int), t ≤ c.w.ln ∧ j = .int .i64 ((tp : Int) - t) ∧ l = .int .i64 z ∧ Hid (dn (fitL c y0 y2) c.w.ln t = z) ∧ Hid (Rw w wr c v (prs c i ++ wins i q) m mb wd y0 y1 y2)) (fun _ j _ => (intOf j + 1).toNat)
          case atStart => exact ⟨0, _, by omega, by simp, rfl, Lib.hid rfl, RW⟩
          case round =>
            clear RW
            obtain ⟨t, z, ht, rfl, rfl, HZ, RW⟩ := hrel
            by_cases hlt3 : t < c.w.ln
            · obtain ⟨p, hp⟩ : ∃ p : Nat, (tp : Int) - t = p := ⟨tp - t, by omega⟩
              rw [hp]
              have hp1 : p < c.w.ln := by omega
              have HP := Lib.hid (show p = c.w.ln - 1 - t by omega)
              have HP2 := Lib.hid hp
              clear hp
              obtain ⟨r, hr⟩ : ∃ r, nR c y0 p = r := ⟨_, rfl⟩
              have HR := Lib.hid hr
              have hf := HF0.out p hp1
              rw [hr] at hf
              have HF := Lib.hid hf
              clear hf hr
              go_wp2_with fail
              replace RW := rw_next RW (Below.refl _ _).drew
              refine cls_region (fun w' => Hid (Rw w w' c v (prs c i ++ wins i q) m mb wd y0 y1 y2)) (by kernel_rfl) (by kernel_rfl) RW ?_
              repeat
                (first
                  | (refine Cls.cls_take (v := ?_) (by rfl) (fun w' hC => ?_) ?_
                     rotate_left
                     · (have r1 := hC.out.R.out.R.out.S.out.box.cell; have r2 := hC.out.box.cell
                        (go_simp)
                        try (first
                          | done
                          | (with_reducible rfl)
                          | (exact ND.out _ _ _ hp1 hC HR))))
                  | refine Cls.cls_skip (by rfl) ?_)
                try simp only [Act.put, List.setIfInBounds_toArray, List.set_cons_zero, List.set_cons_succ, List.getElem_toArray, List.getElem_cons_succ, List.getElem_cons_zero]
              refine wpQuiet_nil ?_
              clear RW
              intro w6 RW
              by_cases hle : r ≤ y2
              · go_wp2_with fail
                go_roundw
                case rel => exact ⟨t + 1, p, by omega, by have := HP2.out; congr 1; omega, rfl, Lib.hid (by have := HF.out; have e := HP.out; rw [dn, ← e, this, if_pos (by simpa using hle)]), RW⟩
                case measure => simp [intOf] <;> omega
              · go_wp2_with fail
                go_roundw
                case rel => exact ⟨t + 1, z, by omega, by have := HP2.out; congr 1; omega, rfl, Lib.hid (by have := HF.out; have e := HP.out; rw [dn, ← e, this, if_neg (by simpa using hle)]; exact HZ.out), RW⟩
                case measure => simp [intOf] <;> omega
            · rw [show (tp : Int) - (t : Int) = -1 by omega]
              obtain rfl : t = c.w.ln := by omega
              have bm : ∀ j, wr.cell? ⟨mb, j, none⟩ = (#[.int .i64 m.fr, .slice (some ⟨d1, o1, none⟩) m.wn m.wc] : Array Value)[j]? := fun j => (RW.out.R.out.box.cell j).trans (by rw [ew.out])
              have bw := RW.out.box.cell
              have GE := Lib.hid (show gapP m q = (if q + 1 < m.wn then m.wf (q + 1) 1 else m.fr) - (y1 + y2) by rw [← e1, ← e2]; rfl)
              obtain ⟨G, hG⟩ : ∃ G, gapP m q = G := ⟨_, rfl⟩
              by_cases hn : q + 1 < m.wn
              · obtain ⟨d2, o2, ew2, hlt2, -, g1, -, -, i1', -⟩ := rows_at3 win (q + 1) hn
                rw [ew.out] at ew2
                simp only [Option.some.injEq, Addr.mk.injEq, and_true] at ew2
                obtain ⟨rfl, rfl⟩ := ew2
                have q1 := keep RW.out.R.out.R.out.S.out.bel g1 hlt2
                have wb2 := WB.out (q + 1) hn
                obtain ⟨y3, e3⟩ : ∃ x, m.wf (q + 1) 1 = x := ⟨_, rfl⟩
                rw [e3] at q1 i1' wb2
                have HG := Lib.hid (show y3 - y1 - y2 = G by rw [← hG, GE.out, if_pos hn, e3]; omega)
                have GP := Lib.hid hG
                have ROW := Lib.hid (show rv c (i, q) = [.int .i64 i, .int .i64 q, .int .i64 (m.wf q 0), .int .i64 (lowP c (m.wf q 0) (m.wf q 2)), .int .i64 (spareP c (m.wf q 0) (m.wf q 2)), .int .i64 (gapP m q), .int .i64 (BestR c.w 0 (gapP m q))] by unfold rv; rw [HM.out])
                rw [e0, e2, hG] at ROW
                clear g1 hG e0 e1 e2 e3
                go_wp2_with fail
                rw [HG.out]
                clear q1 bm bw
                have htp2 : tp < c.w.ln := by omega
                obtain ⟨r, hr⟩ : ∃ r, nR c y0 tp = r := ⟨_, rfl⟩
                have rb := nR_bd HV.out wb.1 wb.2.1 htp2
                rw [hr] at rb
                obtain ⟨bn, hbn⟩ : ∃ x, BestR c.w 0 G = x := ⟨_, rfl⟩
                have HB := Lib.hid hbn
                have SPR := spare_nR (x2 := y2) HV.out wb.1 wb.2.1
                rw [show c.w.ln - 1 = tp by omega, hr] at SPR
                have ROW2 := Lib.hid (show rv c (i, q) = [.int .i64 i, .int .i64 q, .int .i64 y0, .int .i64 z, .int .i64 (y2 - r), .int .i64 G, .int .i64 bn] by rw [ROW.out, SPR, hbn, ← dn_low, HZ.out])
                have HR := Lib.hid hr
                clear hr hbn SPR ROW
                have BE := Lib.hid (fun w' (h : Hid (Rw w w' c v (prs c i ++ wins i q) m mb wd y0 y1 y2)) => (NapH.Bestr_any c.w 0 G w' (OK.out w' h.out.R.out.R.out.S.out.bel).pow sh.1.2.2.2.2.1 bn HB).mono (R' := fun e w'' => e = .returned (.int .i64 bn) ∧ Hid (Rw w w'' c v (prs c i ++ wins i q) m mb wd y0 y1 y2)) fun e w2 hh => ⟨hh.1, rw_next h hh.2⟩)
                have WS : IntKind.i64.wrap (y2 - r) = y2 - r := IntWalk.i64_in _ (by omega)
                have LEN : (prs c i ++ wins i q).length ≤ 20000 := by have := sh.1.2.2.1; rw [List.length_append, wins_len]; omega
                have LEN := Lib.hid LEN
                obtain ⟨i0, hi0, hz0, hz1, hz2⟩ := info_parts infoRowr
                replace RW := rw_next RW (Below.refl _ _).drew
                refine wp_region_till (fun w' => (∀ i, w'.cell? ⟨w.heap.size, i, none⟩ = (#[.slice c.pa c.pn c.pc, .slice c.ca c.cn c.cc, .slice c.ma c.mn c.mc, .slice c.w.la c.w.ln c.w.lc, .slice c.w.na c.w.nn c.w.nc, .int .i64 c.w.sw, .int .i64 c.w.id, .int .i64 c.w.ch, .int .i64 c.w.qu, .int .i64 c.w.sl, .int .i64 c.w.pp, .slice c.da c.dn c.dc, .slice c.ua c.un c.uc] : Array Value)[i]?) ∧ ∀ i, w'.cell? ⟨wd, i, none⟩ = (#[.int .i64 y0, .int .i64 y1, .int .i64 y2] : Array Value)[i]?) (fun _ => True) 21 23 #[false, false, false, false, false, false, false, false, false, false, false, false, false, false, false, false, false, false, false, false, false, false, false] (by kernel_rfl) rfl rfl ⟨⟨RW.out.R.out.R.out.S.out.box.cell, RW.out.box.cell⟩, trivial⟩ (fun hHeld => ?_)
                refine HeldT.wpTill_takeT false (i := 0) (v := ?_) rfl (by kernel_rfl) (by kernel_rfl) (by kernel_rfl) (fun _ _ _ h => h) (by kernel_rfl) (Or.inl ⟨by first | rfl | kernel_rfl, ?_⟩) hHeld (fun hHeld => ?_)
                rotate_left
                · (intro w' hSw; obtain ⟨⟨r1, r2⟩, r3⟩ := hSw; (try have r4 := r3 rfl); (try dsimp only at r1 r2 r4); clear r3; go_simp; try with_reducible rfl)
                try simp only [Act.put, List.setIfInBounds_toArray, List.set_cons_zero, List.set_cons_succ, List.getElem_toArray, List.getElem_cons_succ, List.getElem_cons_zero]
                refine HeldT.wpTill_takeT false (i := 1) (v := ?_) rfl (by kernel_rfl) (by kernel_rfl) (by kernel_rfl) (fun _ _ _ h => h) (by kernel_rfl) (Or.inl ⟨by first | rfl | kernel_rfl, ?_⟩) hHeld (fun hHeld => ?_)
                rotate_left
                · (intro w' hSw; obtain ⟨⟨r1, r2⟩, r3⟩ := hSw; (try have r4 := r3 rfl); (try dsimp only at r1 r2 r4); clear r3; go_simp; try with_reducible rfl)
                try simp only [Act.put, List.setIfInBounds_toArray, List.set_cons_zero, List.set_cons_succ, List.getElem_toArray, List.getElem_cons_succ, List.getElem_cons_zero]
                refine HeldT.wpTill_takeT false (i := 2) (v := ?_) rfl (by kernel_rfl) (by kernel_rfl) (by kernel_rfl) (fun _ _ _ h => h) (by kernel_rfl) (Or.inl ⟨by first | rfl | kernel_rfl, ?_⟩) hHeld (fun hHeld => ?_)
                rotate_left
                · (intro w' hSw; obtain ⟨⟨r1, r2⟩, r3⟩ := hSw; (try have r4 := r3 rfl); (try dsimp only at r1 r2 r4); clear r3; go_simp; try with_reducible rfl)
                try simp only [Act.put, List.setIfInBounds_toArray, List.set_cons_zero, List.set_cons_succ, List.getElem_toArray, List.getElem_cons_succ, List.getElem_cons_zero]
                refine HeldT.wpTill_takeT false (i := 3) (v := ?_) rfl (by kernel_rfl) (by kernel_rfl) (by kernel_rfl) (fun _ _ _ h => h) (by kernel_rfl) (Or.inl ⟨by first | rfl | kernel_rfl, ?_⟩) hHeld (fun hHeld => ?_)
                rotate_left
                · (intro w' hSw; obtain ⟨⟨r1, r2⟩, r3⟩ := hSw; (try have r4 := r3 rfl); (try dsimp only at r1 r2 r4); clear r3; go_simp; try with_reducible rfl)
                try simp only [Act.put, List.setIfInBounds_toArray, List.set_cons_zero, List.set_cons_succ, List.getElem_toArray, List.getElem_cons_succ, List.getElem_cons_zero]
                refine HeldT.wpTill_takeT false (i := 4) (v := ?_) rfl (by kernel_rfl) (by kernel_rfl) (by kernel_rfl) (fun _ _ _ h => h) (by kernel_rfl) (Or.inl ⟨by first | rfl | kernel_rfl, ?_⟩) hHeld (fun hHeld => ?_)
                rotate_left
                · (intro w' hSw; obtain ⟨⟨r1, r2⟩, r3⟩ := hSw; (try have r4 := r3 rfl); (try dsimp only at r1 r2 r4); clear r3; go_simp; try with_reducible rfl)
                try simp only [Act.put, List.setIfInBounds_toArray, List.set_cons_zero, List.set_cons_succ, List.getElem_toArray, List.getElem_cons_succ, List.getElem_cons_zero]
                refine HeldT.wpTill_takeT false (i := 5) (v := ?_) rfl (by kernel_rfl) (by kernel_rfl) (by kernel_rfl) (fun _ _ _ h => h) (by kernel_rfl) (Or.inl ⟨by first | rfl | kernel_rfl, ?_⟩) hHeld (fun hHeld => ?_)
                rotate_left
                · (intro w' hSw; obtain ⟨⟨r1, r2⟩, r3⟩ := hSw; (try have r4 := r3 rfl); (try dsimp only at r1 r2 r4); clear r3; go_simp; try with_reducible rfl)
                try simp only [Act.put, List.setIfInBounds_toArray, List.set_cons_zero, List.set_cons_succ, List.getElem_toArray, List.getElem_cons_succ, List.getElem_cons_zero]
                refine HeldT.wpTill_takeT false (i := 6) (v := ?_) rfl (by kernel_rfl) (by kernel_rfl) (by kernel_rfl) (fun _ _ _ h => h) (by kernel_rfl) (Or.inl ⟨by first | rfl | kernel_rfl, ?_⟩) hHeld (fun hHeld => ?_)
                rotate_left
                · (intro w' hSw; obtain ⟨⟨r1, r2⟩, r3⟩ := hSw; (try have r4 := r3 rfl); (try dsimp only at r1 r2 r4); clear r3; go_simp; try with_reducible rfl)
                try simp only [Act.put, List.setIfInBounds_toArray, List.set_cons_zero, List.set_cons_succ, List.getElem_toArray, List.getElem_cons_succ, List.getElem_cons_zero]
                refine HeldT.wpTill_takeT false (i := 7) (v := ?_) rfl (by kernel_rfl) (by kernel_rfl) (by kernel_rfl) (fun _ _ _ h => h) (by kernel_rfl) (Or.inl ⟨by first | rfl | kernel_rfl, ?_⟩) hHeld (fun hHeld => ?_)
                rotate_left
                · (intro w' hSw; obtain ⟨⟨r1, r2⟩, r3⟩ := hSw; (try have r4 := r3 rfl); (try dsimp only at r1 r2 r4); clear r3; go_simp; try with_reducible rfl)
                try simp only [Act.put, List.setIfInBounds_toArray, List.set_cons_zero, List.set_cons_succ, List.getElem_toArray, List.getElem_cons_succ, List.getElem_cons_zero]
                refine HeldT.wpTill_takeT false (i := 8) (v := ?_) rfl (by kernel_rfl) (by kernel_rfl) (by kernel_rfl) (fun _ _ _ h => h) (by kernel_rfl) (Or.inl ⟨by first | rfl | kernel_rfl, ?_⟩) hHeld (fun hHeld => ?_)
                rotate_left
                · (intro w' hSw; obtain ⟨⟨r1, r2⟩, r3⟩ := hSw; (try have r4 := r3 rfl); (try dsimp only at r1 r2 r4); clear r3; go_simp; try with_reducible rfl)
                try simp only [Act.put, List.setIfInBounds_toArray, List.set_cons_zero, List.set_cons_succ, List.getElem_toArray, List.getElem_cons_succ, List.getElem_cons_zero]
                refine HeldT.wpTill_takeT false (i := 9) (v := ?_) rfl (by kernel_rfl) (by kernel_rfl) (by kernel_rfl) (fun _ _ _ h => h) (by kernel_rfl) (Or.inl ⟨by first | rfl | kernel_rfl, ?_⟩) hHeld (fun hHeld => ?_)
                rotate_left
                · (intro w' hSw; obtain ⟨⟨r1, r2⟩, r3⟩ := hSw; (try have r4 := r3 rfl); (try dsimp only at r1 r2 r4); clear r3; go_simp; try with_reducible rfl)
                try simp only [Act.put, List.setIfInBounds_toArray, List.set_cons_zero, List.set_cons_succ, List.getElem_toArray, List.getElem_cons_succ, List.getElem_cons_zero]
                refine HeldT.wpTill_takeT false (i := 10) (v := ?_) rfl (by kernel_rfl) (by kernel_rfl) (by kernel_rfl) (fun _ _ _ h => h) (by kernel_rfl) (Or.inl ⟨by first | rfl | kernel_rfl, ?_⟩) hHeld (fun hHeld => ?_)
                rotate_left
                · (intro w' hSw; obtain ⟨⟨r1, r2⟩, r3⟩ := hSw; (try have r4 := r3 rfl); (try dsimp only at r1 r2 r4); clear r3; go_simp; try with_reducible rfl)
                try simp only [Act.put, List.setIfInBounds_toArray, List.set_cons_zero, List.set_cons_succ, List.getElem_toArray, List.getElem_cons_succ, List.getElem_cons_zero]
                refine HeldT.wpTill_takeT false (i := 11) (v := ?_) rfl (by kernel_rfl) (by kernel_rfl) (by kernel_rfl) (fun _ _ _ h => h) (by kernel_rfl) (Or.inl ⟨by first | rfl | kernel_rfl, ?_⟩) hHeld (fun hHeld => ?_)
                rotate_left
                · (intro w' hSw; obtain ⟨⟨r1, r2⟩, r3⟩ := hSw; (try have r4 := r3 rfl); (try dsimp only at r1 r2 r4); clear r3; go_simp; try with_reducible rfl)
                try simp only [Act.put, List.setIfInBounds_toArray, List.set_cons_zero, List.set_cons_succ, List.getElem_toArray, List.getElem_cons_succ, List.getElem_cons_zero]
                refine HeldT.wpTill_takeT false (i := 14) (v := ?_) rfl (by kernel_rfl) (by kernel_rfl) (by kernel_rfl) (fun _ _ _ h => h) (by kernel_rfl) (Or.inl ⟨by first | rfl | kernel_rfl, ?_⟩) hHeld (fun hHeld => ?_)
                rotate_left
                · (intro w' hSw; obtain ⟨⟨r1, r2⟩, r3⟩ := hSw; (try have r4 := r3 rfl); (try dsimp only at r1 r2 r4); clear r3; go_simp; try with_reducible rfl)
                try simp only [Act.put, List.setIfInBounds_toArray, List.set_cons_zero, List.set_cons_succ, List.getElem_toArray, List.getElem_cons_succ, List.getElem_cons_zero]
                refine HeldT.wpTill_takeT false (i := 15) (v := ?_) rfl (by kernel_rfl) (by kernel_rfl) (by kernel_rfl) (fun _ _ _ h => h) (by kernel_rfl) (Or.inl ⟨by first | rfl | kernel_rfl, ?_⟩) hHeld (fun hHeld => ?_)
                rotate_left
                · (intro w' hSw; obtain ⟨⟨r1, r2⟩, r3⟩ := hSw; (try have r4 := r3 rfl); (try dsimp only at r1 r2 r4); clear r3; go_simp; try with_reducible rfl)
                try simp only [Act.put, List.setIfInBounds_toArray, List.set_cons_zero, List.set_cons_succ, List.getElem_toArray, List.getElem_cons_succ, List.getElem_cons_zero]
                refine HeldT.wpTill_takeT false (i := 16) (v := ?_) rfl (by kernel_rfl) (by kernel_rfl) (by kernel_rfl) (fun _ _ _ h => h) (by kernel_rfl) (Or.inl ⟨by first | rfl | kernel_rfl, ?_⟩) hHeld (fun hHeld => ?_)
                rotate_left
                · (intro w' hSw; obtain ⟨⟨r1, r2⟩, r3⟩ := hSw; (try have r4 := r3 rfl); (try dsimp only at r1 r2 r4); clear r3; go_simp; try with_reducible rfl)
                try simp only [Act.put, List.setIfInBounds_toArray, List.set_cons_zero, List.set_cons_succ, List.getElem_toArray, List.getElem_cons_succ, List.getElem_cons_zero]
                refine HeldT.wpTill_takeT false (i := 17) (v := ?_) rfl (by kernel_rfl) (by kernel_rfl) (by kernel_rfl) (fun _ _ _ h => h) (by kernel_rfl) (Or.inl ⟨by first | rfl | kernel_rfl, ?_⟩) hHeld (fun hHeld => ?_)
                rotate_left
                · (intro w' hSw; obtain ⟨⟨r1, r2⟩, r3⟩ := hSw; (try have r4 := r3 rfl); (try dsimp only at r1 r2 r4); clear r3; go_simp; try with_reducible rfl)
                try simp only [Act.put, List.setIfInBounds_toArray, List.set_cons_zero, List.set_cons_succ, List.getElem_toArray, List.getElem_cons_succ, List.getElem_cons_zero]
                refine wpTill_one (i := 12) (by kernel_rfl) rfl (fun K hK => ?_)
                rw [if_pos (by kernel_rfl)]
                go_simp
                refine (ND.out _ _ _ htp2 RW HR).mono ?_
                clear RW
                rintro e w7 ⟨rfl, RW⟩
                refine hK _ _ ⟨⟨RW.out.R.out.R.out.S.out.box.cell, RW.out.box.cell⟩, fun _ => trivial⟩ (fun hHeld => ?_)
                clear hK K
                try simp only [Act.put, List.setIfInBounds_toArray, List.set_cons_zero, List.set_cons_succ, List.getElem_toArray, List.getElem_cons_succ, List.getElem_cons_zero]
                refine HeldT.wpTill_takeT false (i := 13) (v := ?_) rfl (by kernel_rfl) (by kernel_rfl) (by kernel_rfl) (fun _ _ _ h => h) (by kernel_rfl) (Or.inl ⟨by first | rfl | kernel_rfl, ?_⟩) hHeld (fun hHeld => ?_)
                rotate_left
                · (intro w' hSw; obtain ⟨⟨r1, r2⟩, r3⟩ := hSw; (try have r4 := r3 rfl); (try dsimp only at r1 r2 r4); clear r3; go_simp; try with_reducible rfl)
                try simp only [Act.put, List.setIfInBounds_toArray, List.set_cons_zero, List.set_cons_succ, List.getElem_toArray, List.getElem_cons_succ, List.getElem_cons_zero]
                refine wpTill_one (i := 18) (by kernel_rfl) rfl (fun K hK => ?_)
                rw [if_pos (by kernel_rfl)]
                go_simp
                refine (BE.out _ RW).mono ?_
                clear RW
                rintro e w8 ⟨rfl, RW⟩
                refine hK _ _ ⟨⟨RW.out.R.out.R.out.S.out.box.cell, RW.out.box.cell⟩, fun _ => trivial⟩ (fun hHeld => ?_)
                clear hK K
                try simp only [Act.put, List.setIfInBounds_toArray, List.set_cons_zero, List.set_cons_succ, List.getElem_toArray, List.getElem_cons_succ, List.getElem_cons_zero]
                refine HeldT.wpTill_takeT false (i := 19) (v := ?_) rfl (by kernel_rfl) (by kernel_rfl) (by kernel_rfl) (fun _ _ _ h => h) (by kernel_rfl) (Or.inl ⟨by first | rfl | kernel_rfl, ?_⟩) hHeld (fun hHeld => ?_)
                rotate_left
                · (intro w' hSw; obtain ⟨⟨r1, r2⟩, r3⟩ := hSw; (try have r4 := r3 rfl); (try dsimp only at r1 r2 r4); clear r3; go_simp; try with_reducible rfl)
                try simp only [Act.put, List.setIfInBounds_toArray, List.set_cons_zero, List.set_cons_succ, List.getElem_toArray, List.getElem_cons_succ, List.getElem_cons_zero]
                refine wpTill_one (i := 20) (by kernel_rfl) rfl (fun K hK => ?_)
                go_simp
                refine hK _ _ ⟨⟨(RW.out.R.out.R.out.S.out.box.alloc _).cell, (RW.out.box.alloc _).cell⟩, fun _ => trivial⟩ (fun hHeld => ?_)
                clear hK K
                refine wpTill_one (i := 21) (by kernel_rfl) rfl (fun K hK => ?_)
                refine step_append_lies _ rfl _ _ _ rfl w.heap.size 42 i0 (.agg #[.int .i64 0, .int .i64 0, .int .i64 0, .int .i64 0, .int .i64 0, .int .i64 0, .int .i64 0]) 7 56 (by kernel_rfl) hi0 hz0 hz1 hz2 rfl (by decide) v (prs c i ++ wins i q).length (encR c (prs c i ++ wins i q)) (by rfl) (World.ownsRow.alloc RW.out.R.out.R.out.own _) ⟨w8.heap.size, 0, none⟩ 1 1 [.int .i64 i, .int .i64 q, .int .i64 y0, .int .i64 z, .int .i64 (y2 - r), .int .i64 G, .int .i64 bn] (by rfl) rfl (World.news_of_block (heap_alloc_new _ _)) (by simp [Value.oneCell']) (by omega) (by have := LEN.out; unfold maxLen; omega) (by have := LEN.out; omega) (by rw [World.size_alloc]; have := RW.out.R.out.R.out.S.out.bel.size; omega) _ rfl ?_
                intro g cap w2 hown hgrow hat hlt4
                rw [← ROW2.out] at hown
                have RX := rm_app (rm_next RW.out.R ((Below.refl _ _).alloc (Nat.le_refl _) _)) hgrow hown
                rw [List.append_assoc, ← wins_succ] at RX
                have RWB : Hid (Rw w _ c v (prs c i ++ wins i q) m mb wd y0 y1 y2) := rw_next RW ((Below.refl _ _).alloc (Nat.le_refl _) (.cells #[.int .i64 i, .int .i64 q, .int .i64 y0, .int .i64 z, .int .i64 (y2 - r), .int .i64 G, .int .i64 bn] 42))
                have BW2 := RWB.out.box.grown hgrow (fun e => own_neR RWB.out.R.out.R.out.own RWB.out.box (by decide) e.symm)
                refine hK _ _ ⟨⟨RX.out.R.out.S.out.box.cell, BW2.cell⟩, fun h => trivial⟩ (fun hHeld => ?_)
                clear hK K
                simp only [Act.put, List.getElem_toArray, List.getElem_cons_succ, List.getElem_cons_zero, List.setIfInBounds_toArray, List.set_cons_zero, List.set_cons_succ] at hHeld ⊢
                refine HeldT.wpTill_takeT false (i := 22) (v := ?_) rfl (by kernel_rfl) (by kernel_rfl) (by kernel_rfl) (fun _ _ _ h => h) (by kernel_rfl) (Or.inl ⟨by first | rfl | kernel_rfl, ?_⟩) hHeld (fun hHeld => ?_)
                rotate_left
                · (intro w' hSw; obtain ⟨⟨r1, r2⟩, r3⟩ := hSw; (try have r4 := r3 rfl); (try dsimp only at r1 r2 r4); clear r3; go_simp; try with_reducible rfl)
                try simp only [Act.put, List.setIfInBounds_toArray, List.set_cons_zero, List.set_cons_succ, List.getElem_toArray, List.getElem_cons_succ, List.getElem_cons_zero]
                refine wpTill_done (by kernel_rfl) ?_ 0
                clear hown hgrow hat hHeld BW2 RWB RW hi0 hz0 hz1 hz2 BE ND HF0 ROW2
                go_wp2_with fail
                go_roundw
                case rel => exact ⟨q + 1, _, by omega, by go_num, rfl, by simp only [List.length_append] at RX; exact RX⟩
                case measure => simp [intOf]; omega
              · have HG := Lib.hid (show m.fr - y1 - y2 = G by rw [← hG, GE.out, if_neg hn]; omega)
                have hn : m.wn ≤ q + 1 := by omega
                have hfr := MB.fr
                have GP := Lib.hid hG
                have ROW := Lib.hid (show rv c (i, q) = [.int .i64 i, .int .i64 q, .int .i64 (m.wf q 0), .int .i64 (lowP c (m.wf q 0) (m.wf q 2)), .int .i64 (spareP c (m.wf q 0) (m.wf q 2)), .int .i64 (gapP m q), .int .i64 (BestR c.w 0 (gapP m q))] by unfold rv; rw [HM.out])
                rw [e0, e2, hG] at ROW
                clear hG e0 e1 e2
                go_wp2_with fail
                rw [HG.out]
                clear bm bw
                have htp2 : tp < c.w.ln := by omega
                obtain ⟨r, hr⟩ : ∃ r, nR c y0 tp = r := ⟨_, rfl⟩
                have rb := nR_bd HV.out wb.1 wb.2.1 htp2
                rw [hr] at rb
                obtain ⟨bn, hbn⟩ : ∃ x, BestR c.w 0 G = x := ⟨_, rfl⟩
                have HB := Lib.hid hbn
                have SPR := spare_nR (x2 := y2) HV.out wb.1 wb.2.1
                rw [show c.w.ln - 1 = tp by omega, hr] at SPR
                have ROW2 := Lib.hid (show rv c (i, q) = [.int .i64 i, .int .i64 q, .int .i64 y0, .int .i64 z, .int .i64 (y2 - r), .int .i64 G, .int .i64 bn] by rw [ROW.out, SPR, hbn, ← dn_low, HZ.out])
                have HR := Lib.hid hr
                clear hr hbn SPR ROW
                have BE := Lib.hid (fun w' (h : Hid (Rw w w' c v (prs c i ++ wins i q) m mb wd y0 y1 y2)) => (NapH.Bestr_any c.w 0 G w' (OK.out w' h.out.R.out.R.out.S.out.bel).pow sh.1.2.2.2.2.1 bn HB).mono (R' := fun e w'' => e = .returned (.int .i64 bn) ∧ Hid (Rw w w'' c v (prs c i ++ wins i q) m mb wd y0 y1 y2)) fun e w2 hh => ⟨hh.1, rw_next h hh.2⟩)
                have WS : IntKind.i64.wrap (y2 - r) = y2 - r := IntWalk.i64_in _ (by omega)
                have LEN : (prs c i ++ wins i q).length ≤ 20000 := by have := sh.1.2.2.1; rw [List.length_append, wins_len]; omega
                have LEN := Lib.hid LEN
                obtain ⟨i0, hi0, hz0, hz1, hz2⟩ := info_parts infoRowr
                replace RW := rw_next RW (Below.refl _ _).drew
                refine wp_region_till (fun w' => (∀ i, w'.cell? ⟨w.heap.size, i, none⟩ = (#[.slice c.pa c.pn c.pc, .slice c.ca c.cn c.cc, .slice c.ma c.mn c.mc, .slice c.w.la c.w.ln c.w.lc, .slice c.w.na c.w.nn c.w.nc, .int .i64 c.w.sw, .int .i64 c.w.id, .int .i64 c.w.ch, .int .i64 c.w.qu, .int .i64 c.w.sl, .int .i64 c.w.pp, .slice c.da c.dn c.dc, .slice c.ua c.un c.uc] : Array Value)[i]?) ∧ ∀ i, w'.cell? ⟨wd, i, none⟩ = (#[.int .i64 y0, .int .i64 y1, .int .i64 y2] : Array Value)[i]?) (fun _ => True) 21 23 #[false, false, false, false, false, false, false, false, false, false, false, false, false, false, false, false, false, false, false, false, false, false, false] (by kernel_rfl) rfl rfl ⟨⟨RW.out.R.out.R.out.S.out.box.cell, RW.out.box.cell⟩, trivial⟩ (fun hHeld => ?_)
                refine HeldT.wpTill_takeT false (i := 0) (v := ?_) rfl (by kernel_rfl) (by kernel_rfl) (by kernel_rfl) (fun _ _ _ h => h) (by kernel_rfl) (Or.inl ⟨by first | rfl | kernel_rfl, ?_⟩) hHeld (fun hHeld => ?_)
                rotate_left
                · (intro w' hSw; obtain ⟨⟨r1, r2⟩, r3⟩ := hSw; (try have r4 := r3 rfl); (try dsimp only at r1 r2 r4); clear r3; go_simp; try with_reducible rfl)
                try simp only [Act.put, List.setIfInBounds_toArray, List.set_cons_zero, List.set_cons_succ, List.getElem_toArray, List.getElem_cons_succ, List.getElem_cons_zero]
                refine HeldT.wpTill_takeT false (i := 1) (v := ?_) rfl (by kernel_rfl) (by kernel_rfl) (by kernel_rfl) (fun _ _ _ h => h) (by kernel_rfl) (Or.inl ⟨by first | rfl | kernel_rfl, ?_⟩) hHeld (fun hHeld => ?_)
                rotate_left
                · (intro w' hSw; obtain ⟨⟨r1, r2⟩, r3⟩ := hSw; (try have r4 := r3 rfl); (try dsimp only at r1 r2 r4); clear r3; go_simp; try with_reducible rfl)
                try simp only [Act.put, List.setIfInBounds_toArray, List.set_cons_zero, List.set_cons_succ, List.getElem_toArray, List.getElem_cons_succ, List.getElem_cons_zero]
                refine HeldT.wpTill_takeT false (i := 2) (v := ?_) rfl (by kernel_rfl) (by kernel_rfl) (by kernel_rfl) (fun _ _ _ h => h) (by kernel_rfl) (Or.inl ⟨by first | rfl | kernel_rfl, ?_⟩) hHeld (fun hHeld => ?_)
                rotate_left
                · (intro w' hSw; obtain ⟨⟨r1, r2⟩, r3⟩ := hSw; (try have r4 := r3 rfl); (try dsimp only at r1 r2 r4); clear r3; go_simp; try with_reducible rfl)
                try simp only [Act.put, List.setIfInBounds_toArray, List.set_cons_zero, List.set_cons_succ, List.getElem_toArray, List.getElem_cons_succ, List.getElem_cons_zero]
                refine HeldT.wpTill_takeT false (i := 3) (v := ?_) rfl (by kernel_rfl) (by kernel_rfl) (by kernel_rfl) (fun _ _ _ h => h) (by kernel_rfl) (Or.inl ⟨by first | rfl | kernel_rfl, ?_⟩) hHeld (fun hHeld => ?_)
                rotate_left
                · (intro w' hSw; obtain ⟨⟨r1, r2⟩, r3⟩ := hSw; (try have r4 := r3 rfl); (try dsimp only at r1 r2 r4); clear r3; go_simp; try with_reducible rfl)
                try simp only [Act.put, List.setIfInBounds_toArray, List.set_cons_zero, List.set_cons_succ, List.getElem_toArray, List.getElem_cons_succ, List.getElem_cons_zero]
                refine HeldT.wpTill_takeT false (i := 4) (v := ?_) rfl (by kernel_rfl) (by kernel_rfl) (by kernel_rfl) (fun _ _ _ h => h) (by kernel_rfl) (Or.inl ⟨by first | rfl | kernel_rfl, ?_⟩) hHeld (fun hHeld => ?_)
                rotate_left
                · (intro w' hSw; obtain ⟨⟨r1, r2⟩, r3⟩ := hSw; (try have r4 := r3 rfl); (try dsimp only at r1 r2 r4); clear r3; go_simp; try with_reducible rfl)
                try simp only [Act.put, List.setIfInBounds_toArray, List.set_cons_zero, List.set_cons_succ, List.getElem_toArray, List.getElem_cons_succ, List.getElem_cons_zero]
                refine HeldT.wpTill_takeT false (i := 5) (v := ?_) rfl (by kernel_rfl) (by kernel_rfl) (by kernel_rfl) (fun _ _ _ h => h) (by kernel_rfl) (Or.inl ⟨by first | rfl | kernel_rfl, ?_⟩) hHeld (fun hHeld => ?_)
                rotate_left
                · (intro w' hSw; obtain ⟨⟨r1, r2⟩, r3⟩ := hSw; (try have r4 := r3 rfl); (try dsimp only at r1 r2 r4); clear r3; go_simp; try with_reducible rfl)
                try simp only [Act.put, List.setIfInBounds_toArray, List.set_cons_zero, List.set_cons_succ, List.getElem_toArray, List.getElem_cons_succ, List.getElem_cons_zero]
                refine HeldT.wpTill_takeT false (i := 6) (v := ?_) rfl (by kernel_rfl) (by kernel_rfl) (by kernel_rfl) (fun _ _ _ h => h) (by kernel_rfl) (Or.inl ⟨by first | rfl | kernel_rfl, ?_⟩) hHeld (fun hHeld => ?_)
                rotate_left
                · (intro w' hSw; obtain ⟨⟨r1, r2⟩, r3⟩ := hSw; (try have r4 := r3 rfl); (try dsimp only at r1 r2 r4); clear r3; go_simp; try with_reducible rfl)
                try simp only [Act.put, List.setIfInBounds_toArray, List.set_cons_zero, List.set_cons_succ, List.getElem_toArray, List.getElem_cons_succ, List.getElem_cons_zero]
                refine HeldT.wpTill_takeT false (i := 7) (v := ?_) rfl (by kernel_rfl) (by kernel_rfl) (by kernel_rfl) (fun _ _ _ h => h) (by kernel_rfl) (Or.inl ⟨by first | rfl | kernel_rfl, ?_⟩) hHeld (fun hHeld => ?_)
                rotate_left
                · (intro w' hSw; obtain ⟨⟨r1, r2⟩, r3⟩ := hSw; (try have r4 := r3 rfl); (try dsimp only at r1 r2 r4); clear r3; go_simp; try with_reducible rfl)
                try simp only [Act.put, List.setIfInBounds_toArray, List.set_cons_zero, List.set_cons_succ, List.getElem_toArray, List.getElem_cons_succ, List.getElem_cons_zero]
                refine HeldT.wpTill_takeT false (i := 8) (v := ?_) rfl (by kernel_rfl) (by kernel_rfl) (by kernel_rfl) (fun _ _ _ h => h) (by kernel_rfl) (Or.inl ⟨by first | rfl | kernel_rfl, ?_⟩) hHeld (fun hHeld => ?_)
                rotate_left
                · (intro w' hSw; obtain ⟨⟨r1, r2⟩, r3⟩ := hSw; (try have r4 := r3 rfl); (try dsimp only at r1 r2 r4); clear r3; go_simp; try with_reducible rfl)
                try simp only [Act.put, List.setIfInBounds_toArray, List.set_cons_zero, List.set_cons_succ, List.getElem_toArray, List.getElem_cons_succ, List.getElem_cons_zero]
                refine HeldT.wpTill_takeT false (i := 9) (v := ?_) rfl (by kernel_rfl) (by kernel_rfl) (by kernel_rfl) (fun _ _ _ h => h) (by kernel_rfl) (Or.inl ⟨by first | rfl | kernel_rfl, ?_⟩) hHeld (fun hHeld => ?_)
                rotate_left
                · (intro w' hSw; obtain ⟨⟨r1, r2⟩, r3⟩ := hSw; (try have r4 := r3 rfl); (try dsimp only at r1 r2 r4); clear r3; go_simp; try with_reducible rfl)
                try simp only [Act.put, List.setIfInBounds_toArray, List.set_cons_zero, List.set_cons_succ, List.getElem_toArray, List.getElem_cons_succ, List.getElem_cons_zero]
                refine HeldT.wpTill_takeT false (i := 10) (v := ?_) rfl (by kernel_rfl) (by kernel_rfl) (by kernel_rfl) (fun _ _ _ h => h) (by kernel_rfl) (Or.inl ⟨by first | rfl | kernel_rfl, ?_⟩) hHeld (fun hHeld => ?_)
                rotate_left
                · (intro w' hSw; obtain ⟨⟨r1, r2⟩, r3⟩ := hSw; (try have r4 := r3 rfl); (try dsimp only at r1 r2 r4); clear r3; go_simp; try with_reducible rfl)
                try simp only [Act.put, List.setIfInBounds_toArray, List.set_cons_zero, List.set_cons_succ, List.getElem_toArray, List.getElem_cons_succ, List.getElem_cons_zero]
                refine HeldT.wpTill_takeT false (i := 11) (v := ?_) rfl (by kernel_rfl) (by kernel_rfl) (by kernel_rfl) (fun _ _ _ h => h) (by kernel_rfl) (Or.inl ⟨by first | rfl | kernel_rfl, ?_⟩) hHeld (fun hHeld => ?_)
                rotate_left
                · (intro w' hSw; obtain ⟨⟨r1, r2⟩, r3⟩ := hSw; (try have r4 := r3 rfl); (try dsimp only at r1 r2 r4); clear r3; go_simp; try with_reducible rfl)
                try simp only [Act.put, List.setIfInBounds_toArray, List.set_cons_zero, List.set_cons_succ, List.getElem_toArray, List.getElem_cons_succ, List.getElem_cons_zero]
                refine HeldT.wpTill_takeT false (i := 14) (v := ?_) rfl (by kernel_rfl) (by kernel_rfl) (by kernel_rfl) (fun _ _ _ h => h) (by kernel_rfl) (Or.inl ⟨by first | rfl | kernel_rfl, ?_⟩) hHeld (fun hHeld => ?_)
                rotate_left
                · (intro w' hSw; obtain ⟨⟨r1, r2⟩, r3⟩ := hSw; (try have r4 := r3 rfl); (try dsimp only at r1 r2 r4); clear r3; go_simp; try with_reducible rfl)
                try simp only [Act.put, List.setIfInBounds_toArray, List.set_cons_zero, List.set_cons_succ, List.getElem_toArray, List.getElem_cons_succ, List.getElem_cons_zero]
                refine HeldT.wpTill_takeT false (i := 15) (v := ?_) rfl (by kernel_rfl) (by kernel_rfl) (by kernel_rfl) (fun _ _ _ h => h) (by kernel_rfl) (Or.inl ⟨by first | rfl | kernel_rfl, ?_⟩) hHeld (fun hHeld => ?_)
                rotate_left
                · (intro w' hSw; obtain ⟨⟨r1, r2⟩, r3⟩ := hSw; (try have r4 := r3 rfl); (try dsimp only at r1 r2 r4); clear r3; go_simp; try with_reducible rfl)
                try simp only [Act.put, List.setIfInBounds_toArray, List.set_cons_zero, List.set_cons_succ, List.getElem_toArray, List.getElem_cons_succ, List.getElem_cons_zero]
                refine HeldT.wpTill_takeT false (i := 16) (v := ?_) rfl (by kernel_rfl) (by kernel_rfl) (by kernel_rfl) (fun _ _ _ h => h) (by kernel_rfl) (Or.inl ⟨by first | rfl | kernel_rfl, ?_⟩) hHeld (fun hHeld => ?_)
                rotate_left
                · (intro w' hSw; obtain ⟨⟨r1, r2⟩, r3⟩ := hSw; (try have r4 := r3 rfl); (try dsimp only at r1 r2 r4); clear r3; go_simp; try with_reducible rfl)
                try simp only [Act.put, List.setIfInBounds_toArray, List.set_cons_zero, List.set_cons_succ, List.getElem_toArray, List.getElem_cons_succ, List.getElem_cons_zero]
                refine HeldT.wpTill_takeT false (i := 17) (v := ?_) rfl (by kernel_rfl) (by kernel_rfl) (by kernel_rfl) (fun _ _ _ h => h) (by kernel_rfl) (Or.inl ⟨by first | rfl | kernel_rfl, ?_⟩) hHeld (fun hHeld => ?_)
                rotate_left
                · (intro w' hSw; obtain ⟨⟨r1, r2⟩, r3⟩ := hSw; (try have r4 := r3 rfl); (try dsimp only at r1 r2 r4); clear r3; go_simp; try with_reducible rfl)
                try simp only [Act.put, List.setIfInBounds_toArray, List.set_cons_zero, List.set_cons_succ, List.getElem_toArray, List.getElem_cons_succ, List.getElem_cons_zero]
                refine wpTill_one (i := 12) (by kernel_rfl) rfl (fun K hK => ?_)
                rw [if_pos (by kernel_rfl)]
                go_simp
                refine (ND.out _ _ _ htp2 RW HR).mono ?_
                clear RW
                rintro e w7 ⟨rfl, RW⟩
                refine hK _ _ ⟨⟨RW.out.R.out.R.out.S.out.box.cell, RW.out.box.cell⟩, fun _ => trivial⟩ (fun hHeld => ?_)
                clear hK K
                try simp only [Act.put, List.setIfInBounds_toArray, List.set_cons_zero, List.set_cons_succ, List.getElem_toArray, List.getElem_cons_succ, List.getElem_cons_zero]
                refine HeldT.wpTill_takeT false (i := 13) (v := ?_) rfl (by kernel_rfl) (by kernel_rfl) (by kernel_rfl) (fun _ _ _ h => h) (by kernel_rfl) (Or.inl ⟨by first | rfl | kernel_rfl, ?_⟩) hHeld (fun hHeld => ?_)
                rotate_left
                · (intro w' hSw; obtain ⟨⟨r1, r2⟩, r3⟩ := hSw; (try have r4 := r3 rfl); (try dsimp only at r1 r2 r4); clear r3; go_simp; try with_reducible rfl)
                try simp only [Act.put, List.setIfInBounds_toArray, List.set_cons_zero, List.set_cons_succ, List.getElem_toArray, List.getElem_cons_succ, List.getElem_cons_zero]
                refine wpTill_one (i := 18) (by kernel_rfl) rfl (fun K hK => ?_)
                rw [if_pos (by kernel_rfl)]
                go_simp
                refine (BE.out _ RW).mono ?_
                clear RW
                rintro e w8 ⟨rfl, RW⟩
                refine hK _ _ ⟨⟨RW.out.R.out.R.out.S.out.box.cell, RW.out.box.cell⟩, fun _ => trivial⟩ (fun hHeld => ?_)
                clear hK K
                try simp only [Act.put, List.setIfInBounds_toArray, List.set_cons_zero, List.set_cons_succ, List.getElem_toArray, List.getElem_cons_succ, List.getElem_cons_zero]
                refine HeldT.wpTill_takeT false (i := 19) (v := ?_) rfl (by kernel_rfl) (by kernel_rfl) (by kernel_rfl) (fun _ _ _ h => h) (by kernel_rfl) (Or.inl ⟨by first | rfl | kernel_rfl, ?_⟩) hHeld (fun hHeld => ?_)
                rotate_left
                · (intro w' hSw; obtain ⟨⟨r1, r2⟩, r3⟩ := hSw; (try have r4 := r3 rfl); (try dsimp only at r1 r2 r4); clear r3; go_simp; try with_reducible rfl)
                try simp only [Act.put, List.setIfInBounds_toArray, List.set_cons_zero, List.set_cons_succ, List.getElem_toArray, List.getElem_cons_succ, List.getElem_cons_zero]
                refine wpTill_one (i := 20) (by kernel_rfl) rfl (fun K hK => ?_)
                go_simp
                refine hK _ _ ⟨⟨(RW.out.R.out.R.out.S.out.box.alloc _).cell, (RW.out.box.alloc _).cell⟩, fun _ => trivial⟩ (fun hHeld => ?_)
                clear hK K
                refine wpTill_one (i := 21) (by kernel_rfl) rfl (fun K hK => ?_)
                refine step_append_lies _ rfl _ _ _ rfl w.heap.size 42 i0 (.agg #[.int .i64 0, .int .i64 0, .int .i64 0, .int .i64 0, .int .i64 0, .int .i64 0, .int .i64 0]) 7 56 (by kernel_rfl) hi0 hz0 hz1 hz2 rfl (by decide) v (prs c i ++ wins i q).length (encR c (prs c i ++ wins i q)) (by rfl) (World.ownsRow.alloc RW.out.R.out.R.out.own _) ⟨w8.heap.size, 0, none⟩ 1 1 [.int .i64 i, .int .i64 q, .int .i64 y0, .int .i64 z, .int .i64 (y2 - r), .int .i64 G, .int .i64 bn] (by rfl) rfl (World.news_of_block (heap_alloc_new _ _)) (by simp [Value.oneCell']) (by omega) (by have := LEN.out; unfold maxLen; omega) (by have := LEN.out; omega) (by rw [World.size_alloc]; have := RW.out.R.out.R.out.S.out.bel.size; omega) _ rfl ?_
                intro g cap w2 hown hgrow hat hlt4
                rw [← ROW2.out] at hown
                have RX := rm_app (rm_next RW.out.R ((Below.refl _ _).alloc (Nat.le_refl _) _)) hgrow hown
                rw [List.append_assoc, ← wins_succ] at RX
                have RWB : Hid (Rw w _ c v (prs c i ++ wins i q) m mb wd y0 y1 y2) := rw_next RW ((Below.refl _ _).alloc (Nat.le_refl _) (.cells #[.int .i64 i, .int .i64 q, .int .i64 y0, .int .i64 z, .int .i64 (y2 - r), .int .i64 G, .int .i64 bn] 42))
                have BW2 := RWB.out.box.grown hgrow (fun e => own_neR RWB.out.R.out.R.out.own RWB.out.box (by decide) e.symm)
                refine hK _ _ ⟨⟨RX.out.R.out.S.out.box.cell, BW2.cell⟩, fun h => trivial⟩ (fun hHeld => ?_)
                clear hK K
                simp only [Act.put, List.getElem_toArray, List.getElem_cons_succ, List.getElem_cons_zero, List.setIfInBounds_toArray, List.set_cons_zero, List.set_cons_succ] at hHeld ⊢
                refine HeldT.wpTill_takeT false (i := 22) (v := ?_) rfl (by kernel_rfl) (by kernel_rfl) (by kernel_rfl) (fun _ _ _ h => h) (by kernel_rfl) (Or.inl ⟨by first | rfl | kernel_rfl, ?_⟩) hHeld (fun hHeld => ?_)
                rotate_left
                · (intro w' hSw; obtain ⟨⟨r1, r2⟩, r3⟩ := hSw; (try have r4 := r3 rfl); (try dsimp only at r1 r2 r4); clear r3; go_simp; try with_reducible rfl)
                try simp only [Act.put, List.setIfInBounds_toArray, List.set_cons_zero, List.set_cons_succ, List.getElem_toArray, List.getElem_cons_succ, List.getElem_cons_zero]
                refine wpTill_done (by kernel_rfl) ?_ 0
                clear hown hgrow hat hHeld BW2 RWB RW hi0 hz0 hz1 hz2 BE ND HF0 ROW2
                go_wp2_with fail
                go_roundw
                case rel => exact ⟨q + 1, _, by omega, by go_num, rfl, by simp only [List.length_append] at RX; exact RX⟩
                case measure => simp [intOf]; omega
        · obtain rfl : q = m.wn := by omega
          have bm := RM.out.box.cell
          go_wp2_with fail
          go_roundw
          case rel => exact ⟨i + 1, v, by omega, by go_num, rfl, by rw [prs, HM.out]; exact RM.out.R⟩
          case measure => simp [intOf]; omega
    · obtain rfl : i = c.mn := by omega
      have bc := R.out.S.out.box.cell
      go_wp2_with fail
      go_ret
      exact ⟨v, rfl, by rw [EL.out]; exact R.out.own, R.out.S.out.bel⟩
end Go.Proofs.YtlafeijkpnpdeaaGreat.Soj

import Derived.Test.YtlafeijkpnpdeaaGreatMg17

/- Package valid: Channel, walked. -/
namespace Go.Proofs.YtlafeijkpnpdeaaGreat.Vci
open Go.RowKit Base Kit Conf Conf2 PowA PowB Vfa Vfb Val Vld Vpa Vpr Short Vcf Vch
set_option linter.unusedVariables false
set_option linter.unusedSimpArgs false
def chG (g vq vi : Bool) (vs : Int) (g' uq ui : Bool) (us : Int) (x0 x2 : Int) (z : Bool) : Bool := g && (g' && (!decide (x0 = x2) && (!vi && (ui && ((vq == uq) && (decide (vs ≤ us) && z))))))
def chH (a b : Bool × Bool × Bool × Int × Int) (x0 x2 : Int) (P : Bool → Nat → Bool) (k : Nat) : Bool := chG a.1 a.2.1 a.2.2.1 a.2.2.2.1 b.1 b.2.1 b.2.2.1 b.2.2.2.1 x0 x2 (decide (fb (P a.2.1) k = k))
def chB (c : ConfC) (k : Nat) : Bool := chH (findR c (c.cf k 0) (c.cf k 1)) (findR c (c.cf k 2) (c.cf k 3)) (c.cf k 0) (c.cf k 2) (fun q => clB c.cf q k) k
def ChanR (c : ConfC) (k : Int) : Bool := inB k 0 ((c.cn : Int) - 1) && chB c k.toNat
theorem rows_pre {w : World} {a : Option Addr} {n m sz : Nat} {f : Nat → Nat → Int} (h : Open.RowsIn w a n sz f) (hm : m ≤ n) : Open.RowsIn w a m sz f := by
  obtain ⟨h1, h2, h3⟩ := h
  refine ⟨by omega, ?_, fun i hi => h3 i (by omega)⟩
  rcases h2 with h2 | ⟨b, off, e, hlt, hc⟩
  · exact .inl (by omega)
  · exact .inr ⟨b, off, e, hlt, fun i hi => hc i (by omega)⟩
set_option maxRecDepth 100000 in
set_option maxHeartbeats 2000000 in
theorem Channel_any (c : ConfC) (k : Int) (r : Bool) (w : World) (ok : c.Ok w) (ik : I64 k) (hr : Hid (ChanR c k = r)) :
    Calls Tryz.prog 84 #[.agg #[.slice c.pa c.pn c.pc, .slice c.ca c.cn c.cc, .slice c.ma c.mn c.mc, .slice c.w.la c.w.ln c.w.lc, .slice c.w.na c.w.nn c.w.nc, .int .i64 c.w.sw, .int .i64 c.w.id, .int .i64 c.w.ch, .int .i64 c.w.qu, .int .i64 c.w.sl, .int .i64 c.w.pp, .slice c.da c.dn c.dc, .slice c.ua c.un c.uc], .int .i64 k] w fun e w' => e = .returned (.bool r) ∧ Below w.heap.size w w' := by
  have h1 := ok.chans.out.1
  obtain ⟨ik0, ik1⟩ := ik
  have hr := hr.out
  unfold ChanR at hr
  obtain ⟨r0, d0⟩ : ∃ z, inB k 0 ((c.cn : Int) - 1) = z := ⟨_, rfl⟩
  have C0 := Lib.hid (fun w => in_any k 0 ((c.cn : Int) - 1) r0 w (Lib.hid d0))
  rw [d0] at hr
  have S := cs_in w c
  have bc := S.out.box.cell
  cases r0
  · rw [Bool.false_and] at hr
    subst hr
    clear d0
    go_enter Tryz.func84, Tryz.ntmps84
    go_wp2_with fail
    generalize w.alloc (.cells #[.slice c.pa c.pn c.pc, .slice c.ca c.cn c.cc, .slice c.ma c.mn c.mc, .slice c.w.la c.w.ln c.w.lc, .slice c.w.na c.w.nn c.w.nc, .int .i64 c.w.sw, .int .i64 c.w.id, .int .i64 c.w.ch, .int .i64 c.w.qu, .int .i64 c.w.sl, .int .i64 c.w.pp, .slice c.da c.dn c.dc, .slice c.ua c.un c.uc] 33) = W at *
    refine (C0.out _).mono ?_
    rintro e1 w4 ⟨rfl, e9⟩
    cases e9
    go_wp2_with fail
    go_ret
    exact ⟨rfl, S.out.bel⟩
  · obtain ⟨p0, p1⟩ := inB_iff.1 d0
    clear d0
    rw [Bool.true_and] at hr
    have hk : k.toNat < c.cn := by omega
    have hkI : k < (c.cn : Int) := by omega
    have hcap := ok.cap
    have hkc : k ≤ (c.cc : Int) := by omega
    obtain ⟨b, off, ea, hlt, c0, c1, c2, c3, i0, i1, i2, i3⟩ := rows_at4 ok.chans k.toNat hk
    replace ea := Lib.hid ea
    have OK := Lib.hid (fun w' (h : Below w.heap.size w w') => ok.below h (Nat.le_refl _))
    unfold chB at hr
    obtain ⟨⟨g, vq, vi, vs, vd⟩, ha⟩ : ∃ z, findR c (c.cf k.toNat 0) (c.cf k.toNat 1) = z := ⟨_, rfl⟩
    obtain ⟨⟨g', uq, ui, us, ud⟩, hb⟩ : ∃ z, findR c (c.cf k.toNat 2) (c.cf k.toNat 3) = z := ⟨_, rfl⟩
    have C1 := Lib.hid (fun w ok => find_any c _ _ g vq vi vs vd w ok i0 i1 (Lib.hid ha))
    have C2 := Lib.hid (fun w ok => find_any c _ _ g' uq ui us ud w ok i2 i3 (Lib.hid hb))
    rw [ha, hb] at hr
    unfold chH at hr
    dsimp only at hr
    obtain ⟨z, hz⟩ : ∃ z, decide (fb (clB c.cf vq k.toNat) k.toNat = k.toNat) = z := ⟨_, rfl⟩
    rw [hz] at hr
    have C3 := Lib.hid (fun w' bx ba (hrow : Below w.heap.size w w') (X : Hid (Box w' bx #[.int .i64 (c.cf k.toNat 0), .int .i64 (c.cf k.toNat 1), .int .i64 (c.cf k.toNat 2), .int .i64 (c.cf k.toNat 3)] 136)) (A : Hid (Box w' ba #[.bool vq, .bool vi, .int .i64 vs, .int .i64 vd] 130)) =>
      contains_chan c.ca k.toNat c.cc c.cf (clB c.cf vq k.toNat) 119 #[.pointer (some ⟨bx, 0, none⟩), .pointer (some ⟨ba, 0, none⟩)] z w' (Lib.hid (rows_pre (rows_below ok.chans.out hrow (Nat.le_refl _)) (by omega))) (fun args w => by go_simp)
        (Lib.hid (fun j wr hj hb => clash_any vq vi vs vd (c.cf j 0) (c.cf j 1) (c.cf j 2) (c.cf j 3) (c.cf k.toNat 0) (c.cf k.toNat 1) (c.cf k.toNat 2) (c.cf k.toNat 3) bx ba _ wr (Lib.hid (X.out.next hb)) (Lib.hid (A.out.next hb)) (Lib.hid (show _ = !clB c.cf vq k.toNat j from by unfold clB; rw [Bool.not_not])))) (Lib.hid hz))
    rw [ea.out] at C1 C2 C3
    have HB := (Below.refl w.heap.size w).alloc (Nat.le_refl _) (.cells #[.slice c.pa c.pn c.pc, .slice c.ca c.cn c.cc, .slice c.ma c.mn c.mc, .slice c.w.la c.w.ln c.w.lc, .slice c.w.na c.w.nn c.w.nc, .int .i64 c.w.sw, .int .i64 c.w.id, .int .i64 c.w.ch, .int .i64 c.w.qu, .int .i64 c.w.sl, .int .i64 c.w.pp, .slice c.da c.dn c.dc, .slice c.ua c.un c.uc] 33)
    replace c0 := keep HB c0 hlt
    replace c1 := keep HB c1 hlt
    replace c2 := keep HB c2 hlt
    replace c3 := keep HB c3 hlt
    clear ha hb hz HB i0 i1 i2 i3 hcap hk
    generalize c.cf k.toNat 0 = x0 at *
    generalize c.cf k.toNat 1 = x1 at *
    generalize c.cf k.toNat 2 = x2 at *
    generalize c.cf k.toNat 3 = x3 at *
    unfold chG at hr
    cases g
    · obtain rfl : r = false := by simpa using hr.symm
      clear hr
      go_enter Tryz.func84, Tryz.ntmps84
      go_wp2_with fail
      generalize w.alloc (.cells #[.slice c.pa c.pn c.pc, .slice c.ca c.cn c.cc, .slice c.ma c.mn c.mc, .slice c.w.la c.w.ln c.w.lc, .slice c.w.na c.w.nn c.w.nc, .int .i64 c.w.sw, .int .i64 c.w.id, .int .i64 c.w.ch, .int .i64 c.w.qu, .int .i64 c.w.sl, .int .i64 c.w.pp, .slice c.da c.dn c.dc, .slice c.ua c.un c.uc] 33) = W at *
      rw [ea.out] at bc
      have bc2 := (S.out.box.alloc (.cells #[.int .i64 x0, .int .i64 x1, .int .i64 x2, .int .i64 x3] 136)).cell
      rw [ea.out] at bc2
      refine (C0.out _).mono ?_
      rintro e1 w4 ⟨rfl, e9⟩
      cases e9
      go_wp2_with fail
      clear bc2
      have X := Lib.hid (Box.new W #[.int .i64 x0, .int .i64 x1, .int .i64 x2, .int .i64 x3] 136)
      have S := cs_alloc S (.cells #[.int .i64 x0, .int .i64 x1, .int .i64 x2, .int .i64 x3] 136)
      refine (C1.out _ (OK.out _ S.out.bel)).mono ?_
      rintro e1 w5 ⟨rfl, k5⟩
      have S := cs_next S k5
      have X := Lib.hid (X.out.next k5)
      have A := Lib.hid (Box.new w5 #[.bool vq, .bool vi, .int .i64 vs, .int .i64 vd] 130)
      have S := cs_alloc S (.cells #[.bool vq, .bool vi, .int .i64 vs, .int .i64 vd] 130)
      have X := Lib.hid (X.out.alloc (.cells #[.bool vq, .bool vi, .int .i64 vs, .int .i64 vd] 130))
      have xc := X.out.cell
      clear k5 bc
      have bc := S.out.box.cell
      rw [ea.out] at bc
      go_wp2_with fail
      refine (C2.out _ (OK.out _ S.out.bel)).mono ?_
      rintro e1 w6 ⟨rfl, k5⟩
      have S := cs_next S k5
      have X := Lib.hid (X.out.next k5)
      have A := Lib.hid (A.out.next k5)
      have D := Lib.hid (Box.new w6 #[.bool uq, .bool ui, .int .i64 us, .int .i64 ud] 130)
      have S := cs_alloc S (.cells #[.bool uq, .bool ui, .int .i64 us, .int .i64 ud] 130)
      have X := Lib.hid (X.out.alloc (.cells #[.bool uq, .bool ui, .int .i64 us, .int .i64 ud] 130))
      have A := Lib.hid (A.out.alloc (.cells #[.bool uq, .bool ui, .int .i64 us, .int .i64 ud] 130))
      clear k5 bc xc
      have bc := S.out.box.cell
      have xc := X.out.cell
      have ac := A.out.cell
      have dc := D.out.cell
      rw [ea.out] at bc
      go_wp2_with fail
      go_ret
      exact ⟨rfl, S.out.bel⟩
    · rw [Bool.true_and] at hr
      cases g'
      · obtain rfl : r = false := by simpa using hr.symm
        clear hr
        go_enter Tryz.func84, Tryz.ntmps84
        go_wp2_with fail
        generalize w.alloc (.cells #[.slice c.pa c.pn c.pc, .slice c.ca c.cn c.cc, .slice c.ma c.mn c.mc, .slice c.w.la c.w.ln c.w.lc, .slice c.w.na c.w.nn c.w.nc, .int .i64 c.w.sw, .int .i64 c.w.id, .int .i64 c.w.ch, .int .i64 c.w.qu, .int .i64 c.w.sl, .int .i64 c.w.pp, .slice c.da c.dn c.dc, .slice c.ua c.un c.uc] 33) = W at *
        rw [ea.out] at bc
        have bc2 := (S.out.box.alloc (.cells #[.int .i64 x0, .int .i64 x1, .int .i64 x2, .int .i64 x3] 136)).cell
        rw [ea.out] at bc2
        refine (C0.out _).mono ?_
        rintro e1 w4 ⟨rfl, e9⟩
        cases e9
        go_wp2_with fail
        clear bc2
        have X := Lib.hid (Box.new W #[.int .i64 x0, .int .i64 x1, .int .i64 x2, .int .i64 x3] 136)
        have S := cs_alloc S (.cells #[.int .i64 x0, .int .i64 x1, .int .i64 x2, .int .i64 x3] 136)
        refine (C1.out _ (OK.out _ S.out.bel)).mono ?_
        rintro e1 w5 ⟨rfl, k5⟩
        have S := cs_next S k5
        have X := Lib.hid (X.out.next k5)
        have A := Lib.hid (Box.new w5 #[.bool vq, .bool vi, .int .i64 vs, .int .i64 vd] 130)
        have S := cs_alloc S (.cells #[.bool vq, .bool vi, .int .i64 vs, .int .i64 vd] 130)
        have X := Lib.hid (X.out.alloc (.cells #[.bool vq, .bool vi, .int .i64 vs, .int .i64 vd] 130))
        have xc := X.out.cell
        clear k5 bc
        have bc := S.out.box.cell
        rw [ea.out] at bc
        go_wp2_with fail
        refine (C2.out _ (OK.out _ S.out.bel)).mono ?_
        rintro e1 w6 ⟨rfl, k5⟩
        have S := cs_next S k5
        have X := Lib.hid (X.out.next k5)
        have A := Lib.hid (A.out.next k5)
        have D := Lib.hid (Box.new w6 #[.bool uq, .bool ui, .int .i64 us, .int .i64 ud] 130)
        have S := cs_alloc S (.cells #[.bool uq, .bool ui, .int .i64 us, .int .i64 ud] 130)
        have X := Lib.hid (X.out.alloc (.cells #[.bool uq, .bool ui, .int .i64 us, .int .i64 ud] 130))
        have A := Lib.hid (A.out.alloc (.cells #[.bool uq, .bool ui, .int .i64 us, .int .i64 ud] 130))
        clear k5 bc xc
        have bc := S.out.box.cell
        have xc := X.out.cell
        have ac := A.out.cell
        have dc := D.out.cell
        rw [ea.out] at bc
        go_wp2_with fail
        go_ret
        exact ⟨rfl, S.out.bel⟩
      · rw [Bool.true_and] at hr
        by_cases hx : x0 = x2
        · obtain rfl : r = false := by simpa [hx] using hr.symm
          subst hx
          clear hr
          go_enter Tryz.func84, Tryz.ntmps84
          go_wp2_with fail
          generalize w.alloc (.cells #[.slice c.pa c.pn c.pc, .slice c.ca c.cn c.cc, .slice c.ma c.mn c.mc, .slice c.w.la c.w.ln c.w.lc, .slice c.w.na c.w.nn c.w.nc, .int .i64 c.w.sw, .int .i64 c.w.id, .int .i64 c.w.ch, .int .i64 c.w.qu, .int .i64 c.w.sl, .int .i64 c.w.pp, .slice c.da c.dn c.dc, .slice c.ua c.un c.uc] 33) = W at *
          rw [ea.out] at bc
          have bc2 := (S.out.box.alloc (.cells #[.int .i64 x0, .int .i64 x1, .int .i64 x0, .int .i64 x3] 136)).cell
          rw [ea.out] at bc2
          refine (C0.out _).mono ?_
          rintro e1 w4 ⟨rfl, e9⟩
          cases e9
          go_wp2_with fail
          clear bc2
          have X := Lib.hid (Box.new W #[.int .i64 x0, .int .i64 x1, .int .i64 x0, .int .i64 x3] 136)
          have S := cs_alloc S (.cells #[.int .i64 x0, .int .i64 x1, .int .i64 x0, .int .i64 x3] 136)
          refine (C1.out _ (OK.out _ S.out.bel)).mono ?_
          rintro e1 w5 ⟨rfl, k5⟩
          have S := cs_next S k5
          have X := Lib.hid (X.out.next k5)
          have A := Lib.hid (Box.new w5 #[.bool vq, .bool vi, .int .i64 vs, .int .i64 vd] 130)
          have S := cs_alloc S (.cells #[.bool vq, .bool vi, .int .i64 vs, .int .i64 vd] 130)
          have X := Lib.hid (X.out.alloc (.cells #[.bool vq, .bool vi, .int .i64 vs, .int .i64 vd] 130))
          have xc := X.out.cell
          clear k5 bc
          have bc := S.out.box.cell
          rw [ea.out] at bc
          go_wp2_with fail
          refine (C2.out _ (OK.out _ S.out.bel)).mono ?_
          rintro e1 w6 ⟨rfl, k5⟩
          have S := cs_next S k5
          have X := Lib.hid (X.out.next k5)
          have A := Lib.hid (A.out.next k5)
          have D := Lib.hid (Box.new w6 #[.bool uq, .bool ui, .int .i64 us, .int .i64 ud] 130)
          have S := cs_alloc S (.cells #[.bool uq, .bool ui, .int .i64 us, .int .i64 ud] 130)
          have X := Lib.hid (X.out.alloc (.cells #[.bool uq, .bool ui, .int .i64 us, .int .i64 ud] 130))
          have A := Lib.hid (A.out.alloc (.cells #[.bool uq, .bool ui, .int .i64 us, .int .i64 ud] 130))
          clear k5 bc xc
          have bc := S.out.box.cell
          have xc := X.out.cell
          have ac := A.out.cell
          have dc := D.out.cell
          rw [ea.out] at bc
          go_wp2_with fail
          go_ret
          exact ⟨rfl, S.out.bel⟩
        · rw [decide_eq_false hx, Bool.not_false, Bool.true_and] at hr
          have hx' : (x0 == x2) = false := by rw [beq_eq_false_iff_ne]; exact hx
          clear hx
          cases vi
          · rw [Bool.not_false, Bool.true_and] at hr
            cases ui
            · obtain rfl : r = false := by simpa using hr.symm
              clear hr
              go_enter Tryz.func84, Tryz.ntmps84
              go_wp2_with fail
              generalize w.alloc (.cells #[.slice c.pa c.pn c.pc, .slice c.ca c.cn c.cc, .slice c.ma c.mn c.mc, .slice c.w.la c.w.ln c.w.lc, .slice c.w.na c.w.nn c.w.nc, .int .i64 c.w.sw, .int .i64 c.w.id, .int .i64 c.w.ch, .int .i64 c.w.qu, .int .i64 c.w.sl, .int .i64 c.w.pp, .slice c.da c.dn c.dc, .slice c.ua c.un c.uc] 33) = W at *
              rw [ea.out] at bc
              have bc2 := (S.out.box.alloc (.cells #[.int .i64 x0, .int .i64 x1, .int .i64 x2, .int .i64 x3] 136)).cell
              rw [ea.out] at bc2
              refine (C0.out _).mono ?_
              rintro e1 w4 ⟨rfl, e9⟩
              cases e9
              go_wp2_with fail
              clear bc2
              have X := Lib.hid (Box.new W #[.int .i64 x0, .int .i64 x1, .int .i64 x2, .int .i64 x3] 136)
              have S := cs_alloc S (.cells #[.int .i64 x0, .int .i64 x1, .int .i64 x2, .int .i64 x3] 136)
              refine (C1.out _ (OK.out _ S.out.bel)).mono ?_
              rintro e1 w5 ⟨rfl, k5⟩
              have S := cs_next S k5
              have X := Lib.hid (X.out.next k5)
              have A := Lib.hid (Box.new w5 #[.bool vq, .bool false, .int .i64 vs, .int .i64 vd] 130)
              have S := cs_alloc S (.cells #[.bool vq, .bool false, .int .i64 vs, .int .i64 vd] 130)
              have X := Lib.hid (X.out.alloc (.cells #[.bool vq, .bool false, .int .i64 vs, .int .i64 vd] 130))
              have xc := X.out.cell
              clear k5 bc
              have bc := S.out.box.cell
              rw [ea.out] at bc
              go_wp2_with fail
              refine (C2.out _ (OK.out _ S.out.bel)).mono ?_
              rintro e1 w6 ⟨rfl, k5⟩
              have S := cs_next S k5
              have X := Lib.hid (X.out.next k5)
              have A := Lib.hid (A.out.next k5)
              have D := Lib.hid (Box.new w6 #[.bool uq, .bool false, .int .i64 us, .int .i64 ud] 130)
              have S := cs_alloc S (.cells #[.bool uq, .bool false, .int .i64 us, .int .i64 ud] 130)
              have X := Lib.hid (X.out.alloc (.cells #[.bool uq, .bool false, .int .i64 us, .int .i64 ud] 130))
              have A := Lib.hid (A.out.alloc (.cells #[.bool uq, .bool false, .int .i64 us, .int .i64 ud] 130))
              clear k5 bc xc
              have bc := S.out.box.cell
              have xc := X.out.cell
              have ac := A.out.cell
              have dc := D.out.cell
              rw [ea.out] at bc
              go_wp2_with fail
              go_ret
              exact ⟨rfl, S.out.bel⟩
            · rw [Bool.true_and] at hr
              cases hq : (vq == uq)
              · rw [hq, Bool.false_and] at hr
                subst hr
                cases vq <;> cases uq
                · cases hq
                · clear hq
                  go_enter Tryz.func84, Tryz.ntmps84
                  go_wp2_with fail
                  generalize w.alloc (.cells #[.slice c.pa c.pn c.pc, .slice c.ca c.cn c.cc, .slice c.ma c.mn c.mc, .slice c.w.la c.w.ln c.w.lc, .slice c.w.na c.w.nn c.w.nc, .int .i64 c.w.sw, .int .i64 c.w.id, .int .i64 c.w.ch, .int .i64 c.w.qu, .int .i64 c.w.sl, .int .i64 c.w.pp, .slice c.da c.dn c.dc, .slice c.ua c.un c.uc] 33) = W at *
                  rw [ea.out] at bc
                  have bc2 := (S.out.box.alloc (.cells #[.int .i64 x0, .int .i64 x1, .int .i64 x2, .int .i64 x3] 136)).cell
                  rw [ea.out] at bc2
                  refine (C0.out _).mono ?_
                  rintro e1 w4 ⟨rfl, e9⟩
                  cases e9
                  go_wp2_with fail
                  clear bc2
                  have X := Lib.hid (Box.new W #[.int .i64 x0, .int .i64 x1, .int .i64 x2, .int .i64 x3] 136)
                  have S := cs_alloc S (.cells #[.int .i64 x0, .int .i64 x1, .int .i64 x2, .int .i64 x3] 136)
                  refine (C1.out _ (OK.out _ S.out.bel)).mono ?_
                  rintro e1 w5 ⟨rfl, k5⟩
                  have S := cs_next S k5
                  have X := Lib.hid (X.out.next k5)
                  have A := Lib.hid (Box.new w5 #[.bool false, .bool false, .int .i64 vs, .int .i64 vd] 130)
                  have S := cs_alloc S (.cells #[.bool false, .bool false, .int .i64 vs, .int .i64 vd] 130)
                  have X := Lib.hid (X.out.alloc (.cells #[.bool false, .bool false, .int .i64 vs, .int .i64 vd] 130))
                  have xc := X.out.cell
                  clear k5 bc
                  have bc := S.out.box.cell
                  rw [ea.out] at bc
                  go_wp2_with fail
                  refine (C2.out _ (OK.out _ S.out.bel)).mono ?_
                  rintro e1 w6 ⟨rfl, k5⟩
                  have S := cs_next S k5
                  have X := Lib.hid (X.out.next k5)
                  have A := Lib.hid (A.out.next k5)
                  have D := Lib.hid (Box.new w6 #[.bool true, .bool true, .int .i64 us, .int .i64 ud] 130)
                  have S := cs_alloc S (.cells #[.bool true, .bool true, .int .i64 us, .int .i64 ud] 130)
                  have X := Lib.hid (X.out.alloc (.cells #[.bool true, .bool true, .int .i64 us, .int .i64 ud] 130))
                  have A := Lib.hid (A.out.alloc (.cells #[.bool true, .bool true, .int .i64 us, .int .i64 ud] 130))
                  clear k5 bc xc
                  have bc := S.out.box.cell
                  have xc := X.out.cell
                  have ac := A.out.cell
                  have dc := D.out.cell
                  rw [ea.out] at bc
                  go_wp2_with fail
                  go_ret
                  exact ⟨rfl, S.out.bel⟩
                · clear hq
                  go_enter Tryz.func84, Tryz.ntmps84
                  go_wp2_with fail
                  generalize w.alloc (.cells #[.slice c.pa c.pn c.pc, .slice c.ca c.cn c.cc, .slice c.ma c.mn c.mc, .slice c.w.la c.w.ln c.w.lc, .slice c.w.na c.w.nn c.w.nc, .int .i64 c.w.sw, .int .i64 c.w.id, .int .i64 c.w.ch, .int .i64 c.w.qu, .int .i64 c.w.sl, .int .i64 c.w.pp, .slice c.da c.dn c.dc, .slice c.ua c.un c.uc] 33) = W at *
                  rw [ea.out] at bc
                  have bc2 := (S.out.box.alloc (.cells #[.int .i64 x0, .int .i64 x1, .int .i64 x2, .int .i64 x3] 136)).cell
                  rw [ea.out] at bc2
                  refine (C0.out _).mono ?_
                  rintro e1 w4 ⟨rfl, e9⟩
                  cases e9
                  go_wp2_with fail
                  clear bc2
                  have X := Lib.hid (Box.new W #[.int .i64 x0, .int .i64 x1, .int .i64 x2, .int .i64 x3] 136)
                  have S := cs_alloc S (.cells #[.int .i64 x0, .int .i64 x1, .int .i64 x2, .int .i64 x3] 136)
                  refine (C1.out _ (OK.out _ S.out.bel)).mono ?_
                  rintro e1 w5 ⟨rfl, k5⟩
                  have S := cs_next S k5
                  have X := Lib.hid (X.out.next k5)
                  have A := Lib.hid (Box.new w5 #[.bool true, .bool false, .int .i64 vs, .int .i64 vd] 130)
                  have S := cs_alloc S (.cells #[.bool true, .bool false, .int .i64 vs, .int .i64 vd] 130)
                  have X := Lib.hid (X.out.alloc (.cells #[.bool true, .bool false, .int .i64 vs, .int .i64 vd] 130))
                  have xc := X.out.cell
                  clear k5 bc
                  have bc := S.out.box.cell
                  rw [ea.out] at bc
                  go_wp2_with fail
                  refine (C2.out _ (OK.out _ S.out.bel)).mono ?_
                  rintro e1 w6 ⟨rfl, k5⟩
                  have S := cs_next S k5
                  have X := Lib.hid (X.out.next k5)
                  have A := Lib.hid (A.out.next k5)
                  have D := Lib.hid (Box.new w6 #[.bool false, .bool true, .int .i64 us, .int .i64 ud] 130)
                  have S := cs_alloc S (.cells #[.bool false, .bool true, .int .i64 us, .int .i64 ud] 130)
                  have X := Lib.hid (X.out.alloc (.cells #[.bool false, .bool true, .int .i64 us, .int .i64 ud] 130))
                  have A := Lib.hid (A.out.alloc (.cells #[.bool false, .bool true, .int .i64 us, .int .i64 ud] 130))
                  clear k5 bc xc
                  have bc := S.out.box.cell
                  have xc := X.out.cell
                  have ac := A.out.cell
                  have dc := D.out.cell
                  rw [ea.out] at bc
                  go_wp2_with fail
                  go_ret
                  exact ⟨rfl, S.out.bel⟩
                · cases hq
              · rw [hq, Bool.true_and] at hr
                by_cases hs : vs ≤ us
                · rw [decide_eq_true hs, Bool.true_and] at hr
                  obtain rfl : vq = uq := by simpa using hq
                  subst hr
                  clear hq
                  cases vq
                  · skip
                    go_enter Tryz.func84, Tryz.ntmps84
                    go_wp2_with fail
                    generalize w.alloc (.cells #[.slice c.pa c.pn c.pc, .slice c.ca c.cn c.cc, .slice c.ma c.mn c.mc, .slice c.w.la c.w.ln c.w.lc, .slice c.w.na c.w.nn c.w.nc, .int .i64 c.w.sw, .int .i64 c.w.id, .int .i64 c.w.ch, .int .i64 c.w.qu, .int .i64 c.w.sl, .int .i64 c.w.pp, .slice c.da c.dn c.dc, .slice c.ua c.un c.uc] 33) = W at *
                    rw [ea.out] at bc
                    have bc2 := (S.out.box.alloc (.cells #[.int .i64 x0, .int .i64 x1, .int .i64 x2, .int .i64 x3] 136)).cell
                    rw [ea.out] at bc2
                    refine (C0.out _).mono ?_
                    rintro e1 w4 ⟨rfl, e9⟩
                    cases e9
                    go_wp2_with fail
                    clear bc2
                    have X := Lib.hid (Box.new W #[.int .i64 x0, .int .i64 x1, .int .i64 x2, .int .i64 x3] 136)
                    have S := cs_alloc S (.cells #[.int .i64 x0, .int .i64 x1, .int .i64 x2, .int .i64 x3] 136)
                    refine (C1.out _ (OK.out _ S.out.bel)).mono ?_
                    rintro e1 w5 ⟨rfl, k5⟩
                    have S := cs_next S k5
                    have X := Lib.hid (X.out.next k5)
                    have A := Lib.hid (Box.new w5 #[.bool false, .bool false, .int .i64 vs, .int .i64 vd] 130)
                    have S := cs_alloc S (.cells #[.bool false, .bool false, .int .i64 vs, .int .i64 vd] 130)
                    have X := Lib.hid (X.out.alloc (.cells #[.bool false, .bool false, .int .i64 vs, .int .i64 vd] 130))
                    have xc := X.out.cell
                    clear k5 bc
                    have bc := S.out.box.cell
                    rw [ea.out] at bc
                    go_wp2_with fail
                    refine (C2.out _ (OK.out _ S.out.bel)).mono ?_
                    rintro e1 w6 ⟨rfl, k5⟩
                    have S := cs_next S k5
                    have X := Lib.hid (X.out.next k5)
                    have A := Lib.hid (A.out.next k5)
                    have D := Lib.hid (Box.new w6 #[.bool false, .bool true, .int .i64 us, .int .i64 ud] 130)
                    have S := cs_alloc S (.cells #[.bool false, .bool true, .int .i64 us, .int .i64 ud] 130)
                    have X := Lib.hid (X.out.alloc (.cells #[.bool false, .bool true, .int .i64 us, .int .i64 ud] 130))
                    have A := Lib.hid (A.out.alloc (.cells #[.bool false, .bool true, .int .i64 us, .int .i64 ud] 130))
                    clear k5 bc xc
                    have bc := S.out.box.cell
                    have xc := X.out.cell
                    have ac := A.out.cell
                    have dc := D.out.cell
                    rw [ea.out] at bc
                    go_wp2_with fail
                    refine (C3.out _ _ _ S.out.bel X A).mono ?_
                    rintro e1 w7 ⟨rfl, k5⟩
                    have S := cs_next S k5
                    clear k5 bc xc ac dc
                    go_wp2_with fail
                    go_ret
                    exact ⟨ret_bool (by simp), S.out.bel⟩
                  · skip
                    go_enter Tryz.func84, Tryz.ntmps84
                    go_wp2_with fail
                    generalize w.alloc (.cells #[.slice c.pa c.pn c.pc, .slice c.ca c.cn c.cc, .slice c.ma c.mn c.mc, .slice c.w.la c.w.ln c.w.lc, .slice c.w.na c.w.nn c.w.nc, .int .i64 c.w.sw, .int .i64 c.w.id, .int .i64 c.w.ch, .int .i64 c.w.qu, .int .i64 c.w.sl, .int .i64 c.w.pp, .slice c.da c.dn c.dc, .slice c.ua c.un c.uc] 33) = W at *
                    rw [ea.out] at bc
                    have bc2 := (S.out.box.alloc (.cells #[.int .i64 x0, .int .i64 x1, .int .i64 x2, .int .i64 x3] 136)).cell
                    rw [ea.out] at bc2
                    refine (C0.out _).mono ?_
                    rintro e1 w4 ⟨rfl, e9⟩
                    cases e9
                    go_wp2_with fail
                    clear bc2
                    have X := Lib.hid (Box.new W #[.int .i64 x0, .int .i64 x1, .int .i64 x2, .int .i64 x3] 136)
                    have S := cs_alloc S (.cells #[.int .i64 x0, .int .i64 x1, .int .i64 x2, .int .i64 x3] 136)
                    refine (C1.out _ (OK.out _ S.out.bel)).mono ?_
                    rintro e1 w5 ⟨rfl, k5⟩
                    have S := cs_next S k5
                    have X := Lib.hid (X.out.next k5)
                    have A := Lib.hid (Box.new w5 #[.bool true, .bool false, .int .i64 vs, .int .i64 vd] 130)
                    have S := cs_alloc S (.cells #[.bool true, .bool false, .int .i64 vs, .int .i64 vd] 130)
                    have X := Lib.hid (X.out.alloc (.cells #[.bool true, .bool false, .int .i64 vs, .int .i64 vd] 130))
                    have xc := X.out.cell
                    clear k5 bc
                    have bc := S.out.box.cell
                    rw [ea.out] at bc
                    go_wp2_with fail
                    refine (C2.out _ (OK.out _ S.out.bel)).mono ?_
                    rintro e1 w6 ⟨rfl, k5⟩
                    have S := cs_next S k5
                    have X := Lib.hid (X.out.next k5)
                    have A := Lib.hid (A.out.next k5)
                    have D := Lib.hid (Box.new w6 #[.bool true, .bool true, .int .i64 us, .int .i64 ud] 130)
                    have S := cs_alloc S (.cells #[.bool true, .bool true, .int .i64 us, .int .i64 ud] 130)
                    have X := Lib.hid (X.out.alloc (.cells #[.bool true, .bool true, .int .i64 us, .int .i64 ud] 130))
                    have A := Lib.hid (A.out.alloc (.cells #[.bool true, .bool true, .int .i64 us, .int .i64 ud] 130))
                    clear k5 bc xc
                    have bc := S.out.box.cell
                    have xc := X.out.cell
                    have ac := A.out.cell
                    have dc := D.out.cell
                    rw [ea.out] at bc
                    go_wp2_with fail
                    refine (C3.out _ _ _ S.out.bel X A).mono ?_
                    rintro e1 w7 ⟨rfl, k5⟩
                    have S := cs_next S k5
                    clear k5 bc xc ac dc
                    go_wp2_with fail
                    go_ret
                    exact ⟨ret_bool (by simp), S.out.bel⟩
                · rw [decide_eq_false hs, Bool.false_and] at hr
                  subst hr
                  obtain rfl : vq = uq := by simpa using hq
                  have hs : us < vs := by omega
                  clear hq
                  cases vq
                  · skip
                    go_enter Tryz.func84, Tryz.ntmps84
                    go_wp2_with fail
                    generalize w.alloc (.cells #[.slice c.pa c.pn c.pc, .slice c.ca c.cn c.cc, .slice c.ma c.mn c.mc, .slice c.w.la c.w.ln c.w.lc, .slice c.w.na c.w.nn c.w.nc, .int .i64 c.w.sw, .int .i64 c.w.id, .int .i64 c.w.ch, .int .i64 c.w.qu, .int .i64 c.w.sl, .int .i64 c.w.pp, .slice c.da c.dn c.dc, .slice c.ua c.un c.uc] 33) = W at *
                    rw [ea.out] at bc
                    have bc2 := (S.out.box.alloc (.cells #[.int .i64 x0, .int .i64 x1, .int .i64 x2, .int .i64 x3] 136)).cell
                    rw [ea.out] at bc2
                    refine (C0.out _).mono ?_
                    rintro e1 w4 ⟨rfl, e9⟩
                    cases e9
                    go_wp2_with fail
                    clear bc2
                    have X := Lib.hid (Box.new W #[.int .i64 x0, .int .i64 x1, .int .i64 x2, .int .i64 x3] 136)
                    have S := cs_alloc S (.cells #[.int .i64 x0, .int .i64 x1, .int .i64 x2, .int .i64 x3] 136)
                    refine (C1.out _ (OK.out _ S.out.bel)).mono ?_
                    rintro e1 w5 ⟨rfl, k5⟩
                    have S := cs_next S k5
                    have X := Lib.hid (X.out.next k5)
                    have A := Lib.hid (Box.new w5 #[.bool false, .bool false, .int .i64 vs, .int .i64 vd] 130)
                    have S := cs_alloc S (.cells #[.bool false, .bool false, .int .i64 vs, .int .i64 vd] 130)
                    have X := Lib.hid (X.out.alloc (.cells #[.bool false, .bool false, .int .i64 vs, .int .i64 vd] 130))
                    have xc := X.out.cell
                    clear k5 bc
                    have bc := S.out.box.cell
                    rw [ea.out] at bc
                    go_wp2_with fail
                    refine (C2.out _ (OK.out _ S.out.bel)).mono ?_
                    rintro e1 w6 ⟨rfl, k5⟩
                    have S := cs_next S k5
                    have X := Lib.hid (X.out.next k5)
                    have A := Lib.hid (A.out.next k5)
                    have D := Lib.hid (Box.new w6 #[.bool false, .bool true, .int .i64 us, .int .i64 ud] 130)
                    have S := cs_alloc S (.cells #[.bool false, .bool true, .int .i64 us, .int .i64 ud] 130)
                    have X := Lib.hid (X.out.alloc (.cells #[.bool false, .bool true, .int .i64 us, .int .i64 ud] 130))
                    have A := Lib.hid (A.out.alloc (.cells #[.bool false, .bool true, .int .i64 us, .int .i64 ud] 130))
                    clear k5 bc xc
                    have bc := S.out.box.cell
                    have xc := X.out.cell
                    have ac := A.out.cell
                    have dc := D.out.cell
                    rw [ea.out] at bc
                    go_wp2_with fail
                    go_ret
                    exact ⟨rfl, S.out.bel⟩
                  · skip
                    go_enter Tryz.func84, Tryz.ntmps84
                    go_wp2_with fail
                    generalize w.alloc (.cells #[.slice c.pa c.pn c.pc, .slice c.ca c.cn c.cc, .slice c.ma c.mn c.mc, .slice c.w.la c.w.ln c.w.lc, .slice c.w.na c.w.nn c.w.nc, .int .i64 c.w.sw, .int .i64 c.w.id, .int .i64 c.w.ch, .int .i64 c.w.qu, .int .i64 c.w.sl, .int .i64 c.w.pp, .slice c.da c.dn c.dc, .slice c.ua c.un c.uc] 33) = W at *
                    rw [ea.out] at bc
                    have bc2 := (S.out.box.alloc (.cells #[.int .i64 x0, .int .i64 x1, .int .i64 x2, .int .i64 x3] 136)).cell
                    rw [ea.out] at bc2
                    refine (C0.out _).mono ?_
                    rintro e1 w4 ⟨rfl, e9⟩
                    cases e9
                    go_wp2_with fail
                    clear bc2
                    have X := Lib.hid (Box.new W #[.int .i64 x0, .int .i64 x1, .int .i64 x2, .int .i64 x3] 136)
                    have S := cs_alloc S (.cells #[.int .i64 x0, .int .i64 x1, .int .i64 x2, .int .i64 x3] 136)
                    refine (C1.out _ (OK.out _ S.out.bel)).mono ?_
                    rintro e1 w5 ⟨rfl, k5⟩
                    have S := cs_next S k5
                    have X := Lib.hid (X.out.next k5)
                    have A := Lib.hid (Box.new w5 #[.bool true, .bool false, .int .i64 vs, .int .i64 vd] 130)
                    have S := cs_alloc S (.cells #[.bool true, .bool false, .int .i64 vs, .int .i64 vd] 130)
                    have X := Lib.hid (X.out.alloc (.cells #[.bool true, .bool false, .int .i64 vs, .int .i64 vd] 130))
                    have xc := X.out.cell
                    clear k5 bc
                    have bc := S.out.box.cell
                    rw [ea.out] at bc
                    go_wp2_with fail
                    refine (C2.out _ (OK.out _ S.out.bel)).mono ?_
                    rintro e1 w6 ⟨rfl, k5⟩
                    have S := cs_next S k5
                    have X := Lib.hid (X.out.next k5)
                    have A := Lib.hid (A.out.next k5)
                    have D := Lib.hid (Box.new w6 #[.bool true, .bool true, .int .i64 us, .int .i64 ud] 130)
                    have S := cs_alloc S (.cells #[.bool true, .bool true, .int .i64 us, .int .i64 ud] 130)
                    have X := Lib.hid (X.out.alloc (.cells #[.bool true, .bool true, .int .i64 us, .int .i64 ud] 130))
                    have A := Lib.hid (A.out.alloc (.cells #[.bool true, .bool true, .int .i64 us, .int .i64 ud] 130))
                    clear k5 bc xc
                    have bc := S.out.box.cell
                    have xc := X.out.cell
                    have ac := A.out.cell
                    have dc := D.out.cell
                    rw [ea.out] at bc
                    go_wp2_with fail
                    go_ret
                    exact ⟨rfl, S.out.bel⟩
          · obtain rfl : r = false := by simpa using hr.symm
            clear hr
            go_enter Tryz.func84, Tryz.ntmps84
            go_wp2_with fail
            generalize w.alloc (.cells #[.slice c.pa c.pn c.pc, .slice c.ca c.cn c.cc, .slice c.ma c.mn c.mc, .slice c.w.la c.w.ln c.w.lc, .slice c.w.na c.w.nn c.w.nc, .int .i64 c.w.sw, .int .i64 c.w.id, .int .i64 c.w.ch, .int .i64 c.w.qu, .int .i64 c.w.sl, .int .i64 c.w.pp, .slice c.da c.dn c.dc, .slice c.ua c.un c.uc] 33) = W at *
            rw [ea.out] at bc
            have bc2 := (S.out.box.alloc (.cells #[.int .i64 x0, .int .i64 x1, .int .i64 x2, .int .i64 x3] 136)).cell
            rw [ea.out] at bc2
            refine (C0.out _).mono ?_
            rintro e1 w4 ⟨rfl, e9⟩
            cases e9
            go_wp2_with fail
            clear bc2
            have X := Lib.hid (Box.new W #[.int .i64 x0, .int .i64 x1, .int .i64 x2, .int .i64 x3] 136)
            have S := cs_alloc S (.cells #[.int .i64 x0, .int .i64 x1, .int .i64 x2, .int .i64 x3] 136)
            refine (C1.out _ (OK.out _ S.out.bel)).mono ?_
            rintro e1 w5 ⟨rfl, k5⟩
            have S := cs_next S k5
            have X := Lib.hid (X.out.next k5)
            have A := Lib.hid (Box.new w5 #[.bool vq, .bool true, .int .i64 vs, .int .i64 vd] 130)
            have S := cs_alloc S (.cells #[.bool vq, .bool true, .int .i64 vs, .int .i64 vd] 130)
            have X := Lib.hid (X.out.alloc (.cells #[.bool vq, .bool true, .int .i64 vs, .int .i64 vd] 130))
            have xc := X.out.cell
            clear k5 bc
            have bc := S.out.box.cell
            rw [ea.out] at bc
            go_wp2_with fail
            refine (C2.out _ (OK.out _ S.out.bel)).mono ?_
            rintro e1 w6 ⟨rfl, k5⟩
            have S := cs_next S k5
            have X := Lib.hid (X.out.next k5)
            have A := Lib.hid (A.out.next k5)
            have D := Lib.hid (Box.new w6 #[.bool uq, .bool ui, .int .i64 us, .int .i64 ud] 130)
            have S := cs_alloc S (.cells #[.bool uq, .bool ui, .int .i64 us, .int .i64 ud] 130)
            have X := Lib.hid (X.out.alloc (.cells #[.bool uq, .bool ui, .int .i64 us, .int .i64 ud] 130))
            have A := Lib.hid (A.out.alloc (.cells #[.bool uq, .bool ui, .int .i64 us, .int .i64 ud] 130))
            clear k5 bc xc
            have bc := S.out.box.cell
            have xc := X.out.cell
            have ac := A.out.cell
            have dc := D.out.cell
            rw [ea.out] at bc
            go_wp2_with fail
            go_ret
            exact ⟨rfl, S.out.bel⟩
end Go.Proofs.YtlafeijkpnpdeaaGreat.Vci

/- The reference of valid: is. -/
namespace Go.Proofs.YtlafeijkpnpdeaaGreat.Vis
open Go.RowKit Base Kit Conf Conf2 PowA PowB Vfa Vfb Val Vld Vpa Vpr Short Vcf Vch Vci
set_option linter.unusedVariables false
set_option linter.unusedSimpArgs false
set_option maxRecDepth 100000 in
set_option maxHeartbeats 2000000 in
theorem is_any (c : ConfC) (p q : Int) (g : Bool) (w : World) (ok : c.Ok w) (ip : I64 p) (iq : I64 q) (hg : Hid ((findR c p q).1 = g)) :
    Calls Tryz.prog 68 #[.agg #[.slice c.pa c.pn c.pc, .slice c.ca c.cn c.cc, .slice c.ma c.mn c.mc, .slice c.w.la c.w.ln c.w.lc, .slice c.w.na c.w.nn c.w.nc, .int .i64 c.w.sw, .int .i64 c.w.id, .int .i64 c.w.ch, .int .i64 c.w.qu, .int .i64 c.w.sl, .int .i64 c.w.pp, .slice c.da c.dn c.dc, .slice c.ua c.un c.uc], .agg #[.int .i64 p, .int .i64 q]] w fun e w' => e = .returned (.bool g) ∧ Below w.heap.size w w' := by
  have h1 := ok.parts.out.1
  obtain ⟨ip0, ip1⟩ := ip
  obtain ⟨iq0, iq1⟩ := iq
  have hg := hg.out
  replace hg : isE c p q = g := by
    rw [← hg]; unfold findR
    cases h : isE c p q
    · rfl
    · rfl
  unfold isE at hg
  by_cases p0 : p < 0
  · obtain rfl : g = false := by rw [← hg, show inB p 0 ((c.pn : Int) - 1) = false from inB_not.2 (by omega)]; rfl
    clear hg
    have g0 : decide (0 ≤ p) = false := decide_eq_false (by omega)
    have S := cs_in w c
    go_enter Tryz.func68, Tryz.ntmps68
    go_wp2_with fail
    have S := cs_alloc S (.cells #[.int .i64 p, .int .i64 q] 134)
    have bc := S.out.box.cell
    have xc := (box_new1 w (.cells #[.slice c.pa c.pn c.pc, .slice c.ca c.cn c.cc, .slice c.ma c.mn c.mc, .slice c.w.la c.w.ln c.w.lc, .slice c.w.na c.w.nn c.w.nc, .int .i64 c.w.sw, .int .i64 c.w.id, .int .i64 c.w.ch, .int .i64 c.w.qu, .int .i64 c.w.sl, .int .i64 c.w.pp, .slice c.da c.dn c.dc, .slice c.ua c.un c.uc] 33) #[.int .i64 p, .int .i64 q] 134).cell
    generalize (w.alloc (.cells #[.slice c.pa c.pn c.pc, .slice c.ca c.cn c.cc, .slice c.ma c.mn c.mc, .slice c.w.la c.w.ln c.w.lc, .slice c.w.na c.w.nn c.w.nc, .int .i64 c.w.sw, .int .i64 c.w.id, .int .i64 c.w.ch, .int .i64 c.w.qu, .int .i64 c.w.sl, .int .i64 c.w.pp, .slice c.da c.dn c.dc, .slice c.ua c.un c.uc] 33)).alloc (.cells #[.int .i64 p, .int .i64 q] 134) = W at *
    go_quiet (fail)
    go_wp2_with fail
    go_ret
    exact ⟨rfl, below_drewN' S.out.bel _⟩
  by_cases p1 : (c.pn : Int) ≤ p
  · obtain rfl : g = false := by rw [← hg, show inB p 0 ((c.pn : Int) - 1) = false from inB_not.2 (by omega)]; rfl
    clear hg
    replace p0 : 0 ≤ p := by omega
    have g0 : decide (0 ≤ p) = true := decide_eq_true (by omega)
    have g1 : decide (p < (c.pn : Int)) = false := decide_eq_false (by omega)
    have S := cs_in w c
    go_enter Tryz.func68, Tryz.ntmps68
    go_wp2_with fail
    have S := cs_alloc S (.cells #[.int .i64 p, .int .i64 q] 134)
    have bc := S.out.box.cell
    have xc := (box_new1 w (.cells #[.slice c.pa c.pn c.pc, .slice c.ca c.cn c.cc, .slice c.ma c.mn c.mc, .slice c.w.la c.w.ln c.w.lc, .slice c.w.na c.w.nn c.w.nc, .int .i64 c.w.sw, .int .i64 c.w.id, .int .i64 c.w.ch, .int .i64 c.w.qu, .int .i64 c.w.sl, .int .i64 c.w.pp, .slice c.da c.dn c.dc, .slice c.ua c.un c.uc] 33) #[.int .i64 p, .int .i64 q] 134).cell
    generalize (w.alloc (.cells #[.slice c.pa c.pn c.pc, .slice c.ca c.cn c.cc, .slice c.ma c.mn c.mc, .slice c.w.la c.w.ln c.w.lc, .slice c.w.na c.w.nn c.w.nc, .int .i64 c.w.sw, .int .i64 c.w.id, .int .i64 c.w.ch, .int .i64 c.w.qu, .int .i64 c.w.sl, .int .i64 c.w.pp, .slice c.da c.dn c.dc, .slice c.ua c.un c.uc] 33)).alloc (.cells #[.int .i64 p, .int .i64 q] 134) = W at *
    go_quiet (fail)
    go_wp2_with fail
    go_ret
    exact ⟨rfl, below_drewN' S.out.bel _⟩
  rw [show inB p 0 ((c.pn : Int) - 1) = true from inB_iff.2 (by omega), Bool.true_and] at hg
  replace p0 : 0 ≤ p := by omega
  replace p1 : p < (c.pn : Int) := by omega
  have hk : p.toNat < c.pn := by omega
  have g0 : decide (0 ≤ p) = true := decide_eq_true (by omega)
  have g1 : decide (p < (c.pn : Int)) = true := decide_eq_true (by omega)
  obtain ⟨b, off, ea, hlt, u2⟩ : ∃ b off, c.pa = some ⟨b, off, none⟩ ∧ b < w.heap.size ∧ w.cell? ⟨b, off + p.toNat * 11 + 2, none⟩ = some (.slice (c.p p.toNat).oa (c.p p.toNat).on (c.p p.toNat).oc) := by
    obtain ⟨b, off, ea, hlt, _, _, u2, _, _, _, _, _, _, _, _⟩ := part_at ok.parts p.toNat hk
    exact ⟨b, off, ea, hlt, u2⟩
  replace ea := Lib.hid ea
  have h2 := (ok.part p.toNat hk).port.out.1
  generalize c.p p.toNat = P at *
  have HB := Lib.hid (((Below.refl w.heap.size w).alloc (Nat.le_refl _) (.cells #[.slice c.pa c.pn c.pc, .slice c.ca c.cn c.cc, .slice c.ma c.mn c.mc, .slice c.w.la c.w.ln c.w.lc, .slice c.w.na c.w.nn c.w.nc, .int .i64 c.w.sw, .int .i64 c.w.id, .int .i64 c.w.ch, .int .i64 c.w.qu, .int .i64 c.w.sl, .int .i64 c.w.pp, .slice c.da c.dn c.dc, .slice c.ua c.un c.uc] 33)).alloc (by simp) (.cells #[.int .i64 p, .int .i64 q] 134))
  replace u2 := keep HB.out u2 hlt
  clear HB
  by_cases q0 : q < 0
  · obtain rfl : g = false := by rw [← hg, inB_not]; omega
    clear hg
    have g2 : decide (0 ≤ q) = false := decide_eq_false (by omega)
    have S := cs_in w c
    go_enter Tryz.func68, Tryz.ntmps68
    go_wp2_with fail
    have S := cs_alloc S (.cells #[.int .i64 p, .int .i64 q] 134)
    have bc := S.out.box.cell
    have xc := (box_new1 w (.cells #[.slice c.pa c.pn c.pc, .slice c.ca c.cn c.cc, .slice c.ma c.mn c.mc, .slice c.w.la c.w.ln c.w.lc, .slice c.w.na c.w.nn c.w.nc, .int .i64 c.w.sw, .int .i64 c.w.id, .int .i64 c.w.ch, .int .i64 c.w.qu, .int .i64 c.w.sl, .int .i64 c.w.pp, .slice c.da c.dn c.dc, .slice c.ua c.un c.uc] 33) #[.int .i64 p, .int .i64 q] 134).cell
    generalize (w.alloc (.cells #[.slice c.pa c.pn c.pc, .slice c.ca c.cn c.cc, .slice c.ma c.mn c.mc, .slice c.w.la c.w.ln c.w.lc, .slice c.w.na c.w.nn c.w.nc, .int .i64 c.w.sw, .int .i64 c.w.id, .int .i64 c.w.ch, .int .i64 c.w.qu, .int .i64 c.w.sl, .int .i64 c.w.pp, .slice c.da c.dn c.dc, .slice c.ua c.un c.uc] 33)).alloc (.cells #[.int .i64 p, .int .i64 q] 134) = W at *
    rw [ea.out] at bc
    go_quiet (fail)
    go_wp2_with fail
    go_ret
    exact ⟨rfl, below_drewN' S.out.bel _⟩
  by_cases q1 : (P.on : Int) ≤ q
  · obtain rfl : g = false := by rw [← hg, inB_not]; omega
    clear hg
    replace q0 : 0 ≤ q := by omega
    have g2 : decide (0 ≤ q) = true := decide_eq_true (by omega)
    have g3 : decide (q < (P.on : Int)) = false := decide_eq_false (by omega)
    have S := cs_in w c
    go_enter Tryz.func68, Tryz.ntmps68
    go_wp2_with fail
    have S := cs_alloc S (.cells #[.int .i64 p, .int .i64 q] 134)
    have bc := S.out.box.cell
    have xc := (box_new1 w (.cells #[.slice c.pa c.pn c.pc, .slice c.ca c.cn c.cc, .slice c.ma c.mn c.mc, .slice c.w.la c.w.ln c.w.lc, .slice c.w.na c.w.nn c.w.nc, .int .i64 c.w.sw, .int .i64 c.w.id, .int .i64 c.w.ch, .int .i64 c.w.qu, .int .i64 c.w.sl, .int .i64 c.w.pp, .slice c.da c.dn c.dc, .slice c.ua c.un c.uc] 33) #[.int .i64 p, .int .i64 q] 134).cell
    generalize (w.alloc (.cells #[.slice c.pa c.pn c.pc, .slice c.ca c.cn c.cc, .slice c.ma c.mn c.mc, .slice c.w.la c.w.ln c.w.lc, .slice c.w.na c.w.nn c.w.nc, .int .i64 c.w.sw, .int .i64 c.w.id, .int .i64 c.w.ch, .int .i64 c.w.qu, .int .i64 c.w.sl, .int .i64 c.w.pp, .slice c.da c.dn c.dc, .slice c.ua c.un c.uc] 33)).alloc (.cells #[.int .i64 p, .int .i64 q] 134) = W at *
    rw [ea.out] at bc
    go_quiet (fail)
    go_wp2_with fail
    go_ret
    exact ⟨rfl, below_drewN' S.out.bel _⟩
  obtain rfl : g = true := by rw [← hg, inB_iff]; omega
  clear hg
  replace q0 : 0 ≤ q := by omega
  replace q1 : q < (P.on : Int) := by omega
  have g2 : decide (0 ≤ q) = true := decide_eq_true (by omega)
  have g3 : decide (q < (P.on : Int)) = true := decide_eq_true (by omega)
  have S := cs_in w c
  go_enter Tryz.func68, Tryz.ntmps68
  go_wp2_with fail
  have S := cs_alloc S (.cells #[.int .i64 p, .int .i64 q] 134)
  have bc := S.out.box.cell
  have xc := (box_new1 w (.cells #[.slice c.pa c.pn c.pc, .slice c.ca c.cn c.cc, .slice c.ma c.mn c.mc, .slice c.w.la c.w.ln c.w.lc, .slice c.w.na c.w.nn c.w.nc, .int .i64 c.w.sw, .int .i64 c.w.id, .int .i64 c.w.ch, .int .i64 c.w.qu, .int .i64 c.w.sl, .int .i64 c.w.pp, .slice c.da c.dn c.dc, .slice c.ua c.un c.uc] 33) #[.int .i64 p, .int .i64 q] 134).cell
  generalize (w.alloc (.cells #[.slice c.pa c.pn c.pc, .slice c.ca c.cn c.cc, .slice c.ma c.mn c.mc, .slice c.w.la c.w.ln c.w.lc, .slice c.w.na c.w.nn c.w.nc, .int .i64 c.w.sw, .int .i64 c.w.id, .int .i64 c.w.ch, .int .i64 c.w.qu, .int .i64 c.w.sl, .int .i64 c.w.pp, .slice c.da c.dn c.dc, .slice c.ua c.un c.uc] 33)).alloc (.cells #[.int .i64 p, .int .i64 q] 134) = W at *
  rw [ea.out] at bc
  go_quiet (fail)
  go_wp2_with fail
  go_ret
  exact ⟨rfl, below_drewN' S.out.bel _⟩
end Go.Proofs.YtlafeijkpnpdeaaGreat.Vis

/- Package valid: Mode. -/
import Derived.Test.YtgkahcchekiogaaVcf
import Derived.Test.YtgkahcchekiogaaFitC
namespace Go.Proofs.Ytgkahcchekiogaa.Vmo
open Go.RowKit Base Kit Conf Conf2 PowA PowB Vfa Vfb Val Vld Vpa Vpr Short Vcf FitA FitB FitC
set_option linter.unusedVariables false
set_option linter.unusedSimpArgs false
def winB (pn : Nat) (fr x0 x1 x2 e : Int) : Bool := inB x0 0 ((pn : Int) - 1) && (inB x1 e fr && inB x2 1 (fr - x1))
def winP (c : ConfC) (m : ModeC) (k : Nat) : Bool := winB c.pn m.fr (m.wf k 0) (m.wf k 1) (m.wf k 2) (ahI (fun j => m.wf j 1) k + ahI (fun j => m.wf j 2) k)
def fitP (c : ConfC) (m : ModeC) (k : Nat) : Bool := ft (top c.w.ln c.w.lf 0) c.w.sw (c.p (m.wf k 0).toNat).cap (m.wf k 2)
def ModeQ (c : ConfC) (m : ModeC) : Int := if (inB m.fr 1 1000000000 && (decide (m.wn ≤ 16) && decide (fb (winP c m) m.wn = m.wn))) = true then (if decide (fb (fitP c m) m.wn = m.wn) = true then 0 else 29) else 26
def ModeR (c : ConfC) (k : Int) : Int := if inB k 0 ((c.mn : Int) - 1) = true then ModeQ c (c.m k.toNat) else 26
theorem rule_next {w w1 : World} {b : Nat} {A : Array Value} (h : ∀ i, w.cell? ⟨b, i, none⟩ = A[i]?) (k : Below w.heap.size w w1) (ha : 0 < A.size) : ∀ i, w1.cell? ⟨b, i, none⟩ = A[i]? := fun i => by
  have h0 := h 0
  rw [Array.getElem?_eq_getElem ha] at h0
  rw [World.cell?_of_block (a := ⟨b, i, none⟩) (k.block b (lt_of_cell h0))]; exact h i
theorem win_ah {c : ConfC} {m : ModeC} (h1 : inB m.fr 1 1000000000 = true) (k : Nat) (h : ∀ j, j < k → winP c m j = true) : (0 ≤ ahI (fun j => m.wf j 1) k ∧ ahI (fun j => m.wf j 1) k ≤ m.fr) ∧ (0 ≤ ahI (fun j => m.wf j 2) k ∧ ahI (fun j => m.wf j 2) k ≤ m.fr) ∧ ahI (fun j => m.wf j 1) k + ahI (fun j => m.wf j 2) k ≤ m.fr := by
  have h2 := inB_iff.1 h1
  induction k with
  | zero => simp only [ahI]; omega
  | succ k ih =>
    have h3 := ih (fun j hj => h j (by omega))
    have h4 := h k (by omega)
    unfold winP winB at h4
    simp only [Bool.and_eq_true, inB_iff] at h4
    simp only [ahI]
    omega
theorem win_in {c : ConfC} {m : ModeC} {k : Nat} (h4 : winP c m k = true) : 0 ≤ m.wf k 0 ∧ m.wf k 0 ≤ (c.pn : Int) - 1 := by
  unfold winP winB at h4
  simp only [Bool.and_eq_true, inB_iff] at h4
  exact h4.1
set_option maxHeartbeats 2000000 in
theorem mode1_any (c : ConfC) (fr x0 x1 x2 a0 a1 a2 : Int) (mw : Value) (bc bm : Nat) (r : Bool) (w : World) (hc : Hid (Box w bc #[.slice c.pa c.pn c.pc, .slice c.ca c.cn c.cc, .slice c.ma c.mn c.mc, .slice c.w.la c.w.ln c.w.lc, .slice c.w.na c.w.nn c.w.nc, .int .i64 c.w.sw, .int .i64 c.w.id, .int .i64 c.w.ch, .int .i64 c.w.qu, .int .i64 c.w.sl, .int .i64 c.w.pp, .slice c.da c.dn c.dc, .slice c.ua c.un c.uc] 59)) (hm : Hid (Box w bm #[.int .i64 fr, mw] 83)) (hpn : c.pn ≤ 9223372036854775807)
    (f0 : 1 ≤ fr) (f1 : fr ≤ 1000000000) (a10 : 0 ≤ a1) (a11 : a1 ≤ fr) (a20 : 0 ≤ a2) (a21 : a2 ≤ fr) (hr : Hid (winB c.pn fr x0 x1 x2 (a1 + a2) = r)) :
    Calls Try.prog 98 #[.agg #[.int .i64 x0, .int .i64 x1, .int .i64 x2], .agg #[.int .i64 a0, .int .i64 a1, .int .i64 a2], .pointer (some ⟨bc, 0, none⟩), .pointer (some ⟨bm, 0, none⟩)] w fun e w' => e = .returned (.bool r) ∧ Below w.heap.size w w' := by
  have cc := ((hc.out.alloc (.cells #[.int .i64 x0, .int .i64 x1, .int .i64 x2] 85)).alloc (.cells #[.int .i64 a0, .int .i64 a1, .int .i64 a2] 85)).cell
  have mc := ((hm.out.alloc (.cells #[.int .i64 x0, .int .i64 x1, .int .i64 x2] 85)).alloc (.cells #[.int .i64 a0, .int .i64 a1, .int .i64 a2] 85)).cell
  have HB := Lib.hid (((Below.refl w.heap.size w).alloc (Nat.le_refl _) (.cells #[.int .i64 x0, .int .i64 x1, .int .i64 x2] 85)).alloc (by simp) (.cells #[.int .i64 a0, .int .i64 a1, .int .i64 a2] 85))
  have hr := hr.out
  unfold winB at hr
  obtain ⟨r0, d0⟩ : ∃ z, inB x0 0 ((c.pn : Int) - 1) = z := ⟨_, rfl⟩
  obtain ⟨r1, d1⟩ : ∃ z, inB x1 (a1 + a2) fr = z := ⟨_, rfl⟩
  obtain ⟨r2, d2⟩ : ∃ z, inB x2 1 (fr - x1) = z := ⟨_, rfl⟩
  have C0 := Lib.hid (fun w => in_any x0 0 ((c.pn : Int) - 1) r0 w (Lib.hid d0))
  have C1 := Lib.hid (fun w => in_any x1 (a1 + a2) fr r1 w (Lib.hid d1))
  have C2 := Lib.hid (fun w => in_any x2 1 (fr - x1) r2 w (Lib.hid d2))
  rw [d0, d1, d2] at hr
  cases r0
  · rw [Bool.false_and] at hr
    subst hr
    clear d0 d1 d2
    go_enter Try.func98, Try.ntmps98
    go_wp2_with fail
    refine (C0.out _).mono ?_
    rintro e1 w5 ⟨rfl, e9⟩
    cases e9
    go_wp2_with fail
    go_ret
    exact ⟨rfl, HB.out⟩
  · rw [Bool.true_and] at hr
    cases r1
    · rw [Bool.false_and] at hr
      subst hr
      clear d0 d1 d2
      go_enter Try.func98, Try.ntmps98
      go_wp2_with fail
      refine (C0.out _).mono ?_
      rintro e1 w5 ⟨rfl, e9⟩
      cases e9
      go_wp2_with fail
      refine (C1.out _).mono ?_
      rintro e1 w5 ⟨rfl, e9⟩
      cases e9
      go_wp2_with fail
      go_ret
      exact ⟨rfl, HB.out⟩
    · rw [Bool.true_and] at hr
      subst hr
      have e1 := inB_iff.1 d1
      have e10 : 0 ≤ x1 := by omega
      have e11 := e1.2
      clear d0 d1 d2 e1
      go_enter Try.func98, Try.ntmps98
      go_wp2_with fail
      refine (C0.out _).mono ?_
      rintro e1 w5 ⟨rfl, e9⟩
      cases e9
      go_wp2_with fail
      refine (C1.out _).mono ?_
      rintro e1 w5 ⟨rfl, e9⟩
      cases e9
      go_wp2_with fail
      refine (C2.out _).mono ?_
      rintro e1 w5 ⟨rfl, e9⟩
      cases e9
      go_wp2_with fail
      go_ret
      exact ⟨rfl, HB.out⟩
set_option maxHeartbeats 2000000 in
theorem mode2_any (c : ConfC) (x0 x1 x2 a0 a1 a2 : Int) (bc : Nat) (r : Bool) (w : World) (ok : c.Ok w) (hc : Hid (Box w bc #[.slice c.pa c.pn c.pc, .slice c.ca c.cn c.cc, .slice c.ma c.mn c.mc, .slice c.w.la c.w.ln c.w.lc, .slice c.w.na c.w.nn c.w.nc, .int .i64 c.w.sw, .int .i64 c.w.id, .int .i64 c.w.ch, .int .i64 c.w.qu, .int .i64 c.w.sl, .int .i64 c.w.pp, .slice c.da c.dn c.dc, .slice c.ua c.un c.uc] 59)) (p0 : 0 ≤ x0) (p1 : x0 ≤ (c.pn : Int) - 1) (hr : Hid (ft (top c.w.ln c.w.lf 0) c.w.sw (c.p x0.toNat).cap x2 = r)) :
    Calls Try.prog 100 #[.agg #[.int .i64 x0, .int .i64 x1, .int .i64 x2], .agg #[.int .i64 a0, .int .i64 a1, .int .i64 a2], .pointer (some ⟨bc, 0, none⟩)] w fun e w' => e = .returned (.bool r) ∧ Below w.heap.size w w' := by
  have h1 := ok.parts.out.1
  obtain ⟨b, off, ea, hlt, u7⟩ : ∃ b off, c.pa = some ⟨b, off, none⟩ ∧ b < w.heap.size ∧ w.cell? ⟨b, off + x0.toNat * 11 + 7, none⟩ = some (.int .i64 (c.p x0.toNat).cap) := by
    obtain ⟨b, off, ea, hlt, _, _, _, _, _, _, _, u7, _, _, _⟩ := part_at ok.parts x0.toNat (by omega)
    exact ⟨b, off, ea, hlt, u7⟩
  replace ea := Lib.hid ea
  have icap := (ok.part x0.toNat (by omega)).cap
  have hx : x0 < (c.pn : Int) := by omega
  have OK := Lib.hid (fun w' (h : Below w.heap.size w w') => ok.below h (Nat.le_refl _))
  have C := Lib.hid (fun w' ok => fits_any c.w.la c.w.ln c.w.lc c.w.lf (.slice c.w.na c.w.nn c.w.nc) c.w.sw (.int .i64 c.w.id) (.int .i64 c.w.ch) (.int .i64 c.w.qu) (.int .i64 c.w.sl) (.int .i64 c.w.pp) (c.p x0.toNat).cap x2 r w' (ConfC.Ok.pow ok).lev (ConfC.Ok.pow ok).sw icap hr)
  clear icap hr
  generalize (c.p x0.toNat).cap = cap at *
  have cc := ((hc.out.alloc (.cells #[.int .i64 x0, .int .i64 x1, .int .i64 x2] 85)).alloc (.cells #[.int .i64 a0, .int .i64 a1, .int .i64 a2] 85)).cell
  rw [ea.out] at cc
  have xc := ((Box.new w #[.int .i64 x0, .int .i64 x1, .int .i64 x2] 85).alloc (.cells #[.int .i64 a0, .int .i64 a1, .int .i64 a2] 85)).cell
  have HB := Lib.hid (((Below.refl w.heap.size w).alloc (Nat.le_refl _) (.cells #[.int .i64 x0, .int .i64 x1, .int .i64 x2] 85)).alloc (by simp) (.cells #[.int .i64 a0, .int .i64 a1, .int .i64 a2] 85))
  replace u7 := keep HB.out u7 hlt
  go_enter Try.func100, Try.ntmps100
  go_wp2_with fail
  generalize (w.alloc (.cells #[.int .i64 x0, .int .i64 x1, .int .i64 x2] 85)).alloc (.cells #[.int .i64 a0, .int .i64 a1, .int .i64 a2] 85) = W at *
  have HBD := Lib.hid HB.out.drew
  have cc : ∀ i, W.drew.cell? ⟨bc, i, none⟩ = (#[.slice (some ⟨b, off, none⟩) c.pn c.pc, .slice c.ca c.cn c.cc, .slice c.ma c.mn c.mc, .slice c.w.la c.w.ln c.w.lc, .slice c.w.na c.w.nn c.w.nc, .int .i64 c.w.sw, .int .i64 c.w.id, .int .i64 c.w.ch, .int .i64 c.w.qu, .int .i64 c.w.sl, .int .i64 c.w.pp, .slice c.da c.dn c.dc, .slice c.ua c.un c.uc] : Array Value)[i]? := cc
  have xc : ∀ i, W.drew.cell? ⟨w.heap.size, i, none⟩ = (#[.int .i64 x0, .int .i64 x1, .int .i64 x2] : Array Value)[i]? := xc
  have u7 : W.drew.cell? ⟨b, off + x0.toNat * 11 + 7, none⟩ = some (.int .i64 cap) := u7
  go_region_held3 (fun w' => (∀ i, w'.cell? ⟨bc, i, none⟩ = (#[.slice (some ⟨b, off, none⟩) c.pn c.pc, .slice c.ca c.cn c.cc, .slice c.ma c.mn c.mc, .slice c.w.la c.w.ln c.w.lc, .slice c.w.na c.w.nn c.w.nc, .int .i64 c.w.sw, .int .i64 c.w.id, .int .i64 c.w.ch, .int .i64 c.w.qu, .int .i64 c.w.sl, .int .i64 c.w.pp, .slice c.da c.dn c.dc, .slice c.ua c.un c.uc] : Array Value)[i]?) ∧ (∀ i, w'.cell? ⟨w.heap.size, i, none⟩ = (#[.int .i64 x0, .int .i64 x1, .int .i64 x2] : Array Value)[i]?) ∧ w'.cell? ⟨b, off + x0.toNat * 11 + 7, none⟩ = some (.int .i64 cap) ∧ Hid (Below w.heap.size w w'))
    (first | exact ⟨cc, xc, u7, HBD⟩ | exact ⟨rule_next cc k5 (by simp), rule_next xc k5 (by simp), keep' k5 u7, below_hid HBD k5⟩)
    (first
      | (go_at_call 101; go_split_ands; rename_i hS; refine (C.out _ (OK.out _ hS.out)).mono ?_; rintro e1 w5 ⟨rfl, k5⟩))
  have HB5 := below_hid HBD k5
  clear k5 cc xc u7 hS
  go_wp2_with fail
  go_ret
  exact ⟨rfl, HB5.out⟩
set_option maxRecDepth 100000 in
set_option maxHeartbeats 4000000 in
theorem Mode_any (c : ConfC) (k : Int) (r : Int) (w : World) (ok : c.Ok w) (ik : I64 k) (hr : Hid (ModeR c k = r)) :
    Calls Try.prog 40 #[.agg #[.slice c.pa c.pn c.pc, .slice c.ca c.cn c.cc, .slice c.ma c.mn c.mc, .slice c.w.la c.w.ln c.w.lc, .slice c.w.na c.w.nn c.w.nc, .int .i64 c.w.sw, .int .i64 c.w.id, .int .i64 c.w.ch, .int .i64 c.w.qu, .int .i64 c.w.sl, .int .i64 c.w.pp, .slice c.da c.dn c.dc, .slice c.ua c.un c.uc], .int .i64 k] w fun e w' => e = .returned (.int .i64 r) ∧ Below w.heap.size w w' := by
  have h1 := ok.modes.out.1
  have h2 := ok.parts.out.1
  obtain ⟨ik0, ik1⟩ := ik
  have hr := hr.out
  unfold ModeR at hr
  obtain ⟨r0, d0⟩ : ∃ z, inB k 0 ((c.mn : Int) - 1) = z := ⟨_, rfl⟩
  have C0 := Lib.hid (fun w => in_any k 0 ((c.mn : Int) - 1) r0 w (Lib.hid d0))
  rw [d0] at hr
  have S := cs_in w c
  have bc := S.out.box.cell
  cases r0
  · rw [if_neg (by decide)] at hr
    subst hr
    clear d0
    go_enter Try.func40, Try.ntmps40
    go_wp2_with fail
    generalize w.alloc (.cells #[.slice c.pa c.pn c.pc, .slice c.ca c.cn c.cc, .slice c.ma c.mn c.mc, .slice c.w.la c.w.ln c.w.lc, .slice c.w.na c.w.nn c.w.nc, .int .i64 c.w.sw, .int .i64 c.w.id, .int .i64 c.w.ch, .int .i64 c.w.qu, .int .i64 c.w.sl, .int .i64 c.w.pp, .slice c.da c.dn c.dc, .slice c.ua c.un c.uc] 59) = W at *
    try rw [ea.out] at bc
    refine (C0.out _).mono ?_
    rintro e1 w5 ⟨rfl, e9⟩
    cases e9
    go_wp2_with fail
    go_ret
    exact ⟨rfl, S.out.bel⟩
  · obtain ⟨p0, p1⟩ := inB_iff.1 d0
    clear d0
    rw [if_pos rfl] at hr
    have hk : k.toNat < c.mn := by omega
    have hkI : k < (c.mn : Int) := by omega
    obtain ⟨b, off, ea, hlt, c0, c1⟩ := mode_at ok.modes k.toNat hk
    replace ea := Lib.hid ea
    have OK := Lib.hid (fun w' (h : Below w.heap.size w w') => ok.below h (Nat.le_refl _))
    have HB := (Below.refl w.heap.size w).alloc (Nat.le_refl _) (.cells #[.slice c.pa c.pn c.pc, .slice c.ca c.cn c.cc, .slice c.ma c.mn c.mc, .slice c.w.la c.w.ln c.w.lc, .slice c.w.na c.w.nn c.w.nc, .int .i64 c.w.sw, .int .i64 c.w.id, .int .i64 c.w.ch, .int .i64 c.w.qu, .int .i64 c.w.sl, .int .i64 c.w.pp, .slice c.da c.dn c.dc, .slice c.ua c.un c.uc] 59)
    replace c0 := keep HB c0 hlt
    replace c1 := keep HB c1 hlt
    have win := (ok.mode k.toNat hk).win
    have ifr := (ok.mode k.toNat hk).fr
    clear HB
    generalize c.m k.toNat = m at *
    obtain ⟨fr, wa, wn, wc, wf⟩ := m
    dsimp only at c0 c1 win ifr
    obtain ⟨if0, if1⟩ := ifr
    unfold ModeQ at hr
    dsimp only at hr
    have hwn := win.out.1
    obtain ⟨r1, d1⟩ : ∃ z, inB fr 1 1000000000 = z := ⟨_, rfl⟩
    have C1 := Lib.hid (fun w => in_any fr 1 1000000000 r1 w (Lib.hid d1))
    rw [d1] at hr
    cases r1
    · rw [Bool.false_and, if_neg (by decide)] at hr
      subst hr
      clear d1
      go_enter Try.func40, Try.ntmps40
      go_wp2_with fail
      generalize w.alloc (.cells #[.slice c.pa c.pn c.pc, .slice c.ca c.cn c.cc, .slice c.ma c.mn c.mc, .slice c.w.la c.w.ln c.w.lc, .slice c.w.na c.w.nn c.w.nc, .int .i64 c.w.sw, .int .i64 c.w.id, .int .i64 c.w.ch, .int .i64 c.w.qu, .int .i64 c.w.sl, .int .i64 c.w.pp, .slice c.da c.dn c.dc, .slice c.ua c.un c.uc] 59) = W at *
      try rw [ea.out] at bc
      refine (C0.out _).mono ?_
      rintro e1 w5 ⟨rfl, e9⟩
      cases e9
      go_wp2_with fail
      have M := Lib.hid (Box.new W #[.int .i64 fr, .slice wa wn wc] 83)
      have S := cs_alloc S (.cells #[.int .i64 fr, .slice wa wn wc] 83)
      generalize W.alloc (.cells #[.int .i64 fr, .slice wa wn wc] 83) = W2 at *
      clear bc
      have mc := M.out.cell
      refine (C1.out _).mono ?_
      rintro e1 w5 ⟨rfl, e9⟩
      cases e9
      go_wp2_with fail
      go_ret
      exact ⟨rfl, S.out.bel⟩
    · rw [Bool.true_and] at hr
      obtain ⟨f0, f1⟩ := inB_iff.1 d1
      by_cases h16 : wn ≤ 16
      · rw [decide_eq_true h16, Bool.true_and] at hr
        obtain ⟨z, hz⟩ : ∃ z, frI (winP c ⟨fr, wa, wn, wc, wf⟩) wn = z := ⟨_, rfl⟩
        obtain ⟨v, hv⟩ : ∃ v, decide (fb (winP c ⟨fr, wa, wn, wc, wf⟩) wn = wn) = v := ⟨_, rfl⟩
        have C2 := Lib.hid (fun w' bc bm (hb : Below w.heap.size w w') (X : Hid (Box w' bc #[.slice c.pa c.pn c.pc, .slice c.ca c.cn c.cc, .slice c.ma c.mn c.mc, .slice c.w.la c.w.ln c.w.lc, .slice c.w.na c.w.nn c.w.nc, .int .i64 c.w.sw, .int .i64 c.w.id, .int .i64 c.w.ch, .int .i64 c.w.qu, .int .i64 c.w.sl, .int .i64 c.w.pp, .slice c.da c.dn c.dc, .slice c.ua c.un c.uc] 59)) (M : Hid (Box w' bm #[.int .i64 fr, .slice wa wn wc] 83)) =>
          first_win wa wn wc (fun k => wf k 0) (fun k => wf k 1) (fun k => wf k 2) (winP c ⟨fr, wa, wn, wc, wf⟩) 98 #[.pointer (some ⟨bc, 0, none⟩), .pointer (some ⟨bm, 0, none⟩)] z w' (ri3 (Lib.hid (rows_below win.out hb (Nat.le_refl _)))) (by omega) (fun args w => by go_simp)
            (Lib.hid (fun k wr hk hb hP => have A := win_ah d1 k hP
              mode1_any c fr (wf k 0) (wf k 1) (wf k 2) (ahI (fun j => wf j 0) k) (ahI (fun j => wf j 1) k) (ahI (fun j => wf j 2) k) (.slice wa wn wc) bc bm _ wr (Lib.hid (X.out.next hb)) (Lib.hid (M.out.next hb)) h2 f0 f1 A.1.1 A.1.2 A.2.1.1 A.2.1.2 (Lib.hid rfl))) (Lib.hid hz))
        have zr := fr_neg hz hv
        rw [hv] at hr
        clear d1 hz
        rcases zr with ⟨hz, rfl⟩ | ⟨hz, rfl⟩
        · rw [if_pos rfl] at hr
          have hall := fb_iff.1 (of_decide_eq_true hv)
          obtain ⟨y, hy⟩ : ∃ y, frI (fitP c ⟨fr, wa, wn, wc, wf⟩) wn = y := ⟨_, rfl⟩
          obtain ⟨u, hu⟩ : ∃ u, decide (fb (fitP c ⟨fr, wa, wn, wc, wf⟩) wn = wn) = u := ⟨_, rfl⟩
          have C3 := Lib.hid (fun w' bc (hb : Below w.heap.size w w') (X : Hid (Box w' bc #[.slice c.pa c.pn c.pc, .slice c.ca c.cn c.cc, .slice c.ma c.mn c.mc, .slice c.w.la c.w.ln c.w.lc, .slice c.w.na c.w.nn c.w.nc, .int .i64 c.w.sw, .int .i64 c.w.id, .int .i64 c.w.ch, .int .i64 c.w.qu, .int .i64 c.w.sl, .int .i64 c.w.pp, .slice c.da c.dn c.dc, .slice c.ua c.un c.uc] 59)) =>
            first_win wa wn wc (fun k => wf k 0) (fun k => wf k 1) (fun k => wf k 2) (fitP c ⟨fr, wa, wn, wc, wf⟩) 100 #[.pointer (some ⟨bc, 0, none⟩)] y w' (ri3 (Lib.hid (rows_below win.out hb (Nat.le_refl _)))) (by omega) (fun args w => by go_simp)
              (Lib.hid (fun k wr hk hb1 hP => have A := win_in (hall k hk)
                mode2_any c (wf k 0) (wf k 1) (wf k 2) (ahI (fun j => wf j 0) k) (ahI (fun j => wf j 1) k) (ahI (fun j => wf j 2) k) bc _ wr (OK.out _ (below_next hb hb1)) (Lib.hid (X.out.next hb1)) A.1 A.2 (Lib.hid rfl))) (Lib.hid hy))
          have yr := fr_neg hy hu
          rw [hu] at hr
          clear hy hu hv hall win
          rcases yr with ⟨hy, rfl⟩ | ⟨hy, rfl⟩
          · rw [if_pos rfl] at hr
            subst hr
            go_enter Try.func40, Try.ntmps40
            go_wp2_with fail
            generalize w.alloc (.cells #[.slice c.pa c.pn c.pc, .slice c.ca c.cn c.cc, .slice c.ma c.mn c.mc, .slice c.w.la c.w.ln c.w.lc, .slice c.w.na c.w.nn c.w.nc, .int .i64 c.w.sw, .int .i64 c.w.id, .int .i64 c.w.ch, .int .i64 c.w.qu, .int .i64 c.w.sl, .int .i64 c.w.pp, .slice c.da c.dn c.dc, .slice c.ua c.un c.uc] 59) = W at *
            try rw [ea.out] at bc
            refine (C0.out _).mono ?_
            rintro e1 w5 ⟨rfl, e9⟩
            cases e9
            go_wp2_with fail
            have M := Lib.hid (Box.new W #[.int .i64 fr, .slice wa wn wc] 83)
            have S := cs_alloc S (.cells #[.int .i64 fr, .slice wa wn wc] 83)
            generalize W.alloc (.cells #[.int .i64 fr, .slice wa wn wc] 83) = W2 at *
            clear bc
            have mc := M.out.cell
            refine (C1.out _).mono ?_
            rintro e1 w5 ⟨rfl, e9⟩
            cases e9
            go_wp2_with fail
            refine (C2.out _ _ _ S.out.bel (Lib.hid S.out.box) M).mono ?_
            rintro e1 w6 ⟨rfl, k5⟩
            have S := cs_next S k5
            have M := Lib.hid (M.out.next k5)
            clear k5 mc
            have mc := M.out.cell
            go_wp2_with fail
            refine (C3.out _ _ S.out.bel (Lib.hid S.out.box)).mono ?_
            rintro e1 w7 ⟨rfl, k5⟩
            have S := cs_next S k5
            clear k5 mc
            go_wp2_with fail
            go_ret
            exact ⟨rfl, S.out.bel⟩
          · rw [if_neg (by decide)] at hr
            subst hr
            go_enter Try.func40, Try.ntmps40
            go_wp2_with fail
            generalize w.alloc (.cells #[.slice c.pa c.pn c.pc, .slice c.ca c.cn c.cc, .slice c.ma c.mn c.mc, .slice c.w.la c.w.ln c.w.lc, .slice c.w.na c.w.nn c.w.nc, .int .i64 c.w.sw, .int .i64 c.w.id, .int .i64 c.w.ch, .int .i64 c.w.qu, .int .i64 c.w.sl, .int .i64 c.w.pp, .slice c.da c.dn c.dc, .slice c.ua c.un c.uc] 59) = W at *
            try rw [ea.out] at bc
            refine (C0.out _).mono ?_
            rintro e1 w5 ⟨rfl, e9⟩
            cases e9
            go_wp2_with fail
            have M := Lib.hid (Box.new W #[.int .i64 fr, .slice wa wn wc] 83)
            have S := cs_alloc S (.cells #[.int .i64 fr, .slice wa wn wc] 83)
            generalize W.alloc (.cells #[.int .i64 fr, .slice wa wn wc] 83) = W2 at *
            clear bc
            have mc := M.out.cell
            refine (C1.out _).mono ?_
            rintro e1 w5 ⟨rfl, e9⟩
            cases e9
            go_wp2_with fail
            refine (C2.out _ _ _ S.out.bel (Lib.hid S.out.box) M).mono ?_
            rintro e1 w6 ⟨rfl, k5⟩
            have S := cs_next S k5
            have M := Lib.hid (M.out.next k5)
            clear k5 mc
            have mc := M.out.cell
            go_wp2_with fail
            refine (C3.out _ _ S.out.bel (Lib.hid S.out.box)).mono ?_
            rintro e1 w7 ⟨rfl, k5⟩
            have S := cs_next S k5
            clear k5 mc
            go_wp2_with fail
            go_ret
            exact ⟨rfl, S.out.bel⟩
        · rw [if_neg (by decide)] at hr
          subst hr
          clear hv win
          go_enter Try.func40, Try.ntmps40
          go_wp2_with fail
          generalize w.alloc (.cells #[.slice c.pa c.pn c.pc, .slice c.ca c.cn c.cc, .slice c.ma c.mn c.mc, .slice c.w.la c.w.ln c.w.lc, .slice c.w.na c.w.nn c.w.nc, .int .i64 c.w.sw, .int .i64 c.w.id, .int .i64 c.w.ch, .int .i64 c.w.qu, .int .i64 c.w.sl, .int .i64 c.w.pp, .slice c.da c.dn c.dc, .slice c.ua c.un c.uc] 59) = W at *
          try rw [ea.out] at bc
          refine (C0.out _).mono ?_
          rintro e1 w5 ⟨rfl, e9⟩
          cases e9
          go_wp2_with fail
          have M := Lib.hid (Box.new W #[.int .i64 fr, .slice wa wn wc] 83)
          have S := cs_alloc S (.cells #[.int .i64 fr, .slice wa wn wc] 83)
          generalize W.alloc (.cells #[.int .i64 fr, .slice wa wn wc] 83) = W2 at *
          clear bc
          have mc := M.out.cell
          refine (C1.out _).mono ?_
          rintro e1 w5 ⟨rfl, e9⟩
          cases e9
          go_wp2_with fail
          refine (C2.out _ _ _ S.out.bel (Lib.hid S.out.box) M).mono ?_
          rintro e1 w6 ⟨rfl, k5⟩
          have S := cs_next S k5
          clear k5 mc
          go_wp2_with fail
          go_ret
          exact ⟨rfl, S.out.bel⟩
      · rw [decide_eq_false h16, Bool.false_and, if_neg (by decide)] at hr
        subst hr
        clear d1 win
        have h16 : (16 : Int) < (wn : Int) := by omega
        go_enter Try.func40, Try.ntmps40
        go_wp2_with fail
        generalize w.alloc (.cells #[.slice c.pa c.pn c.pc, .slice c.ca c.cn c.cc, .slice c.ma c.mn c.mc, .slice c.w.la c.w.ln c.w.lc, .slice c.w.na c.w.nn c.w.nc, .int .i64 c.w.sw, .int .i64 c.w.id, .int .i64 c.w.ch, .int .i64 c.w.qu, .int .i64 c.w.sl, .int .i64 c.w.pp, .slice c.da c.dn c.dc, .slice c.ua c.un c.uc] 59) = W at *
        try rw [ea.out] at bc
        refine (C0.out _).mono ?_
        rintro e1 w5 ⟨rfl, e9⟩
        cases e9
        go_wp2_with fail
        have M := Lib.hid (Box.new W #[.int .i64 fr, .slice wa wn wc] 83)
        have S := cs_alloc S (.cells #[.int .i64 fr, .slice wa wn wc] 83)
        generalize W.alloc (.cells #[.int .i64 fr, .slice wa wn wc] 83) = W2 at *
        clear bc
        have mc := M.out.cell
        refine (C1.out _).mono ?_
        rintro e1 w5 ⟨rfl, e9⟩
        cases e9
        go_wp2_with fail
        go_ret
        exact ⟨rfl, S.out.bel⟩
end Go.Proofs.Ytgkahcchekiogaa.Vmo

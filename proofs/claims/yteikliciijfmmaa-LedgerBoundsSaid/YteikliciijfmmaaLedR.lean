/- Walks of the reference's ledger: New, Is, Used, Out, Piece. -/
import Derived.Test.YteikliciijfmmaaLedE
namespace Go.Proofs.Yteikliciijfmmaa.LedR
open Go.RowKit Base Kit WideA WideB Plain FitA FitB FitC Conf Conf2 Alt RefA LedA LedB LedC LedD Short FitR LedN
set_option linter.unusedVariables false
set_option linter.unusedSimpArgs false

/-- the slice, and what lies at a place of it -/
theorem own_int {w : World} {v : Value} {n : Nat} {f : Nat → Int} {e : TypeId} (h : w.ownsRow 0 e 1 v n (row f n)) : ∃ A c, v = .slice A n c ∧ ∀ i, i < n → ∃ g, A = some ⟨g, 0, none⟩ ∧ w.cell? ⟨g, i, none⟩ = some (.int .i64 (f i)) := by
  rcases id h.2 with ⟨h1, h2⟩ | ⟨g, cap, cur, hv, hg, hh, r⟩
  · subst h2; exact ⟨none, 0, h1, fun i hi => by omega⟩
  · refine ⟨_, _, hv, fun i hi => ⟨g, rfl, ?_⟩⟩
    subst hv
    rw [h.cellAt i (by omega), row_get f n i hi]
/-- the reference's ledger, since a world -/
structure Rs (w0 w : World) (c : ConfC) (r : Nat) (V : Value) (cy : Nat → Int) : Prop where
  bel : Below w0.heap.size w0 w
  hr : w0.heap.size ≤ r
  hv : ∀ g, V.ownBlock = some g → w0.heap.size ≤ g
  box : Box w r #[.slice c.pa c.pn c.pc, .slice c.ca c.cn c.cc, .slice c.ma c.mn c.mc, .slice c.w.la c.w.ln c.w.lc, .slice c.w.na c.w.nn c.w.nc, .int .i64 c.w.sw, .int .i64 c.w.id, .int .i64 c.w.ch, .int .i64 c.w.qu, .int .i64 c.w.sl, .int .i64 c.w.pp, .slice c.da c.dn c.dc, .slice c.ua c.un c.uc, V] 129
  own : w.ownsRow 0 3 1 V c.pn (row cy c.pn)
  ok : Hid (c.Ok w0)
  cyb : ∀ i, i < c.pn → 0 ≤ cy i ∧ cy i ≤ 1099511627776
  hn : c.pn ≤ 100
theorem keepc {W w1 : World} {b : Nat} {vs : Array Value} (hb : Below W.heap.size W w1) (hlt : b < W.heap.size) (h : ∀ i, W.cell? ⟨b, i, none⟩ = vs[i]?) : ∀ i, w1.cell? ⟨b, i, none⟩ = vs[i]? := fun i => (hb.cell (p := ⟨b, i, none⟩) hlt).trans (h i)
section
variable {w0 w : World} {c : ConfC} {r : Nat} {V : Value} {cy : Nat → Int}
theorem rs_next {w1 : World} (h : Hid (Rs w0 w c r V cy)) (k : Below w.heap.size w w1) : Hid (Rs w0 w1 c r V cy) :=
  Lib.hid ⟨below_next h.out.bel k, h.out.hr, h.out.hv, h.out.box.next k, ownsRow_keep h.out.own k, h.out.ok, h.out.cyb, h.out.hn⟩
theorem rs_drew (h : Hid (Rs w0 w c r V cy)) : Hid (Rs w0 w.drew c r V cy) := rs_next h ((Below.refl _ _).drew)
theorem rs_drewN (h : Hid (Rs w0 w c r V cy)) (m : Nat) : Hid (Rs w0 (w.drewN m) c r V cy) := rs_next h ⟨rfl, rfl, rfl, Nat.le_refl _, fun _ _ => rfl⟩
theorem rs_lev (h : Hid (Rs w0 w c r V cy)) : Hid (Open.RowsIn w c.w.la c.w.ln 2 c.w.lf) := Lib.hid (rows_below h.out.ok.out.pow.lev.out h.out.bel (Nat.le_refl _))
theorem rs_i64 (h : Hid (Rs w0 w c r V cy)) (i : Nat) (hi : i < c.pn) : I64 (cy i) := by have := h.out.cyb i hi; exact ⟨by omega, by omega⟩
/-- a partition's budget -/
theorem rs_bud (h : Hid (Rs w0 w c r V cy)) (i : Nat) (hi : i < c.pn) : ∃ pb po, c.pa = some ⟨pb, po, none⟩ ∧ pb < w0.heap.size ∧ w.cell? ⟨pb, po + i * 11 + 8, none⟩ = some (.int .i64 (c.p i).bud) ∧ I64 (c.p i).bud := by
  obtain ⟨pb, po, ep, lp, hpc⟩ := part_at h.out.ok.out.parts i hi
  obtain ⟨p0, p1, p2, p3, p4, p5, p6, p7, p8, p9, p10⟩ := pc_next (show PC w0 pb (po + i * 11) (c.p i) from hpc) h.out.bel lp
  exact ⟨pb, po, ep, lp, p8, (h.out.ok.out.part i hi).bud⟩

set_option maxRecDepth 100000 in
theorem is_any (w : World) (h : Hid (Rs w0 w c r V cy)) (p : Int) (ok : Bool) (hok : Hid (decide (0 ≤ p ∧ p < (c.pn : Int)) = ok)) :
    Calls Try.prog 78 #[.pointer (some ⟨r, 0, none⟩), .int .i64 p] w fun e w' => e = .returned (.bool ok) ∧ w = w' := by
  have bc := h.out.box.cell
  have hn := h.out.hn
  obtain ⟨A, cap, rfl, -⟩ := own_int h.out.own
  have hok := hok.out
  by_cases h0 : 0 ≤ p
  · by_cases h1 : p < (c.pn : Int)
    · obtain rfl : ok = true := by rw [← hok]; simp [h0, h1]
      clear hok
      go_enter Try.func78, Try.ntmps78
      go_wp2_with fail
      go_ret
      exact ⟨rfl, rfl⟩
    · obtain rfl : ok = false := by rw [← hok]; simp [h1]
      clear hok
      go_enter Try.func78, Try.ntmps78
      go_wp2_with fail
      go_ret
      exact ⟨rfl, rfl⟩
  · obtain rfl : ok = false := by rw [← hok]; simp [h0]
    clear hok
    go_enter Try.func78, Try.ntmps78
    go_wp2_with fail
    go_ret
    exact ⟨rfl, rfl⟩

set_option maxRecDepth 100000 in
set_option maxHeartbeats 1000000 in
theorem usedr_any (w : World) (h : Hid (Rs w0 w c r V cy)) (p u : Int) (hu : Hid (usedP c.w c.pn cy p = u)) :
    Calls Try.prog 76 #[.pointer (some ⟨r, 0, none⟩), .int .i64 p] w fun e w' => e = .returned (.int .i64 u) ∧ Below w.heap.size w w' := by
  have hu := hu.out
  have hn := h.out.hn
  unfold usedP at hu
  by_cases hp : 0 ≤ p ∧ p < (c.pn : Int)
  · rw [if_pos hp] at hu
    have C1 := Lib.hid (is_any w h p true (Lib.hid (by simpa using hp)))
    obtain ⟨k, rfl⟩ := Int.eq_ofNat_of_zero_le hp.1
    have hk : k < c.pn := by omega
    rw [Int.toNat_natCast] at hu
    obtain ⟨er, e2⟩ : ∃ x, (cst c.w (cy k)).2 = x := ⟨_, rfl⟩
    have IC := rs_i64 h k hk
    have C2 := Lib.hid (fun w h => costr_any c.w.la c.w.ln c.w.lc c.w.lf (.slice c.w.na c.w.nn c.w.nc) c.w.sw (.int .i64 c.w.id) (.int .i64 c.w.ch) (.int .i64 c.w.qu) (.int .i64 c.w.sl) (.int .i64 c.w.pp) (cy k) u er w h IC (Lib.hid (Prod.ext hu e2)))
    have hD := rs_drew h
    have bd := h.out.box.cell
    obtain ⟨A, cap, rfl, hA⟩ := own_int h.out.own
    obtain ⟨g, rfl, gc⟩ := hA k hk
    have L := rs_lev hD
    clear hu e2 hp hA
    go_enter Try.func76, Try.ntmps76
    go_wp2_with fail
    refine C1.out.mono ?_
    rintro e w1 ⟨rfl, rfl⟩
    go_wp2_with fail
    have bd : ∀ i, w.drew.cell? ⟨r, i, none⟩ = (#[.slice c.pa c.pn c.pc, .slice c.ca c.cn c.cc, .slice c.ma c.mn c.mc, .slice c.w.la c.w.ln c.w.lc, .slice c.w.na c.w.nn c.w.nc, .int .i64 c.w.sw, .int .i64 c.w.id, .int .i64 c.w.ch, .int .i64 c.w.qu, .int .i64 c.w.sl, .int .i64 c.w.pp, .slice c.da c.dn c.dc, .slice c.ua c.un c.uc, .slice (some ⟨g, 0, none⟩) c.pn cap] : Array Value)[i]? := hD.out.box.cell
    have gd : w.drew.cell? ⟨g, k, none⟩ = some (.int .i64 (cy k)) := gc
    go_region_held3 (fun w' => (∀ i, w'.cell? ⟨r, i, none⟩ = (#[.slice c.pa c.pn c.pc, .slice c.ca c.cn c.cc, .slice c.ma c.mn c.mc, .slice c.w.la c.w.ln c.w.lc, .slice c.w.na c.w.nn c.w.nc, .int .i64 c.w.sw, .int .i64 c.w.id, .int .i64 c.w.ch, .int .i64 c.w.qu, .int .i64 c.w.sl, .int .i64 c.w.pp, .slice c.da c.dn c.dc, .slice c.ua c.un c.uc, .slice (some ⟨g, 0, none⟩) c.pn cap] : Array Value)[i]?) ∧ w'.cell? ⟨g, k, none⟩ = some (.int .i64 (cy k)))
      (first
        | exact ⟨bd, gd⟩
        | exact r5)
      (first
        | (go_at_call 21; refine (C2.out _ (by exact L)).mono ?_; rintro e1 w5 ⟨rfl, hb5⟩; have r5 := And.intro (hD.out.box.next hb5).cell (keep' hb5 gd); have HB5 := Lib.hid hb5; clear hb5))
    clear bd gd r5
    go_wp2_with fail
    go_ret
    exact ⟨rfl, ((Below.refl _ _).drew).trans HB5.out⟩
  · rw [if_neg hp] at hu
    subst hu
    have C1 := Lib.hid (is_any w h p false (Lib.hid (by simpa using hp)))
    clear hp
    go_enter Try.func76, Try.ntmps76
    go_wp2_with fail
    refine C1.out.mono ?_
    rintro e w1 ⟨rfl, rfl⟩
    go_wp2_with fail
    go_ret
    exact ⟨rfl, Below.refl _ _⟩
set_option maxRecDepth 100000 in
set_option maxHeartbeats 1000000 in
theorem outr_any (w : World) (h : Hid (Rs w0 w c r V cy)) (p : Int) (u : Bool) (hu : Hid (outP c.w (fun i => (c.p i).bud) c.pn cy p = u)) :
    Calls Try.prog 77 #[.pointer (some ⟨r, 0, none⟩), .int .i64 p] w fun e w' => e = .returned (.bool u) ∧ Below w.heap.size w w' := by
  have hu := hu.out
  have hn := h.out.hn
  unfold outP at hu
  by_cases hp : 0 ≤ p ∧ p < (c.pn : Int)
  · rw [if_pos hp] at hu
    have C1 := Lib.hid (is_any w.drew (rs_drew h) p true (Lib.hid (by simpa using hp)))
    obtain ⟨x, hx⟩ : ∃ x, usedP c.w c.pn cy p = x := ⟨_, rfl⟩
    have C2 := Lib.hid (usedr_any w.drew (rs_drew h) p x (Lib.hid hx))
    unfold usedP at hx
    rw [if_pos hp] at hx
    rw [hx] at hu
    clear hx
    obtain ⟨k, rfl⟩ := Int.eq_ofNat_of_zero_le hp.1
    have hk : k < c.pn := by omega
    rw [Int.toNat_natCast] at hu
    have hD := rs_drew h
    obtain ⟨pb, po, ep, lp, bu, bi⟩ := rs_bud hD k hk
    have bd := hD.out.box.cell
    have RL := Lib.hid hD.out.box.lt
    dsimp only at hu
    obtain ⟨B, hB⟩ : ∃ B, (c.p k).bud = B := ⟨_, rfl⟩
    simp only [hB] at hu
    rw [hB] at bu bi
    clear hB
    generalize c.pa = pa at *
    subst ep
    have HU := Lib.hid hu
    clear hu hp
    go_enter Try.func77, Try.ntmps77
    go_wp2_with fail
    go_region_held3 (fun w' => (∀ i, w'.cell? ⟨r, i, none⟩ = (#[.slice (some ⟨pb, po, none⟩) c.pn c.pc, .slice c.ca c.cn c.cc, .slice c.ma c.mn c.mc, .slice c.w.la c.w.ln c.w.lc, .slice c.w.na c.w.nn c.w.nc, .int .i64 c.w.sw, .int .i64 c.w.id, .int .i64 c.w.ch, .int .i64 c.w.qu, .int .i64 c.w.sl, .int .i64 c.w.pp, .slice c.da c.dn c.dc, .slice c.ua c.un c.uc, V] : Array Value)[i]?) ∧ w'.cell? ⟨pb, po + k * 11 + 8, none⟩ = some (.int .i64 B))
      (first
        | exact ⟨bd, bu⟩
        | exact r5)
      (first
        | (go_at_call 78; refine C1.out.mono ?_; rintro e1 w5 ⟨rfl, rfl⟩)
        | (go_at_call 76; refine C2.out.mono ?_; rintro e1 w5 ⟨rfl, hb5⟩; have r5 := And.intro (keepc hb5 RL.out bd) (keep' hb5 bu); have HB5 := Lib.hid hb5; clear hb5))
    clear bd bu r5
    go_wp2_with fail
    go_ret
    exact ⟨ret_bool HU.out, ((Below.refl _ _).drew).trans HB5.out⟩
  · rw [if_neg hp] at hu
    subst hu
    have C1 := Lib.hid (fun m => is_any (w.drewN m) (rs_drewN h m) p false (Lib.hid (by simpa using hp)))
    clear hp
    go_enter Try.func77, Try.ntmps77
    go_wp2_with fail
    go_quiet ((go_at_call 78; exact Calls.quiet_of_same ((C1.out _).mono (fun e w' h => ⟨h.1, h.2.symm⟩))))
    go_wp2_with fail
    go_ret
    exact ⟨rfl, rfl, rfl, rfl, Nat.le_refl _, fun _ _ => rfl⟩

set_option maxRecDepth 100000 in
set_option maxHeartbeats 1000000 in
theorem piecer_any (w : World) (h : Hid (Rs w0 w c r V cy)) (p x : Int) (hx : I64 x) (u : Int) (hu : Hid (pieceP c.w (qm c) (fun i => (c.p i).bud) c.pn cy p x = u)) :
    Calls Try.prog 75 #[.pointer (some ⟨r, 0, none⟩), .int .i64 p, .int .i64 x] w fun e w' => e = .returned (.int .i64 u) ∧ Below w.heap.size w w' := by
  have hu := hu.out
  unfold pieceP at hu
  obtain ⟨o, ho⟩ : ∃ o, outP c.w (fun i => (c.p i).bud) c.pn cy p = o := ⟨_, rfl⟩
  have C1 := Lib.hid (outr_any w h p o (Lib.hid ho))
  rw [ho] at hu
  have iq : I64 c.w.qu := h.out.ok.out.pow.qu
  have NB := Lib.hid (fun w1 (hb : Below w.heap.size w w1) => (h.out.box.next hb).cell)
  clear ho
  cases o
  · by_cases h1 : x < 1
    · rw [if_pos (.inr h1)] at hu
      subst hu
      go_enter Try.func75, Try.ntmps75
      go_wp2_with fail
      refine C1.out.mono ?_
      rintro e w1 ⟨rfl, hb1⟩
      have bc := NB.out w1 hb1
      have HB := Lib.hid hb1
      clear hb1
      go_wp2_with fail
      go_ret
      exact ⟨rfl, HB.out⟩
    · rw [if_neg (by simp; omega)] at hu
      have h1 : 1 ≤ x := by omega
      unfold qm at hu
      by_cases h2 : 1 < c.w.qu
      · rw [if_pos h2] at hu
        by_cases h3 : x < c.w.qu
        · rw [if_pos h3] at hu
          subst hu
          go_enter Try.func75, Try.ntmps75
          go_wp2_with fail
          refine C1.out.mono ?_
          rintro e w1 ⟨rfl, hb1⟩
          have bc := NB.out w1 hb1
          have HB := Lib.hid hb1
          clear hb1
          go_wp2_with fail
          go_ret
          exact ⟨rfl, HB.out⟩
        · rw [if_neg h3] at hu
          have HU := Lib.hid hu
          clear hu
          go_enter Try.func75, Try.ntmps75
          go_wp2_with fail
          refine C1.out.mono ?_
          rintro e w1 ⟨rfl, hb1⟩
          have bc := NB.out w1 hb1
          have HB := Lib.hid hb1
          clear hb1
          go_wp2_with fail
          go_ret
          exact ⟨Kit.ret_int HU.out, HB.out⟩
      · rw [if_neg h2, if_neg (by omega)] at hu
        subst hu
        have h2 : c.w.qu ≤ 1 := by omega
        by_cases h3 : c.w.qu = 1
        · have HQ := Lib.hid h3
          have h4 : 1 ≤ c.w.qu := by omega
          clear h3
          go_enter Try.func75, Try.ntmps75
          go_wp2_with fail
          refine C1.out.mono ?_
          rintro e w1 ⟨rfl, hb1⟩
          have bc := NB.out w1 hb1
          have HB := Lib.hid hb1
          clear hb1
          go_wp2_with fail
          go_ret
          exact ⟨Kit.ret_int HQ.out, HB.out⟩
        · have h4 : c.w.qu < 1 := by omega
          clear h3 h2
          go_enter Try.func75, Try.ntmps75
          go_wp2_with fail
          refine C1.out.mono ?_
          rintro e w1 ⟨rfl, hb1⟩
          have bc := NB.out w1 hb1
          have HB := Lib.hid hb1
          clear hb1
          go_wp2_with fail
          go_ret
          exact ⟨rfl, HB.out⟩
  · rw [if_pos (.inl rfl)] at hu
    subst hu
    go_enter Try.func75, Try.ntmps75
    go_wp2_with fail
    refine C1.out.mono ?_
    rintro e w1 ⟨rfl, hb1⟩
    have bc := NB.out w1 hb1
    have HB := Lib.hid hb1
    clear hb1
    go_wp2_with fail
    go_ret
    exact ⟨rfl, HB.out⟩
end
end Go.Proofs.Yteikliciijfmmaa.LedR

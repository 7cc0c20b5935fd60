import Derived.Test.YtlafeijkpnpdeaaGreatMg18
import Derived.Test.YtlafeijkpnpdeaaGreatMg9

/- The reference of valid: is, Channel. -/
namespace Go.Proofs.YtlafeijkpnpdeaaGreat.Vcr
open Go.RowKit Base Kit Conf Conf2 PowA PowB Vfa Vfb Val Vld Vpa Vpr Short Vcf Vch Vci Vis Held
set_option linter.unusedVariables false
set_option linter.unusedSimpArgs false
structure Ch (w0 w : World) (c : ConfC) (xb ab db : Nat) (x0 x1 x2 x3 : Int) (vq vi uq ui : Bool) (vs vd us ud : Int) : Prop where
  S : Hid (Cs w0 w w0.heap.size c)
  X : Box w xb #[.int .i64 x0, .int .i64 x1, .int .i64 x2, .int .i64 x3] 136
  A : Box w ab #[.bool vq, .bool vi, .int .i64 vs, .int .i64 vd] 130
  D : Box w db #[.bool uq, .bool ui, .int .i64 us, .int .i64 ud] 130
theorem ch_quiet {w0 w : World} {c : ConfC} {xb ab db : Nat} {x0 x1 x2 x3 : Int} {vq vi uq ui : Bool} {vs vd us ud : Int} (h : Hid (Ch w0 w c xb ab db x0 x1 x2 x3 vq vi uq ui vs vd us ud)) (n : Nat) : Hid (Ch w0 (w.drewN n) c xb ab db x0 x1 x2 x3 vq vi uq ui vs vd us ud) :=
  Lib.hid ⟨cs_quiet h.out.S n, h.out.X.drewN n, h.out.A.drewN n, h.out.D.drewN n⟩
theorem chan_cell {c : ConfC} {w w' : World} {b off : Nat} (ok : c.Ok w) (ea : c.ca = some ⟨b, off, none⟩) (j : Nat) (hj : j < c.cn) (h : Below w.heap.size w w') (i : Nat) (hi : i < 4) : w'.cell? ⟨b, off + j * 4 + i, none⟩ = some (.int .i64 (c.cf j i)) := by
  obtain ⟨b1, o1, e, hlt, hc, _⟩ := rows_at ok.chans j hj
  rw [ea] at e
  simp only [Option.some.injEq, Addr.mk.injEq, and_true] at e
  obtain ⟨rfl, rfl⟩ := e
  have := hc i hi
  rw [← Nat.add_assoc] at this
  exact keep h this hlt
theorem port_cells {c : ConfC} {w : World} {p q : Int} {vq vi : Bool} {vs vd : Int} (ok : c.Ok w) (h : findR c p q = (true, vq, vi, vs, vd)) :
    ∃ b1 o1 b2 o2 n2 cc2, c.pa = some ⟨b1, o1, none⟩ ∧ b1 < w.heap.size ∧ b2 < w.heap.size ∧ w.cell? ⟨b1, o1 + p.toNat * 11 + 2, none⟩ = some (.slice (some ⟨b2, o2, none⟩) n2 cc2) ∧
      w.cell? ⟨b2, o2 + q.toNat * 4, none⟩ = some (.bool vq) ∧ w.cell? ⟨b2, o2 + q.toNat * 4 + 1, none⟩ = some (.bool vi) ∧ w.cell? ⟨b2, o2 + q.toNat * 4 + 2, none⟩ = some (.int .i64 vs) ∧ w.cell? ⟨b2, o2 + q.toNat * 4 + 3, none⟩ = some (.int .i64 vd) ∧
      q < (n2 : Int) ∧ 0 ≤ p ∧ p < (c.pn : Int) ∧ 0 ≤ q := by
  unfold findR at h
  cases he : isE c p q
  · rw [he, if_neg (by decide)] at h; cases h
  · rw [he, if_pos rfl] at h
    simp only [Prod.mk.injEq, true_and] at h
    obtain ⟨rfl, rfl, rfl, rfl⟩ := h
    unfold isE at he
    simp only [Bool.and_eq_true, inB_iff] at he
    obtain ⟨b, off, ea, hlt, _, _, u2, _, _, _, _, _, _, _, _⟩ := part_at ok.parts p.toNat (by omega)
    obtain ⟨b2, o2, e2, hl2, v0, v1, v2, v3⟩ := (rv4 (ok.part p.toNat (by omega)).port).out q.toNat (by omega)
    rw [e2] at u2
    exact ⟨b, off, b2, o2, _, _, ea, hlt, hl2, u2, v0, v1, v2, v3, by omega, by omega, by omega, by omega⟩
set_option maxRecDepth 100000 in
set_option maxHeartbeats 8000000 in
theorem Channelr_any (c : ConfC) (k : Int) (r : Bool) (w : World) (ok : c.Ok w) (ik : I64 k) (hr : Hid (ChanR c k = r)) :
    Calls Tryz.prog 42 #[.agg #[.slice c.pa c.pn c.pc, .slice c.ca c.cn c.cc, .slice c.ma c.mn c.mc, .slice c.w.la c.w.ln c.w.lc, .slice c.w.na c.w.nn c.w.nc, .int .i64 c.w.sw, .int .i64 c.w.id, .int .i64 c.w.ch, .int .i64 c.w.qu, .int .i64 c.w.sl, .int .i64 c.w.pp, .slice c.da c.dn c.dc, .slice c.ua c.un c.uc], .int .i64 k] w fun e w' => e = .returned (.bool r) ∧ Below w.heap.size w w' := by
  have h1 := ok.chans.out.1
  obtain ⟨ik0, ik1⟩ := ik
  have hr := hr.out
  unfold ChanR at hr
  have S := cs_in w c
  have bc := S.out.box.cell
  by_cases k0 : k < 0
  · obtain rfl : r = false := by rw [← hr, show inB k 0 ((c.cn : Int) - 1) = false from inB_not.2 (by omega)]; rfl
    clear hr
    have g0 : decide (k < 0) = true := decide_eq_true k0
    go_enter Tryz.func42, Tryz.ntmps42
    go_wp2_with fail
    generalize w.alloc (.cells #[.slice c.pa c.pn c.pc, .slice c.ca c.cn c.cc, .slice c.ma c.mn c.mc, .slice c.w.la c.w.ln c.w.lc, .slice c.w.na c.w.nn c.w.nc, .int .i64 c.w.sw, .int .i64 c.w.id, .int .i64 c.w.ch, .int .i64 c.w.qu, .int .i64 c.w.sl, .int .i64 c.w.pp, .slice c.da c.dn c.dc, .slice c.ua c.un c.uc] 33) = W at *
    go_quiet (fail)
    go_wp2_with fail
    go_ret
    exact ⟨rfl, below_drewN' S.out.bel _⟩
  by_cases k1 : (c.cn : Int) ≤ k
  · obtain rfl : r = false := by rw [← hr, show inB k 0 ((c.cn : Int) - 1) = false from inB_not.2 (by omega)]; rfl
    clear hr
    replace k0 : 0 ≤ k := by omega
    have g0 : decide (k < 0) = false := decide_eq_false (by omega)
    have g1 : decide ((c.cn : Int) ≤ k) = true := decide_eq_true (by omega)
    go_enter Tryz.func42, Tryz.ntmps42
    go_wp2_with fail
    generalize w.alloc (.cells #[.slice c.pa c.pn c.pc, .slice c.ca c.cn c.cc, .slice c.ma c.mn c.mc, .slice c.w.la c.w.ln c.w.lc, .slice c.w.na c.w.nn c.w.nc, .int .i64 c.w.sw, .int .i64 c.w.id, .int .i64 c.w.ch, .int .i64 c.w.qu, .int .i64 c.w.sl, .int .i64 c.w.pp, .slice c.da c.dn c.dc, .slice c.ua c.un c.uc] 33) = W at *
    go_quiet (fail)
    go_wp2_with fail
    go_ret
    exact ⟨rfl, below_drewN' S.out.bel _⟩
  rw [show inB k 0 ((c.cn : Int) - 1) = true from inB_iff.2 (by omega), Bool.true_and] at hr
  replace k0 : 0 ≤ k := by omega
  replace k1 : k < (c.cn : Int) := by omega
  have g0 : decide (k < 0) = false := decide_eq_false (by omega)
  have g1 : decide ((c.cn : Int) ≤ k) = false := decide_eq_false (by omega)
  have hk : k.toNat < c.cn := by omega
  obtain ⟨b, off, ea, hlt, c0, c1, c2, c3, i0, i1, i2, i3⟩ := rows_at4 ok.chans k.toNat hk
  replace ea := Lib.hid ea
  have OK := Lib.hid (fun w' (h : Below w.heap.size w w') => ok.below h (Nat.le_refl _))
  unfold chB at hr
  obtain ⟨⟨g, vq, vi, vs, vd⟩, ha⟩ : ∃ z, findR c (c.cf k.toNat 0) (c.cf k.toNat 1) = z := ⟨_, rfl⟩
  obtain ⟨⟨g', uq, ui, us, ud⟩, hb⟩ : ∃ z, findR c (c.cf k.toNat 2) (c.cf k.toNat 3) = z := ⟨_, rfl⟩
  have C1 := Lib.hid (fun w ok => is_any c _ _ g w ok i0 i1 (Lib.hid (by rw [ha])))
  have C2 := Lib.hid (fun w ok => is_any c _ _ g' w ok i2 i3 (Lib.hid (by rw [hb])))
  rw [ha, hb] at hr
  unfold chH at hr
  dsimp only at hr
  rw [ea.out] at C1 C2
  have HFA := Lib.hid ha
  have HFB := Lib.hid hb
  have HZ := Lib.hid (Eq.refl (decide (fb (clB c.cf vq k.toNat) k.toNat = k.toNat)))
  obtain ⟨z, hz⟩ : ∃ z, decide (fb (clB c.cf vq k.toNat) k.toNat = k.toNat) = z := ⟨_, rfl⟩
  rw [hz] at hr
  replace hz := Lib.hid hz
  have CL := Lib.hid (fun j => Eq.refl (clB c.cf vq k.toNat j))
  clear ha hb i0 i1 i2 i3 HZ
  have CLE : Hid (∀ j, clB c.cf vq k.toNat j = !cl vq (c.cf j 0) (c.cf j 1) (c.cf j 2) (c.cf j 3) (c.cf k.toNat 0) (c.cf k.toNat 1) (c.cf k.toNat 2) (c.cf k.toNat 3)) := Lib.hid (fun j => rfl)
  clear CL
  generalize c.cf k.toNat 0 = x0 at *
  generalize c.cf k.toNat 1 = x1 at *
  generalize c.cf k.toNat 2 = x2 at *
  generalize c.cf k.toNat 3 = x3 at *
  have SK := Lib.hid (fun (w' : World) (h : Hid (Cs w w' w.heap.size c)) => show (∀ i, w'.cell? ⟨w.heap.size, i, none⟩ = (#[.slice c.pa c.pn c.pc, .slice (some ⟨b, off, none⟩) c.cn c.cc, .slice c.ma c.mn c.mc, .slice c.w.la c.w.ln c.w.lc, .slice c.w.na c.w.nn c.w.nc, .int .i64 c.w.sw, .int .i64 c.w.id, .int .i64 c.w.ch, .int .i64 c.w.qu, .int .i64 c.w.sl, .int .i64 c.w.pp, .slice c.da c.dn c.dc, .slice c.ua c.un c.uc] : Array Value)[i]?) ∧ w'.cell? ⟨b, off + k.toNat * 4, none⟩ = some (.int .i64 x0) ∧ w'.cell? ⟨b, off + k.toNat * 4 + 1, none⟩ = some (.int .i64 x1) ∧ w'.cell? ⟨b, off + k.toNat * 4 + 2, none⟩ = some (.int .i64 x2) ∧ w'.cell? ⟨b, off + k.toNat * 4 + 3, none⟩ = some (.int .i64 x3) ∧ Hid (Cs w w' w.heap.size c) from
    ⟨fun i => (h.out.box.cell i).trans (by rw [ea.out]), keep h.out.bel c0 hlt, keep h.out.bel c1 hlt, keep h.out.bel c2 hlt, keep h.out.bel c3 hlt, h⟩)
  clear c0 c1 c2 c3
  unfold chG at hr
  cases g
  · obtain rfl : r = false := by simpa using hr.symm
    clear hr
    go_enter Tryz.func42, Tryz.ntmps42
    go_wp2_with fail
    generalize w.alloc (.cells #[.slice c.pa c.pn c.pc, .slice c.ca c.cn c.cc, .slice c.ma c.mn c.mc, .slice c.w.la c.w.ln c.w.lc, .slice c.w.na c.w.nn c.w.nc, .int .i64 c.w.sw, .int .i64 c.w.id, .int .i64 c.w.ch, .int .i64 c.w.qu, .int .i64 c.w.sl, .int .i64 c.w.pp, .slice c.da c.dn c.dc, .slice c.ua c.un c.uc] 33) = W at *
    have SD : Hid (Cs w _ w.heap.size c) := cs_next S (Below.refl _ _).drew
    clear bc
    refine wp_region_till (fun w' => (∀ i, w'.cell? ⟨w.heap.size, i, none⟩ = (#[.slice c.pa c.pn c.pc, .slice (some ⟨b, off, none⟩) c.cn c.cc, .slice c.ma c.mn c.mc, .slice c.w.la c.w.ln c.w.lc, .slice c.w.na c.w.nn c.w.nc, .int .i64 c.w.sw, .int .i64 c.w.id, .int .i64 c.w.ch, .int .i64 c.w.qu, .int .i64 c.w.sl, .int .i64 c.w.pp, .slice c.da c.dn c.dc, .slice c.ua c.un c.uc] : Array Value)[i]?) ∧ w'.cell? ⟨b, off + k.toNat * 4, none⟩ = some (.int .i64 x0) ∧ w'.cell? ⟨b, off + k.toNat * 4 + 1, none⟩ = some (.int .i64 x1) ∧ w'.cell? ⟨b, off + k.toNat * 4 + 2, none⟩ = some (.int .i64 x2) ∧ w'.cell? ⟨b, off + k.toNat * 4 + 3, none⟩ = some (.int .i64 x3) ∧ Hid (Cs w w' w.heap.size c)) (fun _ => True) 31 31 #[false, false, false, false, false, false, false, false, false, false, false, false, false, false, false, false, false, false, false, false, false, false, false, false, false, false, false, false, false, false, false] (by kernel_rfl) rfl rfl ⟨SK.out _ SD, trivial⟩ (fun hHeld => ?_)
    refine wpTill_take false (i := 0) (v := ?_) rfl (by kernel_rfl) (by kernel_rfl) (by kernel_rfl) (fun _ _ _ h => h) (by kernel_rfl) (Or.inl ⟨by kernel_rfl, ?_⟩) hHeld (fun hHeld => ?_)
    rotate_left
    · (intro w' hSw; obtain ⟨⟨r1, r2, r3, r4, r5, r6⟩, -⟩ := hSw; go_simp; try with_reducible rfl)
    try simp only [Act.put, List.setIfInBounds_toArray, List.set_cons_zero, List.set_cons_succ, List.getElem_toArray, List.getElem_cons_succ, List.getElem_cons_zero]
    refine wpTill_take false (i := 1) (v := .bool false) rfl (by kernel_rfl) (by kernel_rfl) (by kernel_rfl) (fun _ _ _ h => h) (by kernel_rfl) (Or.inl ⟨by kernel_rfl, ?_⟩) hHeld (fun hHeld => ?_)
    · (intro w' hSw; obtain ⟨⟨r1, r2, r3, r4, r5, r6⟩, -⟩ := hSw; go_simp)
    try simp only [Act.put, List.setIfInBounds_toArray, List.set_cons_zero, List.set_cons_succ, List.getElem_toArray, List.getElem_cons_succ, List.getElem_cons_zero]
    refine wpTill_take false (i := 2) (v := .bool false) rfl (by kernel_rfl) (by kernel_rfl) (by kernel_rfl) (fun _ _ _ h => h) (by kernel_rfl) (Or.inl ⟨by kernel_rfl, ?_⟩) hHeld (fun hHeld => ?_)
    · (intro w' hSw; obtain ⟨⟨r1, r2, r3, r4, r5, r6⟩, -⟩ := hSw; go_simp)
    try simp only [Act.put, List.setIfInBounds_toArray, List.set_cons_zero, List.set_cons_succ, List.getElem_toArray, List.getElem_cons_succ, List.getElem_cons_zero]
    refine wpTill_take false (i := 3) (v := ?_) rfl (by kernel_rfl) (by kernel_rfl) (by kernel_rfl) (fun _ _ _ h => h) (by kernel_rfl) (Or.inl ⟨by kernel_rfl, ?_⟩) hHeld (fun hHeld => ?_)
    rotate_left
    · (intro w' hSw; obtain ⟨⟨r1, r2, r3, r4, r5, r6⟩, -⟩ := hSw; go_simp; try with_reducible rfl)
    try simp only [Act.put, List.setIfInBounds_toArray, List.set_cons_zero, List.set_cons_succ, List.getElem_toArray, List.getElem_cons_succ, List.getElem_cons_zero]
    refine wpTill_take false (i := 4) (v := ?_) rfl (by kernel_rfl) (by kernel_rfl) (by kernel_rfl) (fun _ _ _ h => h) (by kernel_rfl) (Or.inl ⟨by kernel_rfl, ?_⟩) hHeld (fun hHeld => ?_)
    rotate_left
    · (intro w' hSw; obtain ⟨⟨r1, r2, r3, r4, r5, r6⟩, -⟩ := hSw; go_simp; try with_reducible rfl)
    try simp only [Act.put, List.setIfInBounds_toArray, List.set_cons_zero, List.set_cons_succ, List.getElem_toArray, List.getElem_cons_succ, List.getElem_cons_zero]
    refine wpTill_take false (i := 5) (v := ?_) rfl (by kernel_rfl) (by kernel_rfl) (by kernel_rfl) (fun _ _ _ h => h) (by kernel_rfl) (Or.inl ⟨by kernel_rfl, ?_⟩) hHeld (fun hHeld => ?_)
    rotate_left
    · (intro w' hSw; obtain ⟨⟨r1, r2, r3, r4, r5, r6⟩, -⟩ := hSw; go_simp; try with_reducible rfl)
    try simp only [Act.put, List.setIfInBounds_toArray, List.set_cons_zero, List.set_cons_succ, List.getElem_toArray, List.getElem_cons_succ, List.getElem_cons_zero]
    refine wpTill_take false (i := 6) (v := ?_) rfl (by kernel_rfl) (by kernel_rfl) (by kernel_rfl) (fun _ _ _ h => h) (by kernel_rfl) (Or.inl ⟨by kernel_rfl, ?_⟩) hHeld (fun hHeld => ?_)
    rotate_left
    · (intro w' hSw; obtain ⟨⟨r1, r2, r3, r4, r5, r6⟩, -⟩ := hSw; go_simp; try with_reducible rfl)
    try simp only [Act.put, List.setIfInBounds_toArray, List.set_cons_zero, List.set_cons_succ, List.getElem_toArray, List.getElem_cons_succ, List.getElem_cons_zero]
    refine wpTill_take false (i := 7) (v := .bool false) rfl (by kernel_rfl) (by kernel_rfl) (by kernel_rfl) (fun _ _ _ h => h) (by kernel_rfl) (Or.inl ⟨by kernel_rfl, ?_⟩) hHeld (fun hHeld => ?_)
    · (intro w' hSw; obtain ⟨⟨r1, r2, r3, r4, r5, r6⟩, -⟩ := hSw; go_simp)
    try simp only [Act.put, List.setIfInBounds_toArray, List.set_cons_zero, List.set_cons_succ, List.getElem_toArray, List.getElem_cons_succ, List.getElem_cons_zero]
    refine wpTill_take false (i := 8) (v := .bool false) rfl (by kernel_rfl) (by kernel_rfl) (by kernel_rfl) (fun _ _ _ h => h) (by kernel_rfl) (Or.inl ⟨by kernel_rfl, ?_⟩) hHeld (fun hHeld => ?_)
    · (intro w' hSw; obtain ⟨⟨r1, r2, r3, r4, r5, r6⟩, -⟩ := hSw; go_simp)
    try simp only [Act.put, List.setIfInBounds_toArray, List.set_cons_zero, List.set_cons_succ, List.getElem_toArray, List.getElem_cons_succ, List.getElem_cons_zero]
    refine wpTill_take false (i := 9) (v := .bool false) rfl (by kernel_rfl) (by kernel_rfl) (by kernel_rfl) (fun _ _ _ h => h) (by kernel_rfl) (Or.inl ⟨by kernel_rfl, ?_⟩) hHeld (fun hHeld => ?_)
    · (intro w' hSw; obtain ⟨⟨r1, r2, r3, r4, r5, r6⟩, -⟩ := hSw; go_simp)
    try simp only [Act.put, List.setIfInBounds_toArray, List.set_cons_zero, List.set_cons_succ, List.getElem_toArray, List.getElem_cons_succ, List.getElem_cons_zero]
    refine wpTill_take false (i := 10) (v := ?_) rfl (by kernel_rfl) (by kernel_rfl) (by kernel_rfl) (fun _ _ _ h => h) (by kernel_rfl) (Or.inl ⟨by kernel_rfl, ?_⟩) hHeld (fun hHeld => ?_)
    rotate_left
    · (intro w' hSw; obtain ⟨⟨r1, r2, r3, r4, r5, r6⟩, -⟩ := hSw; go_simp; try with_reducible rfl)
    try simp only [Act.put, List.setIfInBounds_toArray, List.set_cons_zero, List.set_cons_succ, List.getElem_toArray, List.getElem_cons_succ, List.getElem_cons_zero]
    refine wpTill_take false (i := 11) (v := ?_) rfl (by kernel_rfl) (by kernel_rfl) (by kernel_rfl) (fun _ _ _ h => h) (by kernel_rfl) (Or.inl ⟨by kernel_rfl, ?_⟩) hHeld (fun hHeld => ?_)
    rotate_left
    · (intro w' hSw; obtain ⟨⟨r1, r2, r3, r4, r5, r6⟩, -⟩ := hSw; go_simp; try with_reducible rfl)
    try simp only [Act.put, List.setIfInBounds_toArray, List.set_cons_zero, List.set_cons_succ, List.getElem_toArray, List.getElem_cons_succ, List.getElem_cons_zero]
    refine wpTill_take false (i := 12) (v := ?_) rfl (by kernel_rfl) (by kernel_rfl) (by kernel_rfl) (fun _ _ _ h => h) (by kernel_rfl) (Or.inl ⟨by kernel_rfl, ?_⟩) hHeld (fun hHeld => ?_)
    rotate_left
    · (intro w' hSw; obtain ⟨⟨r1, r2, r3, r4, r5, r6⟩, -⟩ := hSw; go_simp; try with_reducible rfl)
    try simp only [Act.put, List.setIfInBounds_toArray, List.set_cons_zero, List.set_cons_succ, List.getElem_toArray, List.getElem_cons_succ, List.getElem_cons_zero]
    refine wpTill_take false (i := 13) (v := ?_) rfl (by kernel_rfl) (by kernel_rfl) (by kernel_rfl) (fun _ _ _ h => h) (by kernel_rfl) (Or.inl ⟨by kernel_rfl, ?_⟩) hHeld (fun hHeld => ?_)
    rotate_left
    · (intro w' hSw; obtain ⟨⟨r1, r2, r3, r4, r5, r6⟩, -⟩ := hSw; go_simp; try with_reducible rfl)
    try simp only [Act.put, List.setIfInBounds_toArray, List.set_cons_zero, List.set_cons_succ, List.getElem_toArray, List.getElem_cons_succ, List.getElem_cons_zero]
    refine wpTill_take false (i := 14) (v := ?_) rfl (by kernel_rfl) (by kernel_rfl) (by kernel_rfl) (fun _ _ _ h => h) (by kernel_rfl) (Or.inl ⟨by kernel_rfl, ?_⟩) hHeld (fun hHeld => ?_)
    rotate_left
    · (intro w' hSw; obtain ⟨⟨r1, r2, r3, r4, r5, r6⟩, -⟩ := hSw; go_simp; try with_reducible rfl)
    try simp only [Act.put, List.setIfInBounds_toArray, List.set_cons_zero, List.set_cons_succ, List.getElem_toArray, List.getElem_cons_succ, List.getElem_cons_zero]
    refine wpTill_take false (i := 15) (v := ?_) rfl (by kernel_rfl) (by kernel_rfl) (by kernel_rfl) (fun _ _ _ h => h) (by kernel_rfl) (Or.inl ⟨by kernel_rfl, ?_⟩) hHeld (fun hHeld => ?_)
    rotate_left
    · (intro w' hSw; obtain ⟨⟨r1, r2, r3, r4, r5, r6⟩, -⟩ := hSw; go_simp; try with_reducible rfl)
    try simp only [Act.put, List.setIfInBounds_toArray, List.set_cons_zero, List.set_cons_succ, List.getElem_toArray, List.getElem_cons_succ, List.getElem_cons_zero]
    refine wpTill_take false (i := 16) (v := ?_) rfl (by kernel_rfl) (by kernel_rfl) (by kernel_rfl) (fun _ _ _ h => h) (by kernel_rfl) (Or.inl ⟨by kernel_rfl, ?_⟩) hHeld (fun hHeld => ?_)
    rotate_left
    · (intro w' hSw; obtain ⟨⟨r1, r2, r3, r4, r5, r6⟩, -⟩ := hSw; go_simp; try with_reducible rfl)
    try simp only [Act.put, List.setIfInBounds_toArray, List.set_cons_zero, List.set_cons_succ, List.getElem_toArray, List.getElem_cons_succ, List.getElem_cons_zero]
    refine wpTill_one (i := 17) (by kernel_rfl) rfl (fun K hK => ?_)
    rw [if_pos (by kernel_rfl)]
    go_simp
    refine (C1.out _ (OK.out _ SD.out.bel)).mono ?_
    rintro e1 w5 ⟨rfl, k5⟩
    have S5 := cs_next SD k5
    refine hK _ _ ⟨SK.out _ S5, fun _ => trivial⟩ (fun hHeld => ?_)
    clear hK K k5
    refine wpTill_take false (i := 18) (v := .bool true) rfl (by kernel_rfl) (by kernel_rfl) (by kernel_rfl) (fun _ _ _ h => h) (by kernel_rfl) (Or.inl ⟨by kernel_rfl, ?_⟩) hHeld (fun hHeld => ?_)
    · (intro w' hSw; obtain ⟨⟨r1, r2, r3, r4, r5, r6⟩, -⟩ := hSw; go_simp)
    try simp only [Act.put, List.setIfInBounds_toArray, List.set_cons_zero, List.set_cons_succ, List.getElem_toArray, List.getElem_cons_succ, List.getElem_cons_zero]
    refine wpTill_take false (i := 19) (v := .bool true) rfl (by kernel_rfl) (by kernel_rfl) (by kernel_rfl) (fun _ _ _ h => h) (by kernel_rfl) (Or.inl ⟨by kernel_rfl, ?_⟩) hHeld (fun hHeld => ?_)
    · (intro w' hSw; obtain ⟨⟨r1, r2, r3, r4, r5, r6⟩, -⟩ := hSw; go_simp)
    try simp only [Act.put, List.setIfInBounds_toArray, List.set_cons_zero, List.set_cons_succ, List.getElem_toArray, List.getElem_cons_succ, List.getElem_cons_zero]
    refine wpTill_take false (i := 20) (v := .bool true) rfl (by kernel_rfl) (by kernel_rfl) (by kernel_rfl) (fun _ _ _ h => h) (by kernel_rfl) (Or.inl ⟨by kernel_rfl, ?_⟩) hHeld (fun hHeld => ?_)
    · (intro w' hSw; obtain ⟨⟨r1, r2, r3, r4, r5, r6⟩, -⟩ := hSw; go_simp)
    try simp only [Act.put, List.setIfInBounds_toArray, List.set_cons_zero, List.set_cons_succ, List.getElem_toArray, List.getElem_cons_succ, List.getElem_cons_zero]
    refine wpTill_take false (i := 21) (v := undef) rfl (by kernel_rfl) (by kernel_rfl) (by kernel_rfl) (fun _ _ _ h => h) (by kernel_rfl) (Or.inr ⟨by kernel_rfl, rfl⟩) hHeld (fun hHeld => ?_)
    try simp only [Act.put, List.setIfInBounds_toArray, List.set_cons_zero, List.set_cons_succ, List.getElem_toArray, List.getElem_cons_succ, List.getElem_cons_zero]
    refine wpTill_take false (i := 22) (v := undef) rfl (by kernel_rfl) (by kernel_rfl) (by kernel_rfl) (fun _ _ _ h => h) (by kernel_rfl) (Or.inr ⟨by kernel_rfl, rfl⟩) hHeld (fun hHeld => ?_)
    try simp only [Act.put, List.setIfInBounds_toArray, List.set_cons_zero, List.set_cons_succ, List.getElem_toArray, List.getElem_cons_succ, List.getElem_cons_zero]
    refine wpTill_take false (i := 23) (v := undef) rfl (by kernel_rfl) (by kernel_rfl) (by kernel_rfl) (fun _ _ _ h => h) (by kernel_rfl) (Or.inr ⟨by kernel_rfl, rfl⟩) hHeld (fun hHeld => ?_)
    try simp only [Act.put, List.setIfInBounds_toArray, List.set_cons_zero, List.set_cons_succ, List.getElem_toArray, List.getElem_cons_succ, List.getElem_cons_zero]
    refine wpTill_take false (i := 24) (v := undef) rfl (by kernel_rfl) (by kernel_rfl) (by kernel_rfl) (fun _ _ _ h => h) (by kernel_rfl) (Or.inr ⟨by kernel_rfl, rfl⟩) hHeld (fun hHeld => ?_)
    try simp only [Act.put, List.setIfInBounds_toArray, List.set_cons_zero, List.set_cons_succ, List.getElem_toArray, List.getElem_cons_succ, List.getElem_cons_zero]
    refine wpTill_take false (i := 25) (v := undef) rfl (by kernel_rfl) (by kernel_rfl) (by kernel_rfl) (fun _ _ _ h => h) (by kernel_rfl) (Or.inr ⟨by kernel_rfl, rfl⟩) hHeld (fun hHeld => ?_)
    try simp only [Act.put, List.setIfInBounds_toArray, List.set_cons_zero, List.set_cons_succ, List.getElem_toArray, List.getElem_cons_succ, List.getElem_cons_zero]
    refine wpTill_take false (i := 26) (v := undef) rfl (by kernel_rfl) (by kernel_rfl) (by kernel_rfl) (fun _ _ _ h => h) (by kernel_rfl) (Or.inr ⟨by kernel_rfl, rfl⟩) hHeld (fun hHeld => ?_)
    try simp only [Act.put, List.setIfInBounds_toArray, List.set_cons_zero, List.set_cons_succ, List.getElem_toArray, List.getElem_cons_succ, List.getElem_cons_zero]
    refine wpTill_take false (i := 27) (v := undef) rfl (by kernel_rfl) (by kernel_rfl) (by kernel_rfl) (fun _ _ _ h => h) (by kernel_rfl) (Or.inr ⟨by kernel_rfl, rfl⟩) hHeld (fun hHeld => ?_)
    try simp only [Act.put, List.setIfInBounds_toArray, List.set_cons_zero, List.set_cons_succ, List.getElem_toArray, List.getElem_cons_succ, List.getElem_cons_zero]
    refine wpTill_take false (i := 28) (v := undef) rfl (by kernel_rfl) (by kernel_rfl) (by kernel_rfl) (fun _ _ _ h => h) (by kernel_rfl) (Or.inr ⟨by kernel_rfl, rfl⟩) hHeld (fun hHeld => ?_)
    try simp only [Act.put, List.setIfInBounds_toArray, List.set_cons_zero, List.set_cons_succ, List.getElem_toArray, List.getElem_cons_succ, List.getElem_cons_zero]
    refine wpTill_take false (i := 29) (v := undef) rfl (by kernel_rfl) (by kernel_rfl) (by kernel_rfl) (fun _ _ _ h => h) (by kernel_rfl) (Or.inr ⟨by kernel_rfl, rfl⟩) hHeld (fun hHeld => ?_)
    try simp only [Act.put, List.setIfInBounds_toArray, List.set_cons_zero, List.set_cons_succ, List.getElem_toArray, List.getElem_cons_succ, List.getElem_cons_zero]
    refine wpTill_take false (i := 30) (v := .bool true) rfl (by kernel_rfl) (by kernel_rfl) (by kernel_rfl) (fun _ _ _ h => h) (by kernel_rfl) (Or.inl ⟨by kernel_rfl, ?_⟩) hHeld (fun hHeld => ?_)
    · (intro w' hSw; obtain ⟨⟨r1, r2, r3, r4, r5, r6⟩, -⟩ := hSw; go_simp)
    try simp only [Act.put, List.setIfInBounds_toArray, List.set_cons_zero, List.set_cons_succ, List.getElem_toArray, List.getElem_cons_succ, List.getElem_cons_zero]
    refine wpTill_done (by kernel_rfl) ?_ 0
    clear hHeld
    go_wp2_with fail
    go_ret
    exact ⟨rfl, S5.out.bel⟩
  rw [Bool.true_and] at hr
  cases g'
  · obtain rfl : r = false := by simpa using hr.symm
    clear hr
    go_enter Tryz.func42, Tryz.ntmps42
    go_wp2_with fail
    generalize w.alloc (.cells #[.slice c.pa c.pn c.pc, .slice c.ca c.cn c.cc, .slice c.ma c.mn c.mc, .slice c.w.la c.w.ln c.w.lc, .slice c.w.na c.w.nn c.w.nc, .int .i64 c.w.sw, .int .i64 c.w.id, .int .i64 c.w.ch, .int .i64 c.w.qu, .int .i64 c.w.sl, .int .i64 c.w.pp, .slice c.da c.dn c.dc, .slice c.ua c.un c.uc] 33) = W at *
    have SD : Hid (Cs w _ w.heap.size c) := cs_next S (Below.refl _ _).drew
    clear bc
    refine wp_region_till (fun w' => (∀ i, w'.cell? ⟨w.heap.size, i, none⟩ = (#[.slice c.pa c.pn c.pc, .slice (some ⟨b, off, none⟩) c.cn c.cc, .slice c.ma c.mn c.mc, .slice c.w.la c.w.ln c.w.lc, .slice c.w.na c.w.nn c.w.nc, .int .i64 c.w.sw, .int .i64 c.w.id, .int .i64 c.w.ch, .int .i64 c.w.qu, .int .i64 c.w.sl, .int .i64 c.w.pp, .slice c.da c.dn c.dc, .slice c.ua c.un c.uc] : Array Value)[i]?) ∧ w'.cell? ⟨b, off + k.toNat * 4, none⟩ = some (.int .i64 x0) ∧ w'.cell? ⟨b, off + k.toNat * 4 + 1, none⟩ = some (.int .i64 x1) ∧ w'.cell? ⟨b, off + k.toNat * 4 + 2, none⟩ = some (.int .i64 x2) ∧ w'.cell? ⟨b, off + k.toNat * 4 + 3, none⟩ = some (.int .i64 x3) ∧ Hid (Cs w w' w.heap.size c)) (fun _ => True) 31 31 #[false, false, false, false, false, false, false, false, false, false, false, false, false, false, false, false, false, false, false, false, false, false, false, false, false, false, false, false, false, false, false] (by kernel_rfl) rfl rfl ⟨SK.out _ SD, trivial⟩ (fun hHeld => ?_)
    refine wpTill_take false (i := 0) (v := ?_) rfl (by kernel_rfl) (by kernel_rfl) (by kernel_rfl) (fun _ _ _ h => h) (by kernel_rfl) (Or.inl ⟨by kernel_rfl, ?_⟩) hHeld (fun hHeld => ?_)
    rotate_left
    · (intro w' hSw; obtain ⟨⟨r1, r2, r3, r4, r5, r6⟩, -⟩ := hSw; go_simp; try with_reducible rfl)
    try simp only [Act.put, List.setIfInBounds_toArray, List.set_cons_zero, List.set_cons_succ, List.getElem_toArray, List.getElem_cons_succ, List.getElem_cons_zero]
    refine wpTill_take false (i := 1) (v := .bool false) rfl (by kernel_rfl) (by kernel_rfl) (by kernel_rfl) (fun _ _ _ h => h) (by kernel_rfl) (Or.inl ⟨by kernel_rfl, ?_⟩) hHeld (fun hHeld => ?_)
    · (intro w' hSw; obtain ⟨⟨r1, r2, r3, r4, r5, r6⟩, -⟩ := hSw; go_simp)
    try simp only [Act.put, List.setIfInBounds_toArray, List.set_cons_zero, List.set_cons_succ, List.getElem_toArray, List.getElem_cons_succ, List.getElem_cons_zero]
    refine wpTill_take false (i := 2) (v := .bool false) rfl (by kernel_rfl) (by kernel_rfl) (by kernel_rfl) (fun _ _ _ h => h) (by kernel_rfl) (Or.inl ⟨by kernel_rfl, ?_⟩) hHeld (fun hHeld => ?_)
    · (intro w' hSw; obtain ⟨⟨r1, r2, r3, r4, r5, r6⟩, -⟩ := hSw; go_simp)
    try simp only [Act.put, List.setIfInBounds_toArray, List.set_cons_zero, List.set_cons_succ, List.getElem_toArray, List.getElem_cons_succ, List.getElem_cons_zero]
    refine wpTill_take false (i := 3) (v := ?_) rfl (by kernel_rfl) (by kernel_rfl) (by kernel_rfl) (fun _ _ _ h => h) (by kernel_rfl) (Or.inl ⟨by kernel_rfl, ?_⟩) hHeld (fun hHeld => ?_)
    rotate_left
    · (intro w' hSw; obtain ⟨⟨r1, r2, r3, r4, r5, r6⟩, -⟩ := hSw; go_simp; try with_reducible rfl)
    try simp only [Act.put, List.setIfInBounds_toArray, List.set_cons_zero, List.set_cons_succ, List.getElem_toArray, List.getElem_cons_succ, List.getElem_cons_zero]
    refine wpTill_take false (i := 4) (v := ?_) rfl (by kernel_rfl) (by kernel_rfl) (by kernel_rfl) (fun _ _ _ h => h) (by kernel_rfl) (Or.inl ⟨by kernel_rfl, ?_⟩) hHeld (fun hHeld => ?_)
    rotate_left
    · (intro w' hSw; obtain ⟨⟨r1, r2, r3, r4, r5, r6⟩, -⟩ := hSw; go_simp; try with_reducible rfl)
    try simp only [Act.put, List.setIfInBounds_toArray, List.set_cons_zero, List.set_cons_succ, List.getElem_toArray, List.getElem_cons_succ, List.getElem_cons_zero]
    refine wpTill_take false (i := 5) (v := ?_) rfl (by kernel_rfl) (by kernel_rfl) (by kernel_rfl) (fun _ _ _ h => h) (by kernel_rfl) (Or.inl ⟨by kernel_rfl, ?_⟩) hHeld (fun hHeld => ?_)
    rotate_left
    · (intro w' hSw; obtain ⟨⟨r1, r2, r3, r4, r5, r6⟩, -⟩ := hSw; go_simp; try with_reducible rfl)
    try simp only [Act.put, List.setIfInBounds_toArray, List.set_cons_zero, List.set_cons_succ, List.getElem_toArray, List.getElem_cons_succ, List.getElem_cons_zero]
    refine wpTill_take false (i := 6) (v := ?_) rfl (by kernel_rfl) (by kernel_rfl) (by kernel_rfl) (fun _ _ _ h => h) (by kernel_rfl) (Or.inl ⟨by kernel_rfl, ?_⟩) hHeld (fun hHeld => ?_)
    rotate_left
    · (intro w' hSw; obtain ⟨⟨r1, r2, r3, r4, r5, r6⟩, -⟩ := hSw; go_simp; try with_reducible rfl)
    try simp only [Act.put, List.setIfInBounds_toArray, List.set_cons_zero, List.set_cons_succ, List.getElem_toArray, List.getElem_cons_succ, List.getElem_cons_zero]
    refine wpTill_take false (i := 7) (v := .bool false) rfl (by kernel_rfl) (by kernel_rfl) (by kernel_rfl) (fun _ _ _ h => h) (by kernel_rfl) (Or.inl ⟨by kernel_rfl, ?_⟩) hHeld (fun hHeld => ?_)
    · (intro w' hSw; obtain ⟨⟨r1, r2, r3, r4, r5, r6⟩, -⟩ := hSw; go_simp)
    try simp only [Act.put, List.setIfInBounds_toArray, List.set_cons_zero, List.set_cons_succ, List.getElem_toArray, List.getElem_cons_succ, List.getElem_cons_zero]
    refine wpTill_take false (i := 8) (v := .bool false) rfl (by kernel_rfl) (by kernel_rfl) (by kernel_rfl) (fun _ _ _ h => h) (by kernel_rfl) (Or.inl ⟨by kernel_rfl, ?_⟩) hHeld (fun hHeld => ?_)
    · (intro w' hSw; obtain ⟨⟨r1, r2, r3, r4, r5, r6⟩, -⟩ := hSw; go_simp)
    try simp only [Act.put, List.setIfInBounds_toArray, List.set_cons_zero, List.set_cons_succ, List.getElem_toArray, List.getElem_cons_succ, List.getElem_cons_zero]
    refine wpTill_take false (i := 9) (v := .bool false) rfl (by kernel_rfl) (by kernel_rfl) (by kernel_rfl) (fun _ _ _ h => h) (by kernel_rfl) (Or.inl ⟨by kernel_rfl, ?_⟩) hHeld (fun hHeld => ?_)
    · (intro w' hSw; obtain ⟨⟨r1, r2, r3, r4, r5, r6⟩, -⟩ := hSw; go_simp)
    try simp only [Act.put, List.setIfInBounds_toArray, List.set_cons_zero, List.set_cons_succ, List.getElem_toArray, List.getElem_cons_succ, List.getElem_cons_zero]
    refine wpTill_take false (i := 10) (v := ?_) rfl (by kernel_rfl) (by kernel_rfl) (by kernel_rfl) (fun _ _ _ h => h) (by kernel_rfl) (Or.inl ⟨by kernel_rfl, ?_⟩) hHeld (fun hHeld => ?_)
    rotate_left
    · (intro w' hSw; obtain ⟨⟨r1, r2, r3, r4, r5, r6⟩, -⟩ := hSw; go_simp; try with_reducible rfl)
    try simp only [Act.put, List.setIfInBounds_toArray, List.set_cons_zero, List.set_cons_succ, List.getElem_toArray, List.getElem_cons_succ, List.getElem_cons_zero]
    refine wpTill_take false (i := 11) (v := ?_) rfl (by kernel_rfl) (by kernel_rfl) (by kernel_rfl) (fun _ _ _ h => h) (by kernel_rfl) (Or.inl ⟨by kernel_rfl, ?_⟩) hHeld (fun hHeld => ?_)
    rotate_left
    · (intro w' hSw; obtain ⟨⟨r1, r2, r3, r4, r5, r6⟩, -⟩ := hSw; go_simp; try with_reducible rfl)
    try simp only [Act.put, List.setIfInBounds_toArray, List.set_cons_zero, List.set_cons_succ, List.getElem_toArray, List.getElem_cons_succ, List.getElem_cons_zero]
    refine wpTill_take false (i := 12) (v := ?_) rfl (by kernel_rfl) (by kernel_rfl) (by kernel_rfl) (fun _ _ _ h => h) (by kernel_rfl) (Or.inl ⟨by kernel_rfl, ?_⟩) hHeld (fun hHeld => ?_)
    rotate_left
    · (intro w' hSw; obtain ⟨⟨r1, r2, r3, r4, r5, r6⟩, -⟩ := hSw; go_simp; try with_reducible rfl)
    try simp only [Act.put, List.setIfInBounds_toArray, List.set_cons_zero, List.set_cons_succ, List.getElem_toArray, List.getElem_cons_succ, List.getElem_cons_zero]
    refine wpTill_take false (i := 13) (v := ?_) rfl (by kernel_rfl) (by kernel_rfl) (by kernel_rfl) (fun _ _ _ h => h) (by kernel_rfl) (Or.inl ⟨by kernel_rfl, ?_⟩) hHeld (fun hHeld => ?_)
    rotate_left
    · (intro w' hSw; obtain ⟨⟨r1, r2, r3, r4, r5, r6⟩, -⟩ := hSw; go_simp; try with_reducible rfl)
    try simp only [Act.put, List.setIfInBounds_toArray, List.set_cons_zero, List.set_cons_succ, List.getElem_toArray, List.getElem_cons_succ, List.getElem_cons_zero]
    refine wpTill_take false (i := 14) (v := ?_) rfl (by kernel_rfl) (by kernel_rfl) (by kernel_rfl) (fun _ _ _ h => h) (by kernel_rfl) (Or.inl ⟨by kernel_rfl, ?_⟩) hHeld (fun hHeld => ?_)
    rotate_left
    · (intro w' hSw; obtain ⟨⟨r1, r2, r3, r4, r5, r6⟩, -⟩ := hSw; go_simp; try with_reducible rfl)
    try simp only [Act.put, List.setIfInBounds_toArray, List.set_cons_zero, List.set_cons_succ, List.getElem_toArray, List.getElem_cons_succ, List.getElem_cons_zero]
    refine wpTill_take false (i := 15) (v := ?_) rfl (by kernel_rfl) (by kernel_rfl) (by kernel_rfl) (fun _ _ _ h => h) (by kernel_rfl) (Or.inl ⟨by kernel_rfl, ?_⟩) hHeld (fun hHeld => ?_)
    rotate_left
    · (intro w' hSw; obtain ⟨⟨r1, r2, r3, r4, r5, r6⟩, -⟩ := hSw; go_simp; try with_reducible rfl)
    try simp only [Act.put, List.setIfInBounds_toArray, List.set_cons_zero, List.set_cons_succ, List.getElem_toArray, List.getElem_cons_succ, List.getElem_cons_zero]
    refine wpTill_take false (i := 16) (v := ?_) rfl (by kernel_rfl) (by kernel_rfl) (by kernel_rfl) (fun _ _ _ h => h) (by kernel_rfl) (Or.inl ⟨by kernel_rfl, ?_⟩) hHeld (fun hHeld => ?_)
    rotate_left
    · (intro w' hSw; obtain ⟨⟨r1, r2, r3, r4, r5, r6⟩, -⟩ := hSw; go_simp; try with_reducible rfl)
    try simp only [Act.put, List.setIfInBounds_toArray, List.set_cons_zero, List.set_cons_succ, List.getElem_toArray, List.getElem_cons_succ, List.getElem_cons_zero]
    refine wpTill_one (i := 17) (by kernel_rfl) rfl (fun K hK => ?_)
    rw [if_pos (by kernel_rfl)]
    go_simp
    refine (C1.out _ (OK.out _ SD.out.bel)).mono ?_
    rintro e1 w5 ⟨rfl, k5⟩
    have S5 := cs_next SD k5
    refine hK _ _ ⟨SK.out _ S5, fun _ => trivial⟩ (fun hHeld => ?_)
    clear hK K k5
    refine wpTill_take false (i := 18) (v := .bool false) rfl (by kernel_rfl) (by kernel_rfl) (by kernel_rfl) (fun _ _ _ h => h) (by kernel_rfl) (Or.inl ⟨by kernel_rfl, ?_⟩) hHeld (fun hHeld => ?_)
    · (intro w' hSw; obtain ⟨⟨r1, r2, r3, r4, r5, r6⟩, -⟩ := hSw; go_simp)
    try simp only [Act.put, List.setIfInBounds_toArray, List.set_cons_zero, List.set_cons_succ, List.getElem_toArray, List.getElem_cons_succ, List.getElem_cons_zero]
    refine wpTill_take false (i := 19) (v := .bool false) rfl (by kernel_rfl) (by kernel_rfl) (by kernel_rfl) (fun _ _ _ h => h) (by kernel_rfl) (Or.inl ⟨by kernel_rfl, ?_⟩) hHeld (fun hHeld => ?_)
    · (intro w' hSw; obtain ⟨⟨r1, r2, r3, r4, r5, r6⟩, -⟩ := hSw; go_simp)
    try simp only [Act.put, List.setIfInBounds_toArray, List.set_cons_zero, List.set_cons_succ, List.getElem_toArray, List.getElem_cons_succ, List.getElem_cons_zero]
    refine wpTill_take false (i := 20) (v := .bool false) rfl (by kernel_rfl) (by kernel_rfl) (by kernel_rfl) (fun _ _ _ h => h) (by kernel_rfl) (Or.inl ⟨by kernel_rfl, ?_⟩) hHeld (fun hHeld => ?_)
    · (intro w' hSw; obtain ⟨⟨r1, r2, r3, r4, r5, r6⟩, -⟩ := hSw; go_simp)
    try simp only [Act.put, List.setIfInBounds_toArray, List.set_cons_zero, List.set_cons_succ, List.getElem_toArray, List.getElem_cons_succ, List.getElem_cons_zero]
    refine wpTill_take false (i := 21) (v := ?_) rfl (by kernel_rfl) (by kernel_rfl) (by kernel_rfl) (fun _ _ _ h => h) (by kernel_rfl) (Or.inl ⟨by kernel_rfl, ?_⟩) hHeld (fun hHeld => ?_)
    rotate_left
    · (intro w' hSw; obtain ⟨⟨r1, r2, r3, r4, r5, r6⟩, -⟩ := hSw; go_simp; try with_reducible rfl)
    try simp only [Act.put, List.setIfInBounds_toArray, List.set_cons_zero, List.set_cons_succ, List.getElem_toArray, List.getElem_cons_succ, List.getElem_cons_zero]
    refine wpTill_take false (i := 22) (v := ?_) rfl (by kernel_rfl) (by kernel_rfl) (by kernel_rfl) (fun _ _ _ h => h) (by kernel_rfl) (Or.inl ⟨by kernel_rfl, ?_⟩) hHeld (fun hHeld => ?_)
    rotate_left
    · (intro w' hSw; obtain ⟨⟨r1, r2, r3, r4, r5, r6⟩, -⟩ := hSw; go_simp; try with_reducible rfl)
    try simp only [Act.put, List.setIfInBounds_toArray, List.set_cons_zero, List.set_cons_succ, List.getElem_toArray, List.getElem_cons_succ, List.getElem_cons_zero]
    refine wpTill_take false (i := 23) (v := ?_) rfl (by kernel_rfl) (by kernel_rfl) (by kernel_rfl) (fun _ _ _ h => h) (by kernel_rfl) (Or.inl ⟨by kernel_rfl, ?_⟩) hHeld (fun hHeld => ?_)
    rotate_left
    · (intro w' hSw; obtain ⟨⟨r1, r2, r3, r4, r5, r6⟩, -⟩ := hSw; go_simp; try with_reducible rfl)
    try simp only [Act.put, List.setIfInBounds_toArray, List.set_cons_zero, List.set_cons_succ, List.getElem_toArray, List.getElem_cons_succ, List.getElem_cons_zero]
    refine wpTill_take false (i := 24) (v := ?_) rfl (by kernel_rfl) (by kernel_rfl) (by kernel_rfl) (fun _ _ _ h => h) (by kernel_rfl) (Or.inl ⟨by kernel_rfl, ?_⟩) hHeld (fun hHeld => ?_)
    rotate_left
    · (intro w' hSw; obtain ⟨⟨r1, r2, r3, r4, r5, r6⟩, -⟩ := hSw; go_simp; try with_reducible rfl)
    try simp only [Act.put, List.setIfInBounds_toArray, List.set_cons_zero, List.set_cons_succ, List.getElem_toArray, List.getElem_cons_succ, List.getElem_cons_zero]
    refine wpTill_take false (i := 25) (v := ?_) rfl (by kernel_rfl) (by kernel_rfl) (by kernel_rfl) (fun _ _ _ h => h) (by kernel_rfl) (Or.inl ⟨by kernel_rfl, ?_⟩) hHeld (fun hHeld => ?_)
    rotate_left
    · (intro w' hSw; obtain ⟨⟨r1, r2, r3, r4, r5, r6⟩, -⟩ := hSw; go_simp; try with_reducible rfl)
    try simp only [Act.put, List.setIfInBounds_toArray, List.set_cons_zero, List.set_cons_succ, List.getElem_toArray, List.getElem_cons_succ, List.getElem_cons_zero]
    refine wpTill_take false (i := 26) (v := ?_) rfl (by kernel_rfl) (by kernel_rfl) (by kernel_rfl) (fun _ _ _ h => h) (by kernel_rfl) (Or.inl ⟨by kernel_rfl, ?_⟩) hHeld (fun hHeld => ?_)
    rotate_left
    · (intro w' hSw; obtain ⟨⟨r1, r2, r3, r4, r5, r6⟩, -⟩ := hSw; go_simp; try with_reducible rfl)
    try simp only [Act.put, List.setIfInBounds_toArray, List.set_cons_zero, List.set_cons_succ, List.getElem_toArray, List.getElem_cons_succ, List.getElem_cons_zero]
    refine wpTill_take false (i := 27) (v := ?_) rfl (by kernel_rfl) (by kernel_rfl) (by kernel_rfl) (fun _ _ _ h => h) (by kernel_rfl) (Or.inl ⟨by kernel_rfl, ?_⟩) hHeld (fun hHeld => ?_)
    rotate_left
    · (intro w' hSw; obtain ⟨⟨r1, r2, r3, r4, r5, r6⟩, -⟩ := hSw; go_simp; try with_reducible rfl)
    try simp only [Act.put, List.setIfInBounds_toArray, List.set_cons_zero, List.set_cons_succ, List.getElem_toArray, List.getElem_cons_succ, List.getElem_cons_zero]
    refine wpTill_one (i := 28) (by kernel_rfl) rfl (fun K hK => ?_)
    rw [if_pos (by kernel_rfl)]
    go_simp
    refine (C2.out _ (OK.out _ S5.out.bel)).mono ?_
    rintro e1 w6 ⟨rfl, k6⟩
    have S6 := cs_next S5 k6
    refine hK _ _ ⟨SK.out _ S6, fun _ => trivial⟩ (fun hHeld => ?_)
    clear hK K k6
    refine wpTill_take false (i := 29) (v := .bool true) rfl (by kernel_rfl) (by kernel_rfl) (by kernel_rfl) (fun _ _ _ h => h) (by kernel_rfl) (Or.inl ⟨by kernel_rfl, ?_⟩) hHeld (fun hHeld => ?_)
    · (intro w' hSw; obtain ⟨⟨r1, r2, r3, r4, r5, r6⟩, -⟩ := hSw; go_simp)
    try simp only [Act.put, List.setIfInBounds_toArray, List.set_cons_zero, List.set_cons_succ, List.getElem_toArray, List.getElem_cons_succ, List.getElem_cons_zero]
    refine wpTill_take false (i := 30) (v := .bool true) rfl (by kernel_rfl) (by kernel_rfl) (by kernel_rfl) (fun _ _ _ h => h) (by kernel_rfl) (Or.inl ⟨by kernel_rfl, ?_⟩) hHeld (fun hHeld => ?_)
    · (intro w' hSw; obtain ⟨⟨r1, r2, r3, r4, r5, r6⟩, -⟩ := hSw; go_simp)
    try simp only [Act.put, List.setIfInBounds_toArray, List.set_cons_zero, List.set_cons_succ, List.getElem_toArray, List.getElem_cons_succ, List.getElem_cons_zero]
    refine wpTill_done (by kernel_rfl) ?_ 0
    clear hHeld
    go_wp2_with fail
    go_ret
    exact ⟨rfl, S6.out.bel⟩
  rw [Bool.true_and] at hr
  have HR := Lib.hid hr
  clear hr
  obtain ⟨b1, o1, b2, o2, n2, cc2, ep, hlt1, hlt2, u1, u2, u3, u4, u5, q1, p0, p1, q0⟩ := port_cells ok HFA.out
  obtain ⟨b1', o1', b3, o3, n3, cc3, ep', hlt1', hlt3, t1, t2, t3, t4, t5, q1', p0', p1', q0'⟩ := port_cells ok HFB.out
  obtain ⟨rfl, rfl⟩ : b1 = b1' ∧ o1 = o1' := by rw [ep] at ep'; simpa using ep'
  clear ep' hlt1'
  replace ep := Lib.hid ep
  go_enter Tryz.func42, Tryz.ntmps42
  go_wp2_with fail
  generalize w.alloc (.cells #[.slice c.pa c.pn c.pc, .slice c.ca c.cn c.cc, .slice c.ma c.mn c.mc, .slice c.w.la c.w.ln c.w.lc, .slice c.w.na c.w.nn c.w.nc, .int .i64 c.w.sw, .int .i64 c.w.id, .int .i64 c.w.ch, .int .i64 c.w.qu, .int .i64 c.w.sl, .int .i64 c.w.pp, .slice c.da c.dn c.dc, .slice c.ua c.un c.uc] 33) = W at *
  have SD : Hid (Cs w _ w.heap.size c) := cs_next S (Below.refl _ _).drew
  clear bc
  refine wp_region_till (fun w' => (∀ i, w'.cell? ⟨w.heap.size, i, none⟩ = (#[.slice c.pa c.pn c.pc, .slice (some ⟨b, off, none⟩) c.cn c.cc, .slice c.ma c.mn c.mc, .slice c.w.la c.w.ln c.w.lc, .slice c.w.na c.w.nn c.w.nc, .int .i64 c.w.sw, .int .i64 c.w.id, .int .i64 c.w.ch, .int .i64 c.w.qu, .int .i64 c.w.sl, .int .i64 c.w.pp, .slice c.da c.dn c.dc, .slice c.ua c.un c.uc] : Array Value)[i]?) ∧ w'.cell? ⟨b, off + k.toNat * 4, none⟩ = some (.int .i64 x0) ∧ w'.cell? ⟨b, off + k.toNat * 4 + 1, none⟩ = some (.int .i64 x1) ∧ w'.cell? ⟨b, off + k.toNat * 4 + 2, none⟩ = some (.int .i64 x2) ∧ w'.cell? ⟨b, off + k.toNat * 4 + 3, none⟩ = some (.int .i64 x3) ∧ Hid (Cs w w' w.heap.size c)) (fun _ => True) 31 31 #[false, false, false, false, false, false, false, false, false, false, false, false, false, false, false, false, false, false, false, false, false, false, false, false, false, false, false, false, false, false, false] (by kernel_rfl) rfl rfl ⟨SK.out _ SD, trivial⟩ (fun hHeld => ?_)
  refine wpTill_take false (i := 0) (v := ?_) rfl (by kernel_rfl) (by kernel_rfl) (by kernel_rfl) (fun _ _ _ h => h) (by kernel_rfl) (Or.inl ⟨by kernel_rfl, ?_⟩) hHeld (fun hHeld => ?_)
  rotate_left
  · (intro w' hSw; obtain ⟨⟨r1, r2, r3, r4, r5, r6⟩, -⟩ := hSw; go_simp; try with_reducible rfl)
  try simp only [Act.put, List.setIfInBounds_toArray, List.set_cons_zero, List.set_cons_succ, List.getElem_toArray, List.getElem_cons_succ, List.getElem_cons_zero]
  refine wpTill_take false (i := 1) (v := .bool false) rfl (by kernel_rfl) (by kernel_rfl) (by kernel_rfl) (fun _ _ _ h => h) (by kernel_rfl) (Or.inl ⟨by kernel_rfl, ?_⟩) hHeld (fun hHeld => ?_)
  · (intro w' hSw; obtain ⟨⟨r1, r2, r3, r4, r5, r6⟩, -⟩ := hSw; go_simp)
  try simp only [Act.put, List.setIfInBounds_toArray, List.set_cons_zero, List.set_cons_succ, List.getElem_toArray, List.getElem_cons_succ, List.getElem_cons_zero]
  refine wpTill_take false (i := 2) (v := .bool false) rfl (by kernel_rfl) (by kernel_rfl) (by kernel_rfl) (fun _ _ _ h => h) (by kernel_rfl) (Or.inl ⟨by kernel_rfl, ?_⟩) hHeld (fun hHeld => ?_)
  · (intro w' hSw; obtain ⟨⟨r1, r2, r3, r4, r5, r6⟩, -⟩ := hSw; go_simp)
  try simp only [Act.put, List.setIfInBounds_toArray, List.set_cons_zero, List.set_cons_succ, List.getElem_toArray, List.getElem_cons_succ, List.getElem_cons_zero]
  refine wpTill_take false (i := 3) (v := ?_) rfl (by kernel_rfl) (by kernel_rfl) (by kernel_rfl) (fun _ _ _ h => h) (by kernel_rfl) (Or.inl ⟨by kernel_rfl, ?_⟩) hHeld (fun hHeld => ?_)
  rotate_left
  · (intro w' hSw; obtain ⟨⟨r1, r2, r3, r4, r5, r6⟩, -⟩ := hSw; go_simp; try with_reducible rfl)
  try simp only [Act.put, List.setIfInBounds_toArray, List.set_cons_zero, List.set_cons_succ, List.getElem_toArray, List.getElem_cons_succ, List.getElem_cons_zero]
  refine wpTill_take false (i := 4) (v := ?_) rfl (by kernel_rfl) (by kernel_rfl) (by kernel_rfl) (fun _ _ _ h => h) (by kernel_rfl) (Or.inl ⟨by kernel_rfl, ?_⟩) hHeld (fun hHeld => ?_)
  rotate_left
  · (intro w' hSw; obtain ⟨⟨r1, r2, r3, r4, r5, r6⟩, -⟩ := hSw; go_simp; try with_reducible rfl)
  try simp only [Act.put, List.setIfInBounds_toArray, List.set_cons_zero, List.set_cons_succ, List.getElem_toArray, List.getElem_cons_succ, List.getElem_cons_zero]
  refine wpTill_take false (i := 5) (v := ?_) rfl (by kernel_rfl) (by kernel_rfl) (by kernel_rfl) (fun _ _ _ h => h) (by kernel_rfl) (Or.inl ⟨by kernel_rfl, ?_⟩) hHeld (fun hHeld => ?_)
  rotate_left
  · (intro w' hSw; obtain ⟨⟨r1, r2, r3, r4, r5, r6⟩, -⟩ := hSw; go_simp; try with_reducible rfl)
  try simp only [Act.put, List.setIfInBounds_toArray, List.set_cons_zero, List.set_cons_succ, List.getElem_toArray, List.getElem_cons_succ, List.getElem_cons_zero]
  refine wpTill_take false (i := 6) (v := ?_) rfl (by kernel_rfl) (by kernel_rfl) (by kernel_rfl) (fun _ _ _ h => h) (by kernel_rfl) (Or.inl ⟨by kernel_rfl, ?_⟩) hHeld (fun hHeld => ?_)
  rotate_left
  · (intro w' hSw; obtain ⟨⟨r1, r2, r3, r4, r5, r6⟩, -⟩ := hSw; go_simp; try with_reducible rfl)
  try simp only [Act.put, List.setIfInBounds_toArray, List.set_cons_zero, List.set_cons_succ, List.getElem_toArray, List.getElem_cons_succ, List.getElem_cons_zero]
  refine wpTill_take false (i := 7) (v := .bool false) rfl (by kernel_rfl) (by kernel_rfl) (by kernel_rfl) (fun _ _ _ h => h) (by kernel_rfl) (Or.inl ⟨by kernel_rfl, ?_⟩) hHeld (fun hHeld => ?_)
  · (intro w' hSw; obtain ⟨⟨r1, r2, r3, r4, r5, r6⟩, -⟩ := hSw; go_simp)
  try simp only [Act.put, List.setIfInBounds_toArray, List.set_cons_zero, List.set_cons_succ, List.getElem_toArray, List.getElem_cons_succ, List.getElem_cons_zero]
  refine wpTill_take false (i := 8) (v := .bool false) rfl (by kernel_rfl) (by kernel_rfl) (by kernel_rfl) (fun _ _ _ h => h) (by kernel_rfl) (Or.inl ⟨by kernel_rfl, ?_⟩) hHeld (fun hHeld => ?_)
  · (intro w' hSw; obtain ⟨⟨r1, r2, r3, r4, r5, r6⟩, -⟩ := hSw; go_simp)
  try simp only [Act.put, List.setIfInBounds_toArray, List.set_cons_zero, List.set_cons_succ, List.getElem_toArray, List.getElem_cons_succ, List.getElem_cons_zero]
  refine wpTill_take false (i := 9) (v := .bool false) rfl (by kernel_rfl) (by kernel_rfl) (by kernel_rfl) (fun _ _ _ h => h) (by kernel_rfl) (Or.inl ⟨by kernel_rfl, ?_⟩) hHeld (fun hHeld => ?_)
  · (intro w' hSw; obtain ⟨⟨r1, r2, r3, r4, r5, r6⟩, -⟩ := hSw; go_simp)
  try simp only [Act.put, List.setIfInBounds_toArray, List.set_cons_zero, List.set_cons_succ, List.getElem_toArray, List.getElem_cons_succ, List.getElem_cons_zero]
  refine wpTill_take false (i := 10) (v := ?_) rfl (by kernel_rfl) (by kernel_rfl) (by kernel_rfl) (fun _ _ _ h => h) (by kernel_rfl) (Or.inl ⟨by kernel_rfl, ?_⟩) hHeld (fun hHeld => ?_)
  rotate_left
  · (intro w' hSw; obtain ⟨⟨r1, r2, r3, r4, r5, r6⟩, -⟩ := hSw; go_simp; try with_reducible rfl)
  try simp only [Act.put, List.setIfInBounds_toArray, List.set_cons_zero, List.set_cons_succ, List.getElem_toArray, List.getElem_cons_succ, List.getElem_cons_zero]
  refine wpTill_take false (i := 11) (v := ?_) rfl (by kernel_rfl) (by kernel_rfl) (by kernel_rfl) (fun _ _ _ h => h) (by kernel_rfl) (Or.inl ⟨by kernel_rfl, ?_⟩) hHeld (fun hHeld => ?_)
  rotate_left
  · (intro w' hSw; obtain ⟨⟨r1, r2, r3, r4, r5, r6⟩, -⟩ := hSw; go_simp; try with_reducible rfl)
  try simp only [Act.put, List.setIfInBounds_toArray, List.set_cons_zero, List.set_cons_succ, List.getElem_toArray, List.getElem_cons_succ, List.getElem_cons_zero]
  refine wpTill_take false (i := 12) (v := ?_) rfl (by kernel_rfl) (by kernel_rfl) (by kernel_rfl) (fun _ _ _ h => h) (by kernel_rfl) (Or.inl ⟨by kernel_rfl, ?_⟩) hHeld (fun hHeld => ?_)
  rotate_left
  · (intro w' hSw; obtain ⟨⟨r1, r2, r3, r4, r5, r6⟩, -⟩ := hSw; go_simp; try with_reducible rfl)
  try simp only [Act.put, List.setIfInBounds_toArray, List.set_cons_zero, List.set_cons_succ, List.getElem_toArray, List.getElem_cons_succ, List.getElem_cons_zero]
  refine wpTill_take false (i := 13) (v := ?_) rfl (by kernel_rfl) (by kernel_rfl) (by kernel_rfl) (fun _ _ _ h => h) (by kernel_rfl) (Or.inl ⟨by kernel_rfl, ?_⟩) hHeld (fun hHeld => ?_)
  rotate_left
  · (intro w' hSw; obtain ⟨⟨r1, r2, r3, r4, r5, r6⟩, -⟩ := hSw; go_simp; try with_reducible rfl)
  try simp only [Act.put, List.setIfInBounds_toArray, List.set_cons_zero, List.set_cons_succ, List.getElem_toArray, List.getElem_cons_succ, List.getElem_cons_zero]
  refine wpTill_take false (i := 14) (v := ?_) rfl (by kernel_rfl) (by kernel_rfl) (by kernel_rfl) (fun _ _ _ h => h) (by kernel_rfl) (Or.inl ⟨by kernel_rfl, ?_⟩) hHeld (fun hHeld => ?_)
  rotate_left
  · (intro w' hSw; obtain ⟨⟨r1, r2, r3, r4, r5, r6⟩, -⟩ := hSw; go_simp; try with_reducible rfl)
  try simp only [Act.put, List.setIfInBounds_toArray, List.set_cons_zero, List.set_cons_succ, List.getElem_toArray, List.getElem_cons_succ, List.getElem_cons_zero]
  refine wpTill_take false (i := 15) (v := ?_) rfl (by kernel_rfl) (by kernel_rfl) (by kernel_rfl) (fun _ _ _ h => h) (by kernel_rfl) (Or.inl ⟨by kernel_rfl, ?_⟩) hHeld (fun hHeld => ?_)
  rotate_left
  · (intro w' hSw; obtain ⟨⟨r1, r2, r3, r4, r5, r6⟩, -⟩ := hSw; go_simp; try with_reducible rfl)
  try simp only [Act.put, List.setIfInBounds_toArray, List.set_cons_zero, List.set_cons_succ, List.getElem_toArray, List.getElem_cons_succ, List.getElem_cons_zero]
  refine wpTill_take false (i := 16) (v := ?_) rfl (by kernel_rfl) (by kernel_rfl) (by kernel_rfl) (fun _ _ _ h => h) (by kernel_rfl) (Or.inl ⟨by kernel_rfl, ?_⟩) hHeld (fun hHeld => ?_)
  rotate_left
  · (intro w' hSw; obtain ⟨⟨r1, r2, r3, r4, r5, r6⟩, -⟩ := hSw; go_simp; try with_reducible rfl)
  try simp only [Act.put, List.setIfInBounds_toArray, List.set_cons_zero, List.set_cons_succ, List.getElem_toArray, List.getElem_cons_succ, List.getElem_cons_zero]
  refine wpTill_one (i := 17) (by kernel_rfl) rfl (fun K hK => ?_)
  rw [if_pos (by kernel_rfl)]
  go_simp
  refine (C1.out _ (OK.out _ SD.out.bel)).mono ?_
  rintro e1 w5 ⟨rfl, k5⟩
  have S5 := cs_next SD k5
  refine hK _ _ ⟨SK.out _ S5, fun _ => trivial⟩ (fun hHeld => ?_)
  clear hK K k5
  refine wpTill_take false (i := 18) (v := .bool false) rfl (by kernel_rfl) (by kernel_rfl) (by kernel_rfl) (fun _ _ _ h => h) (by kernel_rfl) (Or.inl ⟨by kernel_rfl, ?_⟩) hHeld (fun hHeld => ?_)
  · (intro w' hSw; obtain ⟨⟨r1, r2, r3, r4, r5, r6⟩, -⟩ := hSw; go_simp)
  try simp only [Act.put, List.setIfInBounds_toArray, List.set_cons_zero, List.set_cons_succ, List.getElem_toArray, List.getElem_cons_succ, List.getElem_cons_zero]
  refine wpTill_take false (i := 19) (v := .bool false) rfl (by kernel_rfl) (by kernel_rfl) (by kernel_rfl) (fun _ _ _ h => h) (by kernel_rfl) (Or.inl ⟨by kernel_rfl, ?_⟩) hHeld (fun hHeld => ?_)
  · (intro w' hSw; obtain ⟨⟨r1, r2, r3, r4, r5, r6⟩, -⟩ := hSw; go_simp)
  try simp only [Act.put, List.setIfInBounds_toArray, List.set_cons_zero, List.set_cons_succ, List.getElem_toArray, List.getElem_cons_succ, List.getElem_cons_zero]
  refine wpTill_take false (i := 20) (v := .bool false) rfl (by kernel_rfl) (by kernel_rfl) (by kernel_rfl) (fun _ _ _ h => h) (by kernel_rfl) (Or.inl ⟨by kernel_rfl, ?_⟩) hHeld (fun hHeld => ?_)
  · (intro w' hSw; obtain ⟨⟨r1, r2, r3, r4, r5, r6⟩, -⟩ := hSw; go_simp)
  try simp only [Act.put, List.setIfInBounds_toArray, List.set_cons_zero, List.set_cons_succ, List.getElem_toArray, List.getElem_cons_succ, List.getElem_cons_zero]
  refine wpTill_take false (i := 21) (v := ?_) rfl (by kernel_rfl) (by kernel_rfl) (by kernel_rfl) (fun _ _ _ h => h) (by kernel_rfl) (Or.inl ⟨by kernel_rfl, ?_⟩) hHeld (fun hHeld => ?_)
  rotate_left
  · (intro w' hSw; obtain ⟨⟨r1, r2, r3, r4, r5, r6⟩, -⟩ := hSw; go_simp; try with_reducible rfl)
  try simp only [Act.put, List.setIfInBounds_toArray, List.set_cons_zero, List.set_cons_succ, List.getElem_toArray, List.getElem_cons_succ, List.getElem_cons_zero]
  refine wpTill_take false (i := 22) (v := ?_) rfl (by kernel_rfl) (by kernel_rfl) (by kernel_rfl) (fun _ _ _ h => h) (by kernel_rfl) (Or.inl ⟨by kernel_rfl, ?_⟩) hHeld (fun hHeld => ?_)
  rotate_left
  · (intro w' hSw; obtain ⟨⟨r1, r2, r3, r4, r5, r6⟩, -⟩ := hSw; go_simp; try with_reducible rfl)
  try simp only [Act.put, List.setIfInBounds_toArray, List.set_cons_zero, List.set_cons_succ, List.getElem_toArray, List.getElem_cons_succ, List.getElem_cons_zero]
  refine wpTill_take false (i := 23) (v := ?_) rfl (by kernel_rfl) (by kernel_rfl) (by kernel_rfl) (fun _ _ _ h => h) (by kernel_rfl) (Or.inl ⟨by kernel_rfl, ?_⟩) hHeld (fun hHeld => ?_)
  rotate_left
  · (intro w' hSw; obtain ⟨⟨r1, r2, r3, r4, r5, r6⟩, -⟩ := hSw; go_simp; try with_reducible rfl)
  try simp only [Act.put, List.setIfInBounds_toArray, List.set_cons_zero, List.set_cons_succ, List.getElem_toArray, List.getElem_cons_succ, List.getElem_cons_zero]
  refine wpTill_take false (i := 24) (v := ?_) rfl (by kernel_rfl) (by kernel_rfl) (by kernel_rfl) (fun _ _ _ h => h) (by kernel_rfl) (Or.inl ⟨by kernel_rfl, ?_⟩) hHeld (fun hHeld => ?_)
  rotate_left
  · (intro w' hSw; obtain ⟨⟨r1, r2, r3, r4, r5, r6⟩, -⟩ := hSw; go_simp; try with_reducible rfl)
  try simp only [Act.put, List.setIfInBounds_toArray, List.set_cons_zero, List.set_cons_succ, List.getElem_toArray, List.getElem_cons_succ, List.getElem_cons_zero]
  refine wpTill_take false (i := 25) (v := ?_) rfl (by kernel_rfl) (by kernel_rfl) (by kernel_rfl) (fun _ _ _ h => h) (by kernel_rfl) (Or.inl ⟨by kernel_rfl, ?_⟩) hHeld (fun hHeld => ?_)
  rotate_left
  · (intro w' hSw; obtain ⟨⟨r1, r2, r3, r4, r5, r6⟩, -⟩ := hSw; go_simp; try with_reducible rfl)
  try simp only [Act.put, List.setIfInBounds_toArray, List.set_cons_zero, List.set_cons_succ, List.getElem_toArray, List.getElem_cons_succ, List.getElem_cons_zero]
  refine wpTill_take false (i := 26) (v := ?_) rfl (by kernel_rfl) (by kernel_rfl) (by kernel_rfl) (fun _ _ _ h => h) (by kernel_rfl) (Or.inl ⟨by kernel_rfl, ?_⟩) hHeld (fun hHeld => ?_)
  rotate_left
  · (intro w' hSw; obtain ⟨⟨r1, r2, r3, r4, r5, r6⟩, -⟩ := hSw; go_simp; try with_reducible rfl)
  try simp only [Act.put, List.setIfInBounds_toArray, List.set_cons_zero, List.set_cons_succ, List.getElem_toArray, List.getElem_cons_succ, List.getElem_cons_zero]
  refine wpTill_take false (i := 27) (v := ?_) rfl (by kernel_rfl) (by kernel_rfl) (by kernel_rfl) (fun _ _ _ h => h) (by kernel_rfl) (Or.inl ⟨by kernel_rfl, ?_⟩) hHeld (fun hHeld => ?_)
  rotate_left
  · (intro w' hSw; obtain ⟨⟨r1, r2, r3, r4, r5, r6⟩, -⟩ := hSw; go_simp; try with_reducible rfl)
  try simp only [Act.put, List.setIfInBounds_toArray, List.set_cons_zero, List.set_cons_succ, List.getElem_toArray, List.getElem_cons_succ, List.getElem_cons_zero]
  refine wpTill_one (i := 28) (by kernel_rfl) rfl (fun K hK => ?_)
  rw [if_pos (by kernel_rfl)]
  go_simp
  refine (C2.out _ (OK.out _ S5.out.bel)).mono ?_
  rintro e1 w6 ⟨rfl, k6⟩
  have S6 := cs_next S5 k6
  refine hK _ _ ⟨SK.out _ S6, fun _ => trivial⟩ (fun hHeld => ?_)
  clear hK K k6
  refine wpTill_take false (i := 29) (v := .bool false) rfl (by kernel_rfl) (by kernel_rfl) (by kernel_rfl) (fun _ _ _ h => h) (by kernel_rfl) (Or.inl ⟨by kernel_rfl, ?_⟩) hHeld (fun hHeld => ?_)
  · (intro w' hSw; obtain ⟨⟨r1, r2, r3, r4, r5, r6⟩, -⟩ := hSw; go_simp)
  try simp only [Act.put, List.setIfInBounds_toArray, List.set_cons_zero, List.set_cons_succ, List.getElem_toArray, List.getElem_cons_succ, List.getElem_cons_zero]
  refine wpTill_take false (i := 30) (v := .bool false) rfl (by kernel_rfl) (by kernel_rfl) (by kernel_rfl) (fun _ _ _ h => h) (by kernel_rfl) (Or.inl ⟨by kernel_rfl, ?_⟩) hHeld (fun hHeld => ?_)
  · (intro w' hSw; obtain ⟨⟨r1, r2, r3, r4, r5, r6⟩, -⟩ := hSw; go_simp)
  try simp only [Act.put, List.setIfInBounds_toArray, List.set_cons_zero, List.set_cons_succ, List.getElem_toArray, List.getElem_cons_succ, List.getElem_cons_zero]
  refine wpTill_done (by kernel_rfl) ?_ 0
  clear hHeld
  obtain ⟨bc, c0, c1, c2, c3, -⟩ := SK.out _ S6
  clear SD S5
  go_wp2_with fail
  have X3 := Lib.hid (Box.new w6 #[.int .i64 x0, .int .i64 x1, .int .i64 x2, .int .i64 x3] 136)
  have S3 := cs_alloc S6 (.cells #[.int .i64 x0, .int .i64 x1, .int .i64 x2, .int .i64 x3] 136)
  clear bc c0 c1 c2 c3 S6 SK C1 C2
  generalize w6.alloc (.cells #[.int .i64 x0, .int .i64 x1, .int .i64 x2, .int .i64 x3] 136) = W3 at *
  generalize w6.heap.size = xb at *
  have RC := Lib.hid (fun (w' : World) (h : Hid (Cs w w' w.heap.size c)) => (fun i => (h.out.box.cell i).trans (by rw [ea.out, ep.out]) : ∀ i, w'.cell? ⟨w.heap.size, i, none⟩ = (#[.slice (some ⟨b1, o1, none⟩) c.pn c.pc, .slice (some ⟨b, off, none⟩) c.cn c.cc, .slice c.ma c.mn c.mc, .slice c.w.la c.w.ln c.w.lc, .slice c.w.na c.w.nn c.w.nc, .int .i64 c.w.sw, .int .i64 c.w.id, .int .i64 c.w.ch, .int .i64 c.w.qu, .int .i64 c.w.sl, .int .i64 c.w.pp, .slice c.da c.dn c.dc, .slice c.ua c.un c.uc] : Array Value)[i]?))
  have SK4 := Lib.hid (fun (w' : World) (h : Below W3.heap.size W3 w') => show (∀ i, w'.cell? ⟨w.heap.size, i, none⟩ = (#[.slice (some ⟨b1, o1, none⟩) c.pn c.pc, .slice (some ⟨b, off, none⟩) c.cn c.cc, .slice c.ma c.mn c.mc, .slice c.w.la c.w.ln c.w.lc, .slice c.w.na c.w.nn c.w.nc, .int .i64 c.w.sw, .int .i64 c.w.id, .int .i64 c.w.ch, .int .i64 c.w.qu, .int .i64 c.w.sl, .int .i64 c.w.pp, .slice c.da c.dn c.dc, .slice c.ua c.un c.uc] : Array Value)[i]?) ∧ (∀ i, w'.cell? ⟨xb, i, none⟩ = (#[.int .i64 x0, .int .i64 x1, .int .i64 x2, .int .i64 x3] : Array Value)[i]?) ∧ w'.cell? ⟨b1, o1 + x0.toNat * 11 + 2, none⟩ = some (.slice (some ⟨b2, o2, none⟩) n2 cc2) ∧ w'.cell? ⟨b2, o2 + x1.toNat * 4, none⟩ = some (.bool vq) ∧ w'.cell? ⟨b2, o2 + x1.toNat * 4 + 1, none⟩ = some (.bool vi) ∧ w'.cell? ⟨b2, o2 + x1.toNat * 4 + 2, none⟩ = some (.int .i64 vs) ∧ w'.cell? ⟨b2, o2 + x1.toNat * 4 + 3, none⟩ = some (.int .i64 vd) from
    have S := cs_next S3 h
    ⟨RC.out _ S, (X3.out.next h).cell, keep S.out.bel u1 hlt1, keep S.out.bel u2 hlt2, keep S.out.bel u3 hlt2, keep S.out.bel u4 hlt2, keep S.out.bel u5 hlt2⟩)
  have HBD := Lib.hid ((Below.refl W3.heap.size W3).drew)
  go_region_held3 (fun w' => (∀ i, w'.cell? ⟨w.heap.size, i, none⟩ = (#[.slice (some ⟨b1, o1, none⟩) c.pn c.pc, .slice (some ⟨b, off, none⟩) c.cn c.cc, .slice c.ma c.mn c.mc, .slice c.w.la c.w.ln c.w.lc, .slice c.w.na c.w.nn c.w.nc, .int .i64 c.w.sw, .int .i64 c.w.id, .int .i64 c.w.ch, .int .i64 c.w.qu, .int .i64 c.w.sl, .int .i64 c.w.pp, .slice c.da c.dn c.dc, .slice c.ua c.un c.uc] : Array Value)[i]?) ∧ (∀ i, w'.cell? ⟨xb, i, none⟩ = (#[.int .i64 x0, .int .i64 x1, .int .i64 x2, .int .i64 x3] : Array Value)[i]?) ∧ w'.cell? ⟨b1, o1 + x0.toNat * 11 + 2, none⟩ = some (.slice (some ⟨b2, o2, none⟩) n2 cc2) ∧ w'.cell? ⟨b2, o2 + x1.toNat * 4, none⟩ = some (.bool vq) ∧ w'.cell? ⟨b2, o2 + x1.toNat * 4 + 1, none⟩ = some (.bool vi) ∧ w'.cell? ⟨b2, o2 + x1.toNat * 4 + 2, none⟩ = some (.int .i64 vs) ∧ w'.cell? ⟨b2, o2 + x1.toNat * 4 + 3, none⟩ = some (.int .i64 vd))
    (exact SK4.out _ (by repeat (first | exact HBD.out | exact Below.refl _ _ | refine Below.drew ?_ | refine Below.setCell ?_ (by first | exact Nat.le_refl _ | (simp; done) | (simp; omega)) _ | refine Below.alloc ?_ (by first | exact Nat.le_refl _ | (simp; done) | (simp; omega)) _)))
    (fail)
  have HB4 := Lib.hid (((Below.refl W3.heap.size W3).alloc (Nat.le_refl _) (.cells #[.bool vq, .bool vi, .int .i64 vs, .int .i64 vd] 130)).drew)
  have S4 := cs_next S3 HB4.out
  have X4 := Lib.hid (X3.out.next HB4.out)
  have A4 := Lib.hid (Box.new W3 #[.bool vq, .bool vi, .int .i64 vs, .int .i64 vd] 130).drew
  clear HB4 SK4 HBD S3 X3
  generalize (W3.alloc (.cells #[.bool vq, .bool vi, .int .i64 vs, .int .i64 vd] 130)).drew = W4 at *
  generalize W3.heap.size = ab at *
  clear W3
  have SK5 := Lib.hid (fun (w' : World) (h : Below W4.heap.size W4 w') => show (∀ i, w'.cell? ⟨w.heap.size, i, none⟩ = (#[.slice (some ⟨b1, o1, none⟩) c.pn c.pc, .slice (some ⟨b, off, none⟩) c.cn c.cc, .slice c.ma c.mn c.mc, .slice c.w.la c.w.ln c.w.lc, .slice c.w.na c.w.nn c.w.nc, .int .i64 c.w.sw, .int .i64 c.w.id, .int .i64 c.w.ch, .int .i64 c.w.qu, .int .i64 c.w.sl, .int .i64 c.w.pp, .slice c.da c.dn c.dc, .slice c.ua c.un c.uc] : Array Value)[i]?) ∧ (∀ i, w'.cell? ⟨xb, i, none⟩ = (#[.int .i64 x0, .int .i64 x1, .int .i64 x2, .int .i64 x3] : Array Value)[i]?) ∧ w'.cell? ⟨b1, o1 + x2.toNat * 11 + 2, none⟩ = some (.slice (some ⟨b3, o3, none⟩) n3 cc3) ∧ w'.cell? ⟨b3, o3 + x3.toNat * 4, none⟩ = some (.bool uq) ∧ w'.cell? ⟨b3, o3 + x3.toNat * 4 + 1, none⟩ = some (.bool ui) ∧ w'.cell? ⟨b3, o3 + x3.toNat * 4 + 2, none⟩ = some (.int .i64 us) ∧ w'.cell? ⟨b3, o3 + x3.toNat * 4 + 3, none⟩ = some (.int .i64 ud) from
    have S := cs_next S4 h
    ⟨RC.out _ S, (X4.out.next h).cell, keep S.out.bel t1 hlt1, keep S.out.bel t2 hlt3, keep S.out.bel t3 hlt3, keep S.out.bel t4 hlt3, keep S.out.bel t5 hlt3⟩)
  have bc := RC.out _ S4
  go_wp2_with fail
  have HBD := Lib.hid ((Below.refl W4.heap.size W4).drew)
  clear bc
  go_region_held3 (fun w' => (∀ i, w'.cell? ⟨w.heap.size, i, none⟩ = (#[.slice (some ⟨b1, o1, none⟩) c.pn c.pc, .slice (some ⟨b, off, none⟩) c.cn c.cc, .slice c.ma c.mn c.mc, .slice c.w.la c.w.ln c.w.lc, .slice c.w.na c.w.nn c.w.nc, .int .i64 c.w.sw, .int .i64 c.w.id, .int .i64 c.w.ch, .int .i64 c.w.qu, .int .i64 c.w.sl, .int .i64 c.w.pp, .slice c.da c.dn c.dc, .slice c.ua c.un c.uc] : Array Value)[i]?) ∧ (∀ i, w'.cell? ⟨xb, i, none⟩ = (#[.int .i64 x0, .int .i64 x1, .int .i64 x2, .int .i64 x3] : Array Value)[i]?) ∧ w'.cell? ⟨b1, o1 + x2.toNat * 11 + 2, none⟩ = some (.slice (some ⟨b3, o3, none⟩) n3 cc3) ∧ w'.cell? ⟨b3, o3 + x3.toNat * 4, none⟩ = some (.bool uq) ∧ w'.cell? ⟨b3, o3 + x3.toNat * 4 + 1, none⟩ = some (.bool ui) ∧ w'.cell? ⟨b3, o3 + x3.toNat * 4 + 2, none⟩ = some (.int .i64 us) ∧ w'.cell? ⟨b3, o3 + x3.toNat * 4 + 3, none⟩ = some (.int .i64 ud))
    (exact SK5.out _ (by repeat (first | exact HBD.out | exact Below.refl _ _ | refine Below.drew ?_ | refine Below.setCell ?_ (by first | exact Nat.le_refl _ | (simp; done) | (simp; omega)) _ | refine Below.alloc ?_ (by first | exact Nat.le_refl _ | (simp; done) | (simp; omega)) _)))
    (fail)
  have HB4 := Lib.hid (((Below.refl W4.heap.size W4).alloc (Nat.le_refl _) (.cells #[.bool uq, .bool ui, .int .i64 us, .int .i64 ud] 130)).drew)
  have C5 : Hid (Ch w _ c xb ab W4.heap.size x0 x1 x2 x3 vq vi uq ui vs vd us ud) := Lib.hid ⟨cs_next S4 HB4.out, X4.out.next HB4.out, A4.out.next HB4.out, (Box.new W4 #[.bool uq, .bool ui, .int .i64 us, .int .i64 ud] 130).drew⟩
  clear HB4 SK5 HBD S4 X4 A4
  generalize (W4.alloc (.cells #[.bool uq, .bool ui, .int .i64 us, .int .i64 ud] 130)).drew = W5 at *
  generalize W4.heap.size = db at *
  clear W4 u1 u2 u3 u4 u5 t1 t2 t3 t4 t5 q1 q0 p0 p1 q1' q0' p0' p1'
  have bc := RC.out _ C5.out.S
  have xc := C5.out.X.cell
  have ac := C5.out.A.cell
  have dc := C5.out.D.cell
  have hr := HR.out
  clear HR
  by_cases hx : x0 = x2
  · obtain rfl : r = false := by simpa [hx] using hr.symm
    subst hx
    clear hr
    go_wp2_with fail
    go_ret
    exact ⟨rfl, C5.out.S.out.bel⟩
  rw [decide_eq_false hx, Bool.not_false, Bool.true_and] at hr
  replace hx : (x0 == x2) = false := by rw [beq_eq_false_iff_ne]; exact hx
  cases vi
  rotate_left
  · obtain rfl : r = false := by simpa using hr.symm
    clear hr
    go_wp2_with fail
    go_ret
    exact ⟨rfl, C5.out.S.out.bel⟩
  rw [Bool.not_false, Bool.true_and] at hr
  cases ui
  · obtain rfl : r = false := by simpa using hr.symm
    clear hr
    go_wp2_with fail
    go_ret
    exact ⟨rfl, C5.out.S.out.bel⟩
  rw [Bool.true_and] at hr
  cases hq : (vq == uq)
  · rw [hq, Bool.false_and] at hr
    subst hr
    cases vq <;> cases uq
    · cases hq
    · clear hq
      go_wp2_with fail
      go_ret
      exact ⟨rfl, C5.out.S.out.bel⟩
    · clear hq
      go_wp2_with fail
      go_ret
      exact ⟨rfl, C5.out.S.out.bel⟩
    · cases hq
  rw [hq, Bool.true_and] at hr
  obtain rfl : vq = uq := by simpa using hq
  by_cases hs : vs ≤ us
  rotate_left
  · rw [decide_eq_false hs, Bool.false_and] at hr
    subst hr
    replace hs : us < vs := by omega
    clear hq
    cases vq
    · skip
      go_wp2_with fail
      go_ret
      exact ⟨rfl, C5.out.S.out.bel⟩
    · skip
      go_wp2_with fail
      go_ret
      exact ⟨rfl, C5.out.S.out.bel⟩
  rw [decide_eq_true hs, Bool.true_and] at hr
  subst hr
  clear hq
  have hkT : (k.toNat : Int) = k := by omega
  have CN := Lib.hid (fun j (hj : j < k.toNat) => rows_at4 ok.chans j (by omega))
  have BJ := Lib.hid (fun (w' : World) (h : Hid (Ch w w' c xb ab db x0 x1 x2 x3 vq false vq true vs vd us ud)) (j : Nat) (hj : j < k.toNat) => (⟨chan_cell ok ea.out j (by omega) h.out.S.out.bel 0 (by omega), chan_cell ok ea.out j (by omega) h.out.S.out.bel 1 (by omega), chan_cell ok ea.out j (by omega) h.out.S.out.bel 2 (by omega), chan_cell ok ea.out j (by omega) h.out.S.out.bel 3 (by omega)⟩ : w'.cell? ⟨b, off + j * 4, none⟩ = some (.int .i64 (c.cf j 0)) ∧ w'.cell? ⟨b, off + j * 4 + 1, none⟩ = some (.int .i64 (c.cf j 1)) ∧ w'.cell? ⟨b, off + j * 4 + 2, none⟩ = some (.int .i64 (c.cf j 2)) ∧ w'.cell? ⟨b, off + j * 4 + 3, none⟩ = some (.int .i64 (c.cf j 3))))
  clear CN
  have hb : vq = false ∨ vq = true := by cases vq <;> simp
  rcases hb with rfl | rfl
  · skip
    go_wp2_with fail
    go_loopw [8] (fun i wr => ∃ j : Nat, j ≤ k.toNat ∧ i = .int .i64 j ∧ Hid (∀ i, i < j → clB c.cf false k.toNat i = true) ∧ Hid (Ch w wr c xb ab db x0 x1 x2 x3 false false false true vs vd us ud)) (fun i _ => k.toNat - (intOf i).toNat)
    case atStart => exact ⟨0, Nat.zero_le _, rfl, Lib.hid (fun i hi => by omega), C5⟩
    case round =>
      clear C5 bc xc ac dc
      obtain ⟨j, hj, rfl, HL, C5⟩ := hrel
      by_cases hl : j < k.toNat
      · have hlI : (j : Int) < k := by omega
        have hlC : (j : Int) < (c.cn : Int) := by omega
        have hj0 : (0 : Int) ≤ (j : Int) := by omega
        have gj : decide ((j : Int) < k) = true := decide_eq_true hlI
        obtain ⟨c0, c1, c2, c3⟩ := BJ.out _ C5 j hl
        have bc := RC.out _ C5.out.S
        have xc := C5.out.X.cell
        have ac := C5.out.A.cell
        have dc := C5.out.D.cell
        have HX := Lib.hid (fun (h : clB c.cf false k.toNat j = true) => show ∀ i, i < j + 1 → clB c.cf false k.toNat i = true from fun i hi => if e : i = j then by rw [e]; exact h else HL.out i (by omega))
        have HF := Lib.hid (fun (h : clB c.cf false k.toNat j = false) => show z = false from by
          rw [← hz.out, fb_hit HL.out h k.toNat hl]; exact decide_eq_false (by omega))
        rw [CLE.out j] at HX HF
        generalize c.cf j 0 = y0 at *
        generalize c.cf j 1 = y1 at *
        generalize c.cf j 2 = y2 at *
        generalize c.cf j 3 = y3 at *
        have f1 := fun w => end_eq y2 y3 x2 x3 w
        have f2 := fun w => end_eq y0 y1 x0 x1 w
        unfold cl at HX HF
        generalize (y2 == x2 && y3 == x3) = e1 at *
        generalize (y0 == x0 && y1 == x1) = e2 at *
        have es : (!(e1 || (false && e2))) = true ∨ (!(e1 || (false && e2))) = false := by cases (!(e1 || (false && e2))) <;> simp
        rcases es with es | es
        · have HL := Lib.hid (HX.out es)
          clear HX HF
          cases e1 <;> cases e2 <;> first
            | (exfalso; revert es; decide)
            | (clear es
               go_wp2_with fail
               go_quiet (fail)
               go_wp2_with fail
               go_roundw
               case rel => exact ⟨j + 1, by omega, by go_num, HL, ch_quiet C5 _⟩
               case measure => simp [intOf]; omega)
        · have hzz := HF.out es
          clear HX HF
          cases e1 <;> cases e2 <;> first
            | (exfalso; revert es; decide)
            | (clear es
               go_wp2_with fail
               go_quiet (fail)
               go_wp2_with fail
               go_ret
               exact ⟨ret_bool hzz.symm, below_drewN' C5.out.S.out.bel _⟩)
      · obtain rfl : j = k.toNat := by omega
        have hlI : k ≤ ((k.toNat : Nat) : Int) := by omega
        have gj : decide (((k.toNat : Nat) : Int) < k) = false := decide_eq_false (by omega)
        have hzz : z = true := by rw [← hz.out, fb_all _ HL.out]; exact decide_eq_true rfl
        go_wp2_with fail
        go_ret
        exact ⟨ret_bool hzz.symm, C5.out.S.out.bel⟩
  · skip
    go_wp2_with fail
    go_loopw [8] (fun i wr => ∃ j : Nat, j ≤ k.toNat ∧ i = .int .i64 j ∧ Hid (∀ i, i < j → clB c.cf true k.toNat i = true) ∧ Hid (Ch w wr c xb ab db x0 x1 x2 x3 true false true true vs vd us ud)) (fun i _ => k.toNat - (intOf i).toNat)
    case atStart => exact ⟨0, Nat.zero_le _, rfl, Lib.hid (fun i hi => by omega), C5⟩
    case round =>
      clear C5 bc xc ac dc
      obtain ⟨j, hj, rfl, HL, C5⟩ := hrel
      by_cases hl : j < k.toNat
      · have hlI : (j : Int) < k := by omega
        have hlC : (j : Int) < (c.cn : Int) := by omega
        have hj0 : (0 : Int) ≤ (j : Int) := by omega
        have gj : decide ((j : Int) < k) = true := decide_eq_true hlI
        obtain ⟨c0, c1, c2, c3⟩ := BJ.out _ C5 j hl
        have bc := RC.out _ C5.out.S
        have xc := C5.out.X.cell
        have ac := C5.out.A.cell
        have dc := C5.out.D.cell
        have HX := Lib.hid (fun (h : clB c.cf true k.toNat j = true) => show ∀ i, i < j + 1 → clB c.cf true k.toNat i = true from fun i hi => if e : i = j then by rw [e]; exact h else HL.out i (by omega))
        have HF := Lib.hid (fun (h : clB c.cf true k.toNat j = false) => show z = false from by
          rw [← hz.out, fb_hit HL.out h k.toNat hl]; exact decide_eq_false (by omega))
        rw [CLE.out j] at HX HF
        generalize c.cf j 0 = y0 at *
        generalize c.cf j 1 = y1 at *
        generalize c.cf j 2 = y2 at *
        generalize c.cf j 3 = y3 at *
        have f1 := fun w => end_eq y2 y3 x2 x3 w
        have f2 := fun w => end_eq y0 y1 x0 x1 w
        unfold cl at HX HF
        generalize (y2 == x2 && y3 == x3) = e1 at *
        generalize (y0 == x0 && y1 == x1) = e2 at *
        have es : (!(e1 || (true && e2))) = true ∨ (!(e1 || (true && e2))) = false := by cases (!(e1 || (true && e2))) <;> simp
        rcases es with es | es
        · have HL := Lib.hid (HX.out es)
          clear HX HF
          cases e1 <;> cases e2 <;> first
            | (exfalso; revert es; decide)
            | (clear es
               go_wp2_with fail
               go_quiet (fail)
               go_wp2_with fail
               go_roundw
               case rel => exact ⟨j + 1, by omega, by go_num, HL, ch_quiet C5 _⟩
               case measure => simp [intOf]; omega)
        · have hzz := HF.out es
          clear HX HF
          cases e1 <;> cases e2 <;> first
            | (exfalso; revert es; decide)
            | (clear es
               go_wp2_with fail
               go_quiet (fail)
               go_wp2_with fail
               go_ret
               exact ⟨ret_bool hzz.symm, below_drewN' C5.out.S.out.bel _⟩)
      · obtain rfl : j = k.toNat := by omega
        have hlI : k ≤ ((k.toNat : Nat) : Int) := by omega
        have gj : decide (((k.toNat : Nat) : Int) < k) = false := decide_eq_false (by omega)
        have hzz : z = true := by rw [← hz.out, fb_all _ HL.out]; exact decide_eq_true rfl
        go_wp2_with fail
        go_ret
        exact ⟨ret_bool hzz.symm, C5.out.S.out.bel⟩
end Go.Proofs.YtlafeijkpnpdeaaGreat.Vcr

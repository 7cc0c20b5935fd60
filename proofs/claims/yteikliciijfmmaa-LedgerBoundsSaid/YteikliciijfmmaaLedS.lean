/- Walks of the reference's ledger: New, Refill, Spend; both ledgers side by side. -/
import Derived.Test.YteikliciijfmmaaLedR
namespace Go.Proofs.Yteikliciijfmmaa.LedS
open Go.RowKit Base Kit WideA WideB Plain FitA FitB FitC Conf Conf2 Alt RefA LedA LedB LedC LedD Short FitR LedN LedR
set_option linter.unusedVariables false
set_option linter.unusedSimpArgs false

theorem alt_grown {S : Nat → Prop} {w w1 w2 : World} {g : Nat} (h : Alt S w w1) (hg : w1.grownBy w2 (some g)) (hw : w.heap.size ≤ g) : Alt S w w2 :=
  ⟨hg.os.trans h.os, hg.tape.trans h.tape, hg.output.trans h.output, Nat.le_trans h.size hg.size, fun k hk hs => (hg.block k (Nat.lt_of_lt_of_le hk h.size) (fun e => by have := Option.some.inj e; omega)).trans (h.block k hk hs)⟩
theorem alt_made {S : Nat → Prop} {w w1 w2 : World} (h : Alt S w w1) (hg : w1.grownBy w2 none) : Alt S w w2 :=
  ⟨hg.os.trans h.os, hg.tape.trans h.tape, hg.output.trans h.output, Nat.le_trans h.size hg.size, fun k hk hs => (hg.block k (Nat.lt_of_lt_of_le hk h.size) (fun e => by cases e)).trans (h.block k hk hs)⟩
def RPost (w0 : World) (c : ConfC) (r : Nat) (x : Int) (cy : Nat → Int) (w : World) (e : Ending) (w' : World) : Prop :=
  ∃ V, e = .returned (.int .i64 x) ∧ Alt (fun i => i = r) w w' ∧ Hid (Rs w0 w' c r V cy)
section
variable {w0 w : World} {c : ConfC} {r : Nat} {V : Value} {cy : Nat → Int}
/-- one place is written into a copy, and the copy put in -/
theorem rs_put {w5 w6 : World} {g' c' : Nat} {k : Nat} {x : Int} (S : Hid (Rs w0 w5 c r V cy)) (hk : k < c.pn) (hx : 0 ≤ x ∧ x ≤ 1099511627776)
    (hg : (w5.alloc (.cells #[] 3)).grownBy w6 (some w5.heap.size)) (hge : w5.heap.size ≤ g') (hown : w6.ownsRow 0 3 1 (.slice (some ⟨g', 0, none⟩) c.pn c') c.pn (row cy c.pn)) :
    Hid (Rs w0 ((w6.setCell ⟨g', k, none⟩ (.int .i64 x)).setCell ⟨r, 13, none⟩ (.slice (some ⟨g', 0, none⟩) c.pn c')) c r (.slice (some ⟨g', 0, none⟩) c.pn c') (upd cy k x)) ∧
      Alt (fun i => i = r) w5 ((w6.setCell ⟨g', k, none⟩ (.int .i64 x)).setCell ⟨r, 13, none⟩ (.slice (some ⟨g', 0, none⟩) c.pn c')) := by
  have L := S.out
  have sz := L.bel.size
  have rl := L.box.lt
  have A6 : Alt (fun i => i = r) w5 w6 := alt_grown (Alt.alloc _ _) hg (Nat.le_refl _)
  have A7 : Alt (fun i => i = r) w5 (w6.setCell ⟨g', k, none⟩ (.int .i64 x)) := alt_grown A6 (grown_set w6 g' k (.int .i64 x)) hge
  have A8 := A7.trans (Alt.set (S := fun i => i = r) (w6.setCell ⟨g', k, none⟩ (.int .i64 x)) ⟨r, 13, none⟩ (.slice (some ⟨g', 0, none⟩) c.pn c') rfl)
  have B6 : Box w6 r _ _ := (L.box.alloc (.cells #[] 3)).grown hg (fun e => by have h9 : r = w5.heap.size := Option.some.inj e; omega)
  have fin := (hown.stored k (.int .i64 x)).1
  rw [row_set] at fin
  refine ⟨Lib.hid ⟨A8.below L.bel sz (fun i hi => by rw [hi]; exact L.hr), L.hr, fun g hg => ?_, ?_, ?_, L.ok, fun i hi => ?_, L.hn⟩, A8⟩
  · have : g' = g := by simpa [Value.ownBlock] using hg
    omega
  · exact (B6.setOther ⟨g', k, none⟩ (.int .i64 x) (by show r ≠ g'; omega)).set 13 _
  · have e : upd cy k x = fun j => if j = k then x else cy j := rfl
    rw [e]
    exact own_alt fin (Alt.set (S := fun i => i = r) _ _ _ rfl) (by show ¬ g' = r; omega)
  · unfold upd; split
    · exact hx
    · exact L.cyb i hi

set_option maxRecDepth 100000 in
set_option maxHeartbeats 1000000 in
theorem spendr_any (w : World) (h : Hid (Rs w0 w c r V cy)) (p x : Int) (hx : I64 x) (y : Int) (cy' : Nat → Int) (hr : Hid (spendP c.w c.pn cy p x = (y, cy'))) :
    Calls Try.prog 73 #[.pointer (some ⟨r, 0, none⟩), .int .i64 p, .int .i64 x] w (RPost w0 c r y cy' w) := by
  have hr := hr.out
  have hn := h.out.hn
  unfold spendP at hr
  by_cases hp : 0 ≤ p ∧ p < (c.pn : Int)
  · have C1 := Lib.hid (is_any w h p true (Lib.hid (by simpa using hp)))
    obtain ⟨k, rfl⟩ := Int.eq_ofNat_of_zero_le hp.1
    have hk : k < c.pn := by omega
    rw [Int.toNat_natCast] at hr
    obtain ⟨y0, y1⟩ := h.out.cyb k hk
    by_cases hx0 : x < 0
    · rw [if_pos (.inr hx0)] at hr
      obtain ⟨rfl, rfl⟩ : y = 2 ∧ cy = cy' := by simp only [Prod.mk.injEq] at hr; exact ⟨hr.1.symm, hr.2⟩
      clear hr hp
      go_enter Try.func73, Try.ntmps73
      go_wp2_with fail
      refine C1.out.mono ?_
      rintro e w1 ⟨rfl, rfl⟩
      go_wp2_with fail
      go_ret
      exact ⟨V, rfl, Alt.refl _ _, h⟩
    · rw [if_neg (by omega)] at hr
      have hx1 : 0 ≤ x := by omega
      have hx2 := hx.2
      have hD := rs_drew h
      have RL := Lib.hid h.out.box.lt
      obtain ⟨A, cap, rfl, hA⟩ := own_int h.out.own
      obtain ⟨g, rfl, gc⟩ := hA k hk
      have bc := h.out.box.cell
      clear hA
      by_cases hbig : 1099511627776 - cy k < x
      · rw [if_pos (.inl hbig)] at hr
        obtain ⟨rfl, rfl⟩ : y = 6 ∧ cy = cy' := by simp only [Prod.mk.injEq] at hr; exact ⟨hr.1.symm, hr.2⟩
        clear hr hp hx0
        go_enter Try.func73, Try.ntmps73
        go_wp2_with fail
        refine C1.out.mono ?_
        rintro e w1 ⟨rfl, rfl⟩
        go_wp2_with fail
        go_ret
        exact ⟨_, rfl, Alt.refl _ _, h⟩
      · have hle : x ≤ 1099511627776 - cy k := by omega
        obtain ⟨u, hu⟩ : ∃ u, (cst c.w (cy k + x)).1 = u := ⟨_, rfl⟩
        obtain ⟨er, he⟩ : ∃ er, (cst c.w (cy k + x)).2 = er := ⟨_, rfl⟩
        rw [he] at hr
        have C := Lib.hid (fun w h => costr_any c.w.la c.w.ln c.w.lc c.w.lf (.slice c.w.na c.w.nn c.w.nc) c.w.sw (.int .i64 c.w.id) (.int .i64 c.w.ch) (.int .i64 c.w.qu) (.int .i64 c.w.sl) (.int .i64 c.w.pp) (cy k + x) u er w h ⟨by omega, by omega⟩ (Lib.hid (Prod.ext hu he)))
        have hwr : IntKind.i64.wrap (cy k + x) = cy k + x := IntWalk.i64_in _ (by omega)
        have HW := Lib.hid hwr
        have L := rs_lev hD
        clear hu he hwr
        by_cases hez : er = 0
        · subst hez
          rw [if_neg (by omega)] at hr
          obtain ⟨rfl, rfl⟩ : y = 0 ∧ cy' = upd cy k (cy k + x) := by simp only [Prod.mk.injEq] at hr; exact ⟨hr.1.symm, hr.2.symm⟩
          clear hr hp hx0 hbig
          go_enter Try.func73, Try.ntmps73
          go_wp2_with fail
          refine C1.out.mono ?_
          rintro e w1 ⟨rfl, rfl⟩
          go_wp2_with fail
          have bd : ∀ i, w.drew.cell? ⟨r, i, none⟩ = (#[.slice c.pa c.pn c.pc, .slice c.ca c.cn c.cc, .slice c.ma c.mn c.mc, .slice c.w.la c.w.ln c.w.lc, .slice c.w.na c.w.nn c.w.nc, .int .i64 c.w.sw, .int .i64 c.w.id, .int .i64 c.w.ch, .int .i64 c.w.qu, .int .i64 c.w.sl, .int .i64 c.w.pp, .slice c.da c.dn c.dc, .slice c.ua c.un c.uc, .slice (some ⟨g, 0, none⟩) c.pn cap] : Array Value)[i]? := hD.out.box.cell
          have gd : w.drew.cell? ⟨g, k, none⟩ = some (.int .i64 (cy k)) := gc
          have hwr := HW.out
          go_region_held3 (fun w' => (∀ i, w'.cell? ⟨r, i, none⟩ = (#[.slice c.pa c.pn c.pc, .slice c.ca c.cn c.cc, .slice c.ma c.mn c.mc, .slice c.w.la c.w.ln c.w.lc, .slice c.w.na c.w.nn c.w.nc, .int .i64 c.w.sw, .int .i64 c.w.id, .int .i64 c.w.ch, .int .i64 c.w.qu, .int .i64 c.w.sl, .int .i64 c.w.pp, .slice c.da c.dn c.dc, .slice c.ua c.un c.uc, .slice (some ⟨g, 0, none⟩) c.pn cap] : Array Value)[i]?) ∧ w'.cell? ⟨g, k, none⟩ = some (.int .i64 (cy k)))
            (first
              | exact ⟨bd, gd⟩
              | exact r5)
            (first
              | (go_at_call 21; refine (C.out _ (by exact L)).mono ?_; rintro e1 w5 ⟨rfl, hb5⟩; have r5 := And.intro (hD.out.box.next hb5).cell (keep' hb5 gd); have HS := rs_next hD hb5; have HB := Lib.hid (((Below.refl w.heap.size w).drew).trans hb5); clear hb5))
          clear bc bd gd gc r5 hwr
          have bc := (HS.out.box.alloc (.cells #[] 3)).cell
          have R4 := rows_alloc (rows_own HS.out.own (by omega) (fun i hi => rs_i64 HS i hi)) (.cells #[] 3)
          have O1 := Lib.hid (World.ownsRow_made (base := w5.heap.size) (e := 3) (size := 1) w5 #[] 0 (Nat.le_refl _) (by unfold maxLen; omega) rfl)
          go_wp2_with (at_builtin; go_loud (refine append_all _ rfl _ _ 41 rfl Try.underlying41 w5.heap.size (.slice (some ⟨w5.heap.size, 0, none⟩) 0 0) 0 [] rfl (by exact O1.out) (some ⟨g, 0, none⟩) c.pn cap cy rfl (by simp) (by exact R4) (by omega) (by omega) (by simp) ?_))
          intro v' w6 hown1 hg hnil
          obtain ⟨g', c', rfl, hge, hlt⟩ := own_form hown1 (fun e => hnil e)
          try simp only [Nat.zero_add, List.nil_append] at hown1 ⊢
          have O6 := Lib.hid (own_base hown1 (base' := 0) (fun _ _ => Nat.zero_le _))
          have HP := Lib.hid (rs_put HS hk (x := cy k + x) ⟨by omega, by omega⟩ hg hge O6.out)
          have B6 := Lib.hid ((HS.out.box.alloc (.cells #[] 3)).grown hg (fun e => by have h9 : r = w5.heap.size := Option.some.inj e; have := HS.out.box.lt; omega))
          have hgr : g' ≠ r := by have := HS.out.box.lt; omega
          have gc : w6.cell? ⟨g', k, none⟩ = some (.int .i64 (cy k)) := by rw [O6.out.cellAt k (by omega), row_get cy c.pn k hk]
          have gf := O6.out.frozenAt k
          clear bc hg hnil hown1 O1 R4
          have bc := B6.out.cell
          have bf := B6.out.frozen
          have hwr := HW.out
          go_wp2_with fail
          go_ret
          exact ⟨_, rfl, (Alt.of_below HB.out).trans HP.out.2, HP.out.1⟩
        · have hez' : (er != 0) = true := by simpa using hez
          rw [if_pos (.inr hez)] at hr
          obtain ⟨rfl, rfl⟩ : y = 6 ∧ cy = cy' := by simp only [Prod.mk.injEq] at hr; exact ⟨hr.1.symm, hr.2⟩
          clear hr hp hx0 hbig hez
          go_enter Try.func73, Try.ntmps73
          go_wp2_with fail
          refine C1.out.mono ?_
          rintro e w1 ⟨rfl, rfl⟩
          go_wp2_with fail
          have bd : ∀ i, w.drew.cell? ⟨r, i, none⟩ = (#[.slice c.pa c.pn c.pc, .slice c.ca c.cn c.cc, .slice c.ma c.mn c.mc, .slice c.w.la c.w.ln c.w.lc, .slice c.w.na c.w.nn c.w.nc, .int .i64 c.w.sw, .int .i64 c.w.id, .int .i64 c.w.ch, .int .i64 c.w.qu, .int .i64 c.w.sl, .int .i64 c.w.pp, .slice c.da c.dn c.dc, .slice c.ua c.un c.uc, .slice (some ⟨g, 0, none⟩) c.pn cap] : Array Value)[i]? := hD.out.box.cell
          have gd : w.drew.cell? ⟨g, k, none⟩ = some (.int .i64 (cy k)) := gc
          have hwr := HW.out
          go_region_held3 (fun w' => (∀ i, w'.cell? ⟨r, i, none⟩ = (#[.slice c.pa c.pn c.pc, .slice c.ca c.cn c.cc, .slice c.ma c.mn c.mc, .slice c.w.la c.w.ln c.w.lc, .slice c.w.na c.w.nn c.w.nc, .int .i64 c.w.sw, .int .i64 c.w.id, .int .i64 c.w.ch, .int .i64 c.w.qu, .int .i64 c.w.sl, .int .i64 c.w.pp, .slice c.da c.dn c.dc, .slice c.ua c.un c.uc, .slice (some ⟨g, 0, none⟩) c.pn cap] : Array Value)[i]?) ∧ w'.cell? ⟨g, k, none⟩ = some (.int .i64 (cy k)))
            (first
              | exact ⟨bd, gd⟩
              | exact r5)
            (first
              | (go_at_call 21; refine (C.out _ (by exact L)).mono ?_; rintro e1 w5 ⟨rfl, hb5⟩; have r5 := And.intro (hD.out.box.next hb5).cell (keep' hb5 gd); have HS := rs_next hD hb5; have HB := Lib.hid (((Below.refl w.heap.size w).drew).trans hb5); clear hb5))
          clear bc bd gd gc r5 hwr
          go_wp2_with fail
          go_ret
          exact ⟨_, rfl, Alt.of_below HB.out, HS⟩
  · rw [if_pos (.inl hp)] at hr
    obtain ⟨rfl, rfl⟩ : y = 2 ∧ cy = cy' := by simp only [Prod.mk.injEq] at hr; exact ⟨hr.1.symm, hr.2⟩
    have C1 := Lib.hid (is_any w h p false (Lib.hid (by simpa using hp)))
    clear hp hr
    go_enter Try.func73, Try.ntmps73
    go_wp2_with fail
    refine C1.out.mono ?_
    rintro e w1 ⟨rfl, rfl⟩
    go_wp2_with fail
    go_ret
    exact ⟨V, rfl, Alt.refl _ _, h⟩

set_option maxRecDepth 100000 in
theorem refillr_any (w : World) (h : Hid (Rs w0 w c r V cy)) :
    Calls Try.prog 74 #[.pointer (some ⟨r, 0, none⟩)] w fun e w' => ∃ V, (∃ v, e = .returned v) ∧ Alt (fun i => i = r) w w' ∧ Hid (Rs w0 w' c r V (fun _ => 0)) := by
  have hn := h.out.hn
  have bc := h.out.box.cell
  obtain ⟨w1, r1, o1, g1⟩ := make_ints w c.pn (by omega)
  have B1 := Lib.hid (h.out.box.grown g1 (by simp))
  have A1 : Hid (Alt (fun i => i = r) w w1) := Lib.hid (alt_made (Alt.refl _ _) g1)
  have RL := h.out.box.lt
  have bc1 := B1.out.cell
  have bf1 := B1.out.frozen
  have O1 := Lib.hid o1
  clear o1 g1
  go_enter Try.func74, Try.ntmps74
  go_wp2_with fail
  go_end0
  have A2 := A1.out.trans (Alt.set (S := fun i => i = r) w1 ⟨r, 13, none⟩ (.slice (some ⟨w.heap.size, 0, none⟩) c.pn c.pn) rfl)
  refine ⟨_, ⟨_, rfl⟩, A2, Lib.hid ⟨A2.below h.out.bel h.out.bel.size (fun i hi => by rw [hi]; exact h.out.hr), h.out.hr, fun g hg => ?_, B1.out.set 13 _, ?_, h.out.ok, fun i hi => by omega, h.out.hn⟩⟩
  · have : w.heap.size = g := by simpa [Value.ownBlock] using hg
    have := h.out.bel.size
    omega
  · exact own_alt (own_base O1.out (fun _ _ => Nat.zero_le _)) (Alt.set (S := fun i => i = r) _ _ _ rfl) (by show ¬ w.heap.size = r; omega)

set_option maxRecDepth 100000 in
theorem newr_any (w : World) (ok : Hid (c.Ok w0)) (hb : Hid (Below w0.heap.size w0 w)) (hn : c.pn ≤ 100) :
    Calls Try.prog 44 #[.agg #[.slice c.pa c.pn c.pc, .slice c.ca c.cn c.cc, .slice c.ma c.mn c.mc, .slice c.w.la c.w.ln c.w.lc, .slice c.w.na c.w.nn c.w.nc, .int .i64 c.w.sw, .int .i64 c.w.id, .int .i64 c.w.ch, .int .i64 c.w.qu, .int .i64 c.w.sl, .int .i64 c.w.pp, .slice c.da c.dn c.dc, .slice c.ua c.un c.uc]] w fun e w' => ∃ r V, e = .returned (.pointer (some ⟨r, 0, none⟩)) ∧ Below w.heap.size w w' ∧ Hid (Rs w0 w' c r V (fun _ => 0)) := by
  have bd : ∀ i, (w.alloc (.cells #[.slice c.pa c.pn c.pc, .slice c.ca c.cn c.cc, .slice c.ma c.mn c.mc, .slice c.w.la c.w.ln c.w.lc, .slice c.w.na c.w.nn c.w.nc, .int .i64 c.w.sw, .int .i64 c.w.id, .int .i64 c.w.ch, .int .i64 c.w.qu, .int .i64 c.w.sl, .int .i64 c.w.pp, .slice c.da c.dn c.dc, .slice c.ua c.un c.uc] 45)).drew.cell? ⟨w.heap.size, i, none⟩ = (#[.slice c.pa c.pn c.pc, .slice c.ca c.cn c.cc, .slice c.ma c.mn c.mc, .slice c.w.la c.w.ln c.w.lc, .slice c.w.na c.w.nn c.w.nc, .int .i64 c.w.sw, .int .i64 c.w.id, .int .i64 c.w.ch, .int .i64 c.w.qu, .int .i64 c.w.sl, .int .i64 c.w.pp, .slice c.da c.dn c.dc, .slice c.ua c.un c.uc] : Array Value)[i]? := (Box.new w #[.slice c.pa c.pn c.pc, .slice c.ca c.cn c.cc, .slice c.ma c.mn c.mc, .slice c.w.la c.w.ln c.w.lc, .slice c.w.na c.w.nn c.w.nc, .int .i64 c.w.sw, .int .i64 c.w.id, .int .i64 c.w.ch, .int .i64 c.w.qu, .int .i64 c.w.sl, .int .i64 c.w.pp, .slice c.da c.dn c.dc, .slice c.ua c.un c.uc] 45).cell
  have B0 := Lib.hid ((Box.new w #[.slice c.pa c.pn c.pc, .slice c.ca c.cn c.cc, .slice c.ma c.mn c.mc, .slice c.w.la c.w.ln c.w.lc, .slice c.w.na c.w.nn c.w.nc, .int .i64 c.w.sw, .int .i64 c.w.id, .int .i64 c.w.ch, .int .i64 c.w.qu, .int .i64 c.w.sl, .int .i64 c.w.pp, .slice c.da c.dn c.dc, .slice c.ua c.un c.uc] 45).drew)
  obtain ⟨w1, r1, o1, g1⟩ := make_ints (w.alloc (.cells #[.slice c.pa c.pn c.pc, .slice c.ca c.cn c.cc, .slice c.ma c.mn c.mc, .slice c.w.la c.w.ln c.w.lc, .slice c.w.na c.w.nn c.w.nc, .int .i64 c.w.sw, .int .i64 c.w.id, .int .i64 c.w.ch, .int .i64 c.w.qu, .int .i64 c.w.sl, .int .i64 c.w.pp, .slice c.da c.dn c.dc, .slice c.ua c.un c.uc] 45)).drew c.pn (by omega)
  have B1 := Lib.hid (B0.out.grown g1 (by simp))
  have bc1 := B1.out.cell
  have G1 := Lib.hid g1
  have O1 := Lib.hid o1
  clear o1 g1
  go_enter Try.func44, Try.ntmps44
  go_wp2_with fail
  have bc2 := fun o => (B1.out.alloc o).cell
  go_region_held3 (fun w' => ∀ i, w'.cell? ⟨w.heap.size, i, none⟩ = (#[.slice c.pa c.pn c.pc, .slice c.ca c.cn c.cc, .slice c.ma c.mn c.mc, .slice c.w.la c.w.ln c.w.lc, .slice c.w.na c.w.nn c.w.nc, .int .i64 c.w.sw, .int .i64 c.w.id, .int .i64 c.w.ch, .int .i64 c.w.qu, .int .i64 c.w.sl, .int .i64 c.w.pp, .slice c.da c.dn c.dc, .slice c.ua c.un c.uc] : Array Value)[i]?)
    (first
      | exact bd
      | exact bc1
      | exact bc2 _) (fail)
  clear bd bc1 bc2
  go_wp2_with fail
  go_ret
  have bel1 : Below w.heap.size w w1 := (((Below.refl w.heap.size w).alloc (Nat.le_refl _) (.cells #[.slice c.pa c.pn c.pc, .slice c.ca c.cn c.cc, .slice c.ma c.mn c.mc, .slice c.w.la c.w.ln c.w.lc, .slice c.w.na c.w.nn c.w.nc, .int .i64 c.w.sw, .int .i64 c.w.id, .int .i64 c.w.ch, .int .i64 c.w.qu, .int .i64 c.w.sl, .int .i64 c.w.pp, .slice c.da c.dn c.dc, .slice c.ua c.un c.uc] 45)).drew).grown G1.out (by simp) (fun k h => by cases h)
  have bel2 : Below w.heap.size w (w1.alloc (.cells (#[.slice c.pa c.pn c.pc, .slice c.ca c.cn c.cc, .slice c.ma c.mn c.mc, .slice c.w.la c.w.ln c.w.lc, .slice c.w.na c.w.nn c.w.nc, .int .i64 c.w.sw, .int .i64 c.w.id, .int .i64 c.w.ch, .int .i64 c.w.qu, .int .i64 c.w.sl, .int .i64 c.w.pp, .slice c.da c.dn c.dc, .slice c.ua c.un c.uc, .slice (some ⟨w.heap.size + 1, 0, none⟩) c.pn c.pn] : Array Value) 129)) := bel1.alloc bel1.size _
  have sz := hb.out.size
  have sz1 := bel1.size
  refine ⟨w1.heap.size, _, rfl, bel2, Lib.hid ⟨below_next hb.out bel2, by omega, fun g hg => ?_, Box.new _ _ _, ?_, ok, fun i hi => by omega, hn⟩⟩
  · have : w.heap.size + 1 = g := by simpa [Value.ownBlock] using hg
    omega
  · have o := O1.out
    have e : (w.alloc (.cells #[.slice c.pa c.pn c.pc, .slice c.ca c.cn c.cc, .slice c.ma c.mn c.mc, .slice c.w.la c.w.ln c.w.lc, .slice c.w.na c.w.nn c.w.nc, .int .i64 c.w.sw, .int .i64 c.w.id, .int .i64 c.w.ch, .int .i64 c.w.qu, .int .i64 c.w.sl, .int .i64 c.w.pp, .slice c.da c.dn c.dc, .slice c.ua c.un c.uc] 45)).drew.heap.size = w.heap.size + 1 := World.size_alloc _ _
    rw [e] at o
    exact (own_base o (fun _ _ => Nat.zero_le _)).alloc _
end
end Go.Proofs.Yteikliciijfmmaa.LedS

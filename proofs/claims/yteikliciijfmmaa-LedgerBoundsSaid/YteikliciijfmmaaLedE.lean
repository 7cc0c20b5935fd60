/- Walks of package ledger: New. -/
import Derived.Test.YteikliciijfmmaaLedN
import Derived.Test.YteikliciijfmmaaHeld
import Derived.Deep.RegionLaw
import Derived.Deep.AppendLies
import Derived.Deep.DrawnRows
namespace Go.Proofs.Yteikliciijfmmaa.LedE
open Go.RowKit Base Kit WideA WideB Plain FitA FitB FitC Conf Conf2 Alt RefA LedA LedB LedC LedD Short FitR LedN Held
set_option linter.unusedVariables false
set_option linter.unusedSimpArgs false
attribute [local go_sem ↓] Go.wp_at_zero Go.wp_at_succ

set_option maxRecDepth 100000 in
set_option maxHeartbeats 8000000 in
theorem new_any (c : ConfC) (w : World) (ok : c.Ok w) (hs : Sh c) :
    Calls Try.prog 28 #[.agg #[.slice c.pa c.pn c.pc, .slice c.ca c.cn c.cc, .slice c.ma c.mn c.mc, .slice c.w.la c.w.ln c.w.lc, .slice c.w.na c.w.nn c.w.nc, .int .i64 c.w.sw, .int .i64 c.w.id, .int .i64 c.w.ch, .int .i64 c.w.qu, .int .i64 c.w.sl, .int .i64 c.w.pp, .slice c.da c.dn c.dc, .slice c.ua c.un c.uc]] w fun e w' => ∃ v a, e = .returned (.pointer (some ⟨w.heap.size + 1, 0, none⟩)) ∧ Hid (Ls w w' c.w (qm c) (fun i => (c.p i).bud) c.pn (w.heap.size + 1) v a (fun _ => 0)) := by
  have OK := Lib.hid ok
  have hpn : c.pn ≤ 100 := hs.1.1
  have QI : I64 (qm c) := by have := ok.pow.qu; unfold qm; split; exact this; exact ⟨by omega, by omega⟩
  have S : Hid (Nw w ((w.alloc (.cells #[.slice c.pa c.pn c.pc, .slice c.ca c.cn c.cc, .slice c.ma c.mn c.mc, .slice c.w.la c.w.ln c.w.lc, .slice c.w.na c.w.nn c.w.nc, .int .i64 c.w.sw, .int .i64 c.w.id, .int .i64 c.w.ch, .int .i64 c.w.qu, .int .i64 c.w.sl, .int .i64 c.w.pp, .slice c.da c.dn c.dc, .slice c.ua c.un c.uc] 45)).alloc (.cells #[.slice none 0 0, .bool true] 97)) c 0 (.slice none 0 0) (fun _ => 0)) := by
    have b1 := Box.new (w.alloc (.cells #[.slice c.pa c.pn c.pc, .slice c.ca c.cn c.cc, .slice c.ma c.mn c.mc, .slice c.w.la c.w.ln c.w.lc, .slice c.w.na c.w.nn c.w.nc, .int .i64 c.w.sw, .int .i64 c.w.id, .int .i64 c.w.ch, .int .i64 c.w.qu, .int .i64 c.w.sl, .int .i64 c.w.pp, .slice c.da c.dn c.dc, .slice c.ua c.un c.uc] 45)) #[.slice none 0 0, .bool true] 97
    rw [World.size_alloc] at b1
    exact Lib.hid ⟨(Box.new _ _ _).alloc _, Lib.hid ⟨((Below.refl _ _).alloc (Nat.le_refl _) _).alloc (by simp) _, by omega, fun i hi => by omega, fun g hg => by simp [Value.ownBlock] at hg, Lib.hid ⟨b1, World.ownsRow_nil _ _ _ _, fun i hi => by omega, fun i j hi => by omega⟩, ok.pow.lev, fun i hi => by omega, by omega, fun i hi => by omega, QI⟩⟩
  clear ok hs
  go_enter Try.func28, Try.ntmps28
  go_wp2_with fail
  generalize (w.alloc (.cells #[.slice c.pa c.pn c.pc, .slice c.ca c.cn c.cc, .slice c.ma c.mn c.mc, .slice c.w.la c.w.ln c.w.lc, .slice c.w.na c.w.nn c.w.nc, .int .i64 c.w.sw, .int .i64 c.w.id, .int .i64 c.w.ch, .int .i64 c.w.qu, .int .i64 c.w.sl, .int .i64 c.w.pp, .slice c.da c.dn c.dc, .slice c.ua c.un c.uc] 45)).alloc (.cells #[.slice none 0 0, .bool true] 97) = w1 at S ⊢
  have bc := S.out.box.cell
  obtain ⟨pa, hpa⟩ : ∃ x, c.pa = x := ⟨_, rfl⟩
  rw [hpa] at bc ⊢
  have HPA := Lib.hid hpa
  clear hpa
  go_wp2_with fail
  go_loopw [11] (fun i wr => ∃ (k : Nat) (v : Value) (a : Nat → Nat), k ≤ c.pn ∧ i = .int .i64 k ∧ Hid (Nw w wr c k v a)) (fun i _ => c.pn - (intOf i).toNat)
  case atStart => exact ⟨0, _, _, by omega, rfl, S⟩
  case round =>
    clear S bc
    obtain ⟨k, v, a, hk, rfl, S⟩ := hrel
    by_cases hlt : k < c.pn
    · obtain ⟨pb, po, ep, lp, hpc⟩ := part_at OK.out.parts k hlt
      have PT := Lib.hid (pc_next (show PC w pb (po + k * 11) (c.p k) from hpc) S.out.ls.out.bel lp)
      rw [HPA.out] at ep
      subst ep
      clear hpc
      have i8 := (OK.out.part k hlt).bud
      obtain ⟨q, hq⟩ : ∃ q, c.p k = q := ⟨_, rfl⟩
      rw [hq] at i8 PT
      have HQ := Lib.hid hq
      clear hq
      obtain ⟨p0, p1, p2, p3, p4, p5, p6, p7, p8, p9, p10⟩ := PT.out
      go_wp2_with fail
      have SZ : (wr.alloc (.cells #[.slice q.ra q.rn q.rc, .slice q.pa q.pn q.pc, .slice q.oa q.on q.oc, .slice q.sa q.sn q.sc, .int .i64 q.fl, .slice q.qa q.qn q.qc, .slice q.ta q.tn q.tc, .int .i64 q.cap, .int .i64 q.bud, .int .i64 q.lad, .slice q.ca q.cn q.cc] 57)).heap.size = wr.heap.size + 1 := by simp
      have S1 : Hid (Nw w (wr.alloc (.cells #[.slice q.ra q.rn q.rc, .slice q.pa q.pn q.pc, .slice q.oa q.on q.oc, .slice q.sa q.sn q.sc, .int .i64 q.fl, .slice q.qa q.qn q.qc, .slice q.ta q.tn q.tc, .int .i64 q.cap, .int .i64 q.bud, .int .i64 q.lad, .slice q.ca q.cn q.cc] 57)) c k v a) := Lib.hid ⟨S.out.box.alloc _, ls_next S.out.ls ((Below.refl _ _).alloc (Nat.le_refl _) _)⟩
      have bp := (Box.new wr #[.slice q.ra q.rn q.rc, .slice q.pa q.pn q.pc, .slice q.oa q.on q.oc, .slice q.sa q.sn q.sc, .int .i64 q.fl, .slice q.qa q.qn q.qc, .slice q.ta q.tn q.tc, .int .i64 q.cap, .int .i64 q.bud, .int .i64 q.lad, .slice q.ca q.cn q.cc] 57).cell
      have ndp := Lib.hid (Box.new wr #[.slice q.ra q.rn q.rc, .slice q.pa q.pn q.pc, .slice q.oa q.on q.oc, .slice q.sa q.sn q.sc, .int .i64 q.fl, .slice q.qa q.qn q.qc, .slice q.ta q.tn q.tc, .int .i64 q.cap, .int .i64 q.bud, .int .i64 q.lad, .slice q.ca q.cn q.cc] 57)
      generalize wr.alloc (.cells #[.slice q.ra q.rn q.rc, .slice q.pa q.pn q.pc, .slice q.oa q.on q.oc, .slice q.sa q.sn q.sc, .int .i64 q.fl, .slice q.qa q.qn q.qc, .slice q.ta q.tn q.tc, .int .i64 q.cap, .int .i64 q.bud, .int .i64 q.lad, .slice q.ca q.cn q.cc] 57) = W1 at S1 bp ndp SZ ⊢
      clear S
      have L1 := S1.out.ls.out.lm.out
      have bl := L1.box.cell
      have bc := S1.out.box.cell
      have BC1 := S1.out.box
      rw [HPA.out] at bc BC1
      have NEV := Lib.hid (own_ne' L1.own L1.box (by decide))
      have BXL := Lib.hid L1.box
      have BP := ndp
      have BC := Lib.hid BC1
      have OWN := Lib.hid L1.own
      have NEP := Lib.hid (own_ne' L1.own ndp.out (by decide))
      have NEC := Lib.hid (own_ne' L1.own BC1 (by decide))
      have nb : Hid (∀ (o1 o2 : Obj), ((W1.alloc o1).alloc o2).drew.heap[wr.heap.size + 1 + 1]? = some o2) := Lib.hid (fun o1 o2 => by have h := heap_alloc_new (W1.alloc o1) o2; rw [World.size_alloc, SZ] at h; exact h)
      clear L1
      obtain ⟨i0, hi, hz0, hz1, hz2⟩ := info_parts infoPtr
      refine wp_region_till (fun w' => (∀ i, w'.cell? ⟨wr.heap.size, i, none⟩ = (#[.slice q.ra q.rn q.rc, .slice q.pa q.pn q.pc, .slice q.oa q.on q.oc, .slice q.sa q.sn q.sc, .int .i64 q.fl, .slice q.qa q.qn q.qc, .slice q.ta q.tn q.tc, .int .i64 q.cap, .int .i64 q.bud, .int .i64 q.lad, .slice q.ca q.cn q.cc] : Array Value)[i]?) ∧ ∀ i, w'.cell? ⟨w.heap.size, i, none⟩ = (#[.slice (some ⟨pb, po, none⟩) c.pn c.pc, .slice c.ca c.cn c.cc, .slice c.ma c.mn c.mc, .slice c.w.la c.w.ln c.w.lc, .slice c.w.na c.w.nn c.w.nc, .int .i64 c.w.sw, .int .i64 c.w.id, .int .i64 c.w.ch, .int .i64 c.w.qu, .int .i64 c.w.sl, .int .i64 c.w.pp, .slice c.da c.dn c.dc, .slice c.ua c.un c.uc] : Array Value)[i]?) (fun w' => ∀ i, w'.cell? ⟨w.heap.size + 1, i, none⟩ = (#[v, .bool true] : Array Value)[i]?) 17 21 #[false, false, false, false, false, false, false, false, false, false, false, false, false, false, false, false, false, false, false, false, false] (by kernel_rfl) rfl rfl ⟨⟨bp, bc⟩, bl⟩ (fun hHeld => ?_)
      refine wpTill_take false (i := 0) (v := ?_) rfl (by kernel_rfl) (by kernel_rfl) (by kernel_rfl) (fun _ _ _ h => h) (by kernel_rfl) (Or.inl ⟨by rfl, ?_⟩) hHeld (fun hHeld => ?_)
      rotate_left
      · (intro w' hSw; obtain ⟨⟨r1, r2⟩, r3⟩ := hSw; (try have r4 := r3 rfl); (try dsimp only at r1 r2 r4); clear r3; go_simp; try with_reducible rfl)
      try simp only [Act.put, List.setIfInBounds_toArray, List.set_cons_zero, List.set_cons_succ]
      refine wpTill_take false (i := 1) (v := ?_) rfl (by kernel_rfl) (by kernel_rfl) (by kernel_rfl) (fun _ _ _ h => h) (by kernel_rfl) (Or.inl ⟨by rfl, ?_⟩) hHeld (fun hHeld => ?_)
      rotate_left
      · (intro w' hSw; obtain ⟨⟨r1, r2⟩, r3⟩ := hSw; (try have r4 := r3 rfl); (try dsimp only at r1 r2 r4); clear r3; go_simp; try with_reducible rfl)
      try simp only [Act.put, List.setIfInBounds_toArray, List.set_cons_zero, List.set_cons_succ]
      refine wpTill_take false (i := 2) (v := ?_) rfl (by kernel_rfl) (by kernel_rfl) (by kernel_rfl) (fun _ _ _ h => h) (by kernel_rfl) (Or.inl ⟨by rfl, ?_⟩) hHeld (fun hHeld => ?_)
      rotate_left
      · (intro w' hSw; obtain ⟨⟨r1, r2⟩, r3⟩ := hSw; (try have r4 := r3 rfl); (try dsimp only at r1 r2 r4); clear r3; go_simp; try with_reducible rfl)
      try simp only [Act.put, List.setIfInBounds_toArray, List.set_cons_zero, List.set_cons_succ]
      refine wpTill_take false (i := 3) (v := ?_) rfl (by kernel_rfl) (by kernel_rfl) (by kernel_rfl) (fun _ _ _ h => h) (by kernel_rfl) (Or.inl ⟨by rfl, ?_⟩) hHeld (fun hHeld => ?_)
      rotate_left
      · (intro w' hSw; obtain ⟨⟨r1, r2⟩, r3⟩ := hSw; (try have r4 := r3 rfl); (try dsimp only at r1 r2 r4); clear r3; go_simp; try with_reducible rfl)
      try simp only [Act.put, List.setIfInBounds_toArray, List.set_cons_zero, List.set_cons_succ]
      refine wpTill_take true (i := 4) (v := ?_) rfl (by kernel_rfl) (by kernel_rfl) (by kernel_rfl) (fun _ _ _ h => h) (by kernel_rfl) (Or.inl ⟨by rfl, ?_⟩) hHeld (fun hHeld => ?_)
      rotate_left
      · (intro w' hSw; obtain ⟨⟨r1, r2⟩, r3⟩ := hSw; (try have r4 := r3 rfl); (try dsimp only at r1 r2 r4); clear r3; go_simp; try with_reducible rfl)
      try simp only [Act.put, List.setIfInBounds_toArray, List.set_cons_zero, List.set_cons_succ]
      refine wpTill_take false (i := 5) (v := ?_) rfl (by kernel_rfl) (by kernel_rfl) (by kernel_rfl) (fun _ _ _ h => h) (by kernel_rfl) (Or.inl ⟨by rfl, ?_⟩) hHeld (fun hHeld => ?_)
      rotate_left
      · (intro w' hSw; obtain ⟨⟨r1, r2⟩, r3⟩ := hSw; (try have r4 := r3 rfl); (try dsimp only at r1 r2 r4); clear r3; go_simp; try with_reducible rfl)
      try simp only [Act.put, List.setIfInBounds_toArray, List.set_cons_zero, List.set_cons_succ]
      refine wpTill_take false (i := 6) (v := ?_) rfl (by kernel_rfl) (by kernel_rfl) (by kernel_rfl) (fun _ _ _ h => h) (by kernel_rfl) (Or.inl ⟨by rfl, ?_⟩) hHeld (fun hHeld => ?_)
      rotate_left
      · (intro w' hSw; obtain ⟨⟨r1, r2⟩, r3⟩ := hSw; (try have r4 := r3 rfl); (try dsimp only at r1 r2 r4); clear r3; go_simp; try with_reducible rfl)
      try simp only [Act.put, List.setIfInBounds_toArray, List.set_cons_zero, List.set_cons_succ]
      refine wpTill_take false (i := 7) (v := ?_) rfl (by kernel_rfl) (by kernel_rfl) (by kernel_rfl) (fun _ _ _ h => h) (by kernel_rfl) (Or.inl ⟨by rfl, ?_⟩) hHeld (fun hHeld => ?_)
      rotate_left
      · (intro w' hSw; obtain ⟨⟨r1, r2⟩, r3⟩ := hSw; (try have r4 := r3 rfl); (try dsimp only at r1 r2 r4); clear r3; go_simp; try with_reducible rfl)
      try simp only [Act.put, List.setIfInBounds_toArray, List.set_cons_zero, List.set_cons_succ]
      refine wpTill_take false (i := 8) (v := ?_) rfl (by kernel_rfl) (by kernel_rfl) (by kernel_rfl) (fun _ _ _ h => h) (by kernel_rfl) (Or.inl ⟨by rfl, ?_⟩) hHeld (fun hHeld => ?_)
      rotate_left
      · (intro w' hSw; obtain ⟨⟨r1, r2⟩, r3⟩ := hSw; (try have r4 := r3 rfl); (try dsimp only at r1 r2 r4); clear r3; go_simp; try with_reducible rfl)
      try simp only [Act.put, List.setIfInBounds_toArray, List.set_cons_zero, List.set_cons_succ]
      refine wpTill_take false (i := 9) (v := ?_) rfl (by kernel_rfl) (by kernel_rfl) (by kernel_rfl) (fun _ _ _ h => h) (by kernel_rfl) (Or.inl ⟨by rfl, ?_⟩) hHeld (fun hHeld => ?_)
      rotate_left
      · (intro w' hSw; obtain ⟨⟨r1, r2⟩, r3⟩ := hSw; (try have r4 := r3 rfl); (try dsimp only at r1 r2 r4); clear r3; go_simp; try with_reducible rfl)
      try simp only [Act.put, List.setIfInBounds_toArray, List.set_cons_zero, List.set_cons_succ]
      refine wpTill_take false (i := 10) (v := ?_) rfl (by kernel_rfl) (by kernel_rfl) (by kernel_rfl) (fun _ _ _ h => h) (by kernel_rfl) (Or.inl ⟨by rfl, ?_⟩) hHeld (fun hHeld => ?_)
      rotate_left
      · (intro w' hSw; obtain ⟨⟨r1, r2⟩, r3⟩ := hSw; (try have r4 := r3 rfl); (try dsimp only at r1 r2 r4); clear r3; go_simp; try with_reducible rfl)
      try simp only [Act.put, List.setIfInBounds_toArray, List.set_cons_zero, List.set_cons_succ]
      refine wpTill_take false (i := 11) (v := ?_) rfl (by kernel_rfl) (by kernel_rfl) (by kernel_rfl) (fun _ _ _ h => h) (by kernel_rfl) (Or.inl ⟨by rfl, ?_⟩) hHeld (fun hHeld => ?_)
      rotate_left
      · (intro w' hSw; obtain ⟨⟨r1, r2⟩, r3⟩ := hSw; (try have r4 := r3 rfl); (try dsimp only at r1 r2 r4); clear r3; go_simp; try with_reducible rfl)
      try simp only [Act.put, List.setIfInBounds_toArray, List.set_cons_zero, List.set_cons_succ]
      refine wpTill_take false (i := 12) (v := ?_) rfl (by kernel_rfl) (by kernel_rfl) (by kernel_rfl) (fun _ _ _ h => h) (by kernel_rfl) (Or.inl ⟨by rfl, ?_⟩) hHeld (fun hHeld => ?_)
      rotate_left
      · (intro w' hSw; obtain ⟨⟨r1, r2⟩, r3⟩ := hSw; (try have r4 := r3 rfl); (try dsimp only at r1 r2 r4); clear r3; go_simp; try with_reducible rfl)
      try simp only [Act.put, List.setIfInBounds_toArray, List.set_cons_zero, List.set_cons_succ]
      refine wpTill_take false (i := 13) (v := ?_) rfl (by kernel_rfl) (by kernel_rfl) (by kernel_rfl) (fun _ _ _ h => h) (by kernel_rfl) (Or.inl ⟨by rfl, ?_⟩) hHeld (fun hHeld => ?_)
      rotate_left
      · (intro w' hSw; obtain ⟨⟨r1, r2⟩, r3⟩ := hSw; (try have r4 := r3 rfl); (try dsimp only at r1 r2 r4); clear r3; go_simp; try with_reducible rfl)
      try simp only [Act.put, List.setIfInBounds_toArray, List.set_cons_zero, List.set_cons_succ]
      refine wpTill_take false (i := 14) (v := ?_) rfl (by kernel_rfl) (by kernel_rfl) (by kernel_rfl) (fun _ _ _ h => h) (by kernel_rfl) (Or.inl ⟨by rfl, ?_⟩) hHeld (fun hHeld => ?_)
      rotate_left
      · (intro w' hSw; obtain ⟨⟨r1, r2⟩, r3⟩ := hSw; (try have r4 := r3 rfl); (try dsimp only at r1 r2 r4); clear r3; go_simp; try with_reducible rfl)
      try simp only [Act.put, List.setIfInBounds_toArray, List.set_cons_zero, List.set_cons_succ]
      refine wpTill_one (i := 15) (by kernel_rfl) rfl (fun K hK => ?_)
      go_simp
      refine hK _ _ ⟨⟨(BP.out.alloc _).cell, (BC.out.alloc _).cell⟩, fun _ => (BXL.out.alloc _).cell⟩ (fun hHeld => ?_)
      clear hK K
      refine wpTill_one (i := 16) (by kernel_rfl) rfl (fun K hK => ?_)
      go_simp
      refine hK _ _ ⟨⟨((BP.out.alloc _).alloc _).cell, ((BC.out.alloc _).alloc _).cell⟩, fun _ => ((BXL.out.alloc _).alloc _).cell⟩ (fun hHeld => ?_)
      clear hK K
      refine wpTill_one (i := 17) (by kernel_rfl) rfl (fun K hK => ?_)
      refine step_append_lies _ rfl _ _ _ rfl 0 119 i0 (.pointer none) 1 8 (by kernel_rfl) hi hz0 hz1 hz2 rfl (by decide) v k (prow a k) (by rfl) (World.ownsRow.alloc (World.ownsRow.alloc OWN.out _) _) ⟨W1.heap.size + 1, 0, none⟩ 1 1 [.pointer (some ⟨W1.heap.size, 0, none⟩)] (by rw [SZ]; rfl) rfl (World.news_of_block (cs := #[.pointer (some ⟨W1.heap.size, 0, none⟩)]) (by rw [SZ]; exact nb.out _ _)) (by simp [Value.oneCell']) (by omega) (by unfold maxLen; omega) (by omega) (by simp) _ rfl ?_
      intro g cap w2 hown hgrow hat hlt2
      have BX2 := ((BXL.out.alloc _).alloc _).drew.grown hgrow (fun e => NEV.out e.symm)
      refine hK _ _ ⟨⟨(((BP.out.alloc _).alloc _).drew.grown hgrow (fun e => NEP.out e.symm)).cell, (((BC.out.alloc _).alloc _).drew.grown hgrow (fun e => NEC.out e.symm)).cell⟩, fun _ => BX2.cell⟩ (fun hHeld => ?_)
      clear hK K
      simp only [Act.put, List.getElem_toArray, List.getElem_cons_succ, List.getElem_cons_zero, List.setIfInBounds_toArray, List.set_cons_zero, List.set_cons_succ] at hHeld ⊢
      refine wpTill_take false (i := 18) (v := ?_) rfl (by kernel_rfl) (by kernel_rfl) (by kernel_rfl) (fun _ _ _ h => h) (by kernel_rfl) (Or.inl ⟨by rfl, ?_⟩) hHeld (fun hHeld => ?_)
      rotate_left
      · (intro w' hSw; obtain ⟨⟨r1, r2⟩, r3⟩ := hSw; (try have r4 := r3 rfl); (try dsimp only at r1 r2 r4); clear r3; go_simp; try with_reducible rfl)
      try simp only [Act.put, List.setIfInBounds_toArray, List.set_cons_zero, List.set_cons_succ]
      refine wpTill_take false (i := 19) (v := ?_) rfl (by kernel_rfl) (by kernel_rfl) (by kernel_rfl) (fun _ _ _ h => h) (by kernel_rfl) (Or.inl ⟨by rfl, ?_⟩) hHeld (fun hHeld => ?_)
      rotate_left
      · (intro w' hSw; obtain ⟨⟨r1, r2⟩, r3⟩ := hSw; (try have r4 := r3 rfl); (try dsimp only at r1 r2 r4); clear r3; go_simp; try with_reducible rfl)
      try simp only [Act.put, List.setIfInBounds_toArray, List.set_cons_zero, List.set_cons_succ]
      refine wpTill_one (i := 20) (by kernel_rfl) rfl (fun K hK => ?_)
      have bl2 := BX2.cell
      have bf2 := BX2.frozen
      go_simp
      refine hK _ _ ⟨⟨rule_set hHeld.1.1 _ _ (box_ne BP.out BXL.out (by decide)), rule_set hHeld.1.2 _ _ (by simp)⟩, fun h => (by cases h)⟩ (fun hHeld => ?_)
      clear hK K
      refine wpTill_done (by kernel_rfl) ?_ 0
      have S := nw_app S1 hlt hpn (by rw [HQ.out]; exact i8) hown (by rw [HQ.out]; exact hgrow) (by rcases hat with h | h; exact .inl h; exact .inr (by rw [h]; show W1.heap.size + 2 ≤ ((W1.alloc _).alloc _).heap.size; rw [World.size_alloc, World.size_alloc]; omega))
      clear bl2 bf2 hown hgrow hat hHeld BX2 hi hz0 hz1 hz2 nb NEP NEC BP BC BXL NEV OWN p0 p1 p2 p3 p4 p5 p6 p7 p8 p9 p10 bp bl bc BC1 ndp
      go_wp2_with fail
      go_roundw
      case rel => exact ⟨k + 1, _, _, by omega, by go_num, S⟩
      case measure => simp [intOf]; omega
    · obtain rfl : k = c.pn := by omega
      go_wp2_with fail
      go_ret
      exact ⟨v, a, rfl, S.out.ls⟩
end Go.Proofs.Yteikliciijfmmaa.LedE

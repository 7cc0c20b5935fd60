import Derived.Test.YtlafeijkpnpdeaaGreatMg32
import Derived.Test.YtlafeijkpnpdeaaGreatMg6
import Derived.Test.YtlafeijkpnpdeaaGreatMg7
import Derived.Test.YtlafeijkpnpdeaaGreatMg11

/- The law SlotsOnes. -/
namespace Go.Proofs.YtlafeijkpnpdeaaGreat.So2
open Go.RowKit Base Kit RefA WideA WideB RefC Plain Conf Conf2 PowA PowB Vfa Vfb Val Vld Vpa Vpb Vpr Vsh Short Vcf Vch Vci Vnu Vmo Vck Vrp Vl4 FitA FitB FitC NapG Soa Sob Soc Sod Soe Sof Alt Cls Sog Soh Soi Soj Sok Vpl Sow
set_option linter.unusedVariables false
set_option linter.unusedSimpArgs false
/-- with a row's box -/
structure Ly (w0 w : World) (c : ConfC) (rb : Nat) (x0 x1 x2 x3 x4 x5 x6 : Int) : Prop where
  S : Hid (Cs w0 w w0.heap.size c)
  box : Box w rb #[.int .i64 x0, .int .i64 x1, .int .i64 x2, .int .i64 x3, .int .i64 x4, .int .i64 x5, .int .i64 x6] 42
theorem ly_next {w0 w w1 : World} {c : ConfC} {rb : Nat} {x0 x1 x2 x3 x4 x5 x6 : Int} (h : Hid (Ly w0 w c rb x0 x1 x2 x3 x4 x5 x6)) (k : Below w.heap.size w w1) : Hid (Ly w0 w1 c rb x0 x1 x2 x3 x4 x5 x6) := Lib.hid ⟨cs_next h.out.S k, h.out.box.next k⟩
set_option maxRecDepth 100000 in
set_option maxHeartbeats 4000000 in
theorem ones_law (c : ConfC) (mode k : Int) (w : World) (ok : c.Ok w) (hcap : c.w.ln ≤ c.w.lc ∧ c.w.lc ≤ 9223372036854775807) (i0 : -9223372036854775808 ≤ mode ∧ mode ≤ 9223372036854775807) (i1 : -9223372036854775808 ≤ k ∧ k ≤ 9223372036854775807) : Calls Tryz.prog 4 #[.agg #[.slice c.pa c.pn c.pc, .slice c.ca c.cn c.cc, .slice c.ma c.mn c.mc, .slice c.w.la c.w.ln c.w.lc, .slice c.w.na c.w.nn c.w.nc, .int .i64 c.w.sw, .int .i64 c.w.id, .int .i64 c.w.ch, .int .i64 c.w.qu, .int .i64 c.w.sl, .int .i64 c.w.pp, .slice c.da c.dn c.dc, .slice c.ua c.un c.uc], .int .i64 mode, .int .i64 k] w fun e w' => e = .returned (.bool true) ∧ Below w.heap.size w w' := by
  have OK := Lib.hid (fun w' (h : Below w.heap.size w w') => ok.below h (Nat.le_refl _))
  have CS := Lib.hid (fun w' (h : c.Ok w') => short_any c w' h)
  have CW := Lib.hid (fun w' => works_any w')
  have S := cs_in w c
  have bc := S.out.box.cell
  go_enter Tryz.func4, Tryz.ntmps4
  go_wp2_with fail
  generalize w.alloc (.cells #[.slice c.pa c.pn c.pc, .slice c.ca c.cn c.cc, .slice c.ma c.mn c.mc, .slice c.w.la c.w.ln c.w.lc, .slice c.w.na c.w.nn c.w.nc, .int .i64 c.w.sw, .int .i64 c.w.id, .int .i64 c.w.ch, .int .i64 c.w.qu, .int .i64 c.w.sl, .int .i64 c.w.pp, .slice c.da c.dn c.dc, .slice c.ua c.un c.uc] 33) = W at *
  refine (CS.out _ (OK.out _ S.out.bel)).mono ?_
  rintro e1 w5 ⟨b, hb, rfl, k5⟩
  have S := cs_next S k5
  clear k5 bc
  have bc := S.out.box.cell
  cases b
  · clear hb
    go_wp2_with fail
    refine (CW.out _).mono ?_
    rintro e1 w5 ⟨rfl, k5⟩
    have S := cs_next S k5
    clear k5 bc
    have bc := S.out.box.cell
    go_wp2_with fail
    go_ret
    exact ⟨rfl, S.out.bel⟩
  have sh := hb.1 rfl
  obtain ⟨r, hr⟩ : ∃ r, isW c mode k = r := ⟨_, rfl⟩
  cases r
  · have C1 := Lib.hid (fun w' (h : c.Ok w') => Findr_any c mode k false 0 0 0 0 0 0 0 w' h sh (Lib.hid hr) (Lib.hid (if_neg (by decide))))
    have C2 := Lib.hid (fun w' (h : c.Ok w') => Spare_any c mode k false 0 2 w' h (Lib.hid hr) (Lib.hid (if_neg (by decide))))
    have C3 := Lib.hid (fun w' (h : c.Ok w') => Gap_any c mode k false 0 2 w' h sh (Lib.hid hr) (Lib.hid (if_neg (by decide))))
    have C4 := Lib.hid (fun w' (h : c.Ok w') => Lowest_any c mode k false (-1) w' h hcap (Lib.hid hr) (Lib.hid (if_neg (by decide))))
    clear hr hb sh ok CS
    go_wp2_with fail
    refine (C1.out _ (OK.out _ S.out.bel)).mono ?_
    rintro e1 w5 ⟨rfl, k5⟩
    have S := cs_next S k5
    clear k5 bc
    have S := cs_alloc S (.cells #[.int .i64 0, .int .i64 0, .int .i64 0, .int .i64 0, .int .i64 0, .int .i64 0, .int .i64 0] 42)
    have bc := S.out.box.cell
    go_wp2_with fail
    refine (C2.out _ (OK.out _ S.out.bel)).mono ?_
    rintro e1 w5 ⟨rfl, k5⟩
    have S := cs_next S k5
    clear k5 bc
    have bc := S.out.box.cell
    go_wp2_with fail
    refine (C3.out _ (OK.out _ S.out.bel)).mono ?_
    rintro e1 w5 ⟨rfl, k5⟩
    have S := cs_next S k5
    clear k5 bc
    have bc := S.out.box.cell
    go_wp2_with fail
    refine (C4.out _ (OK.out _ S.out.bel)).mono ?_
    rintro e1 w5 ⟨rfl, k5⟩
    have S := cs_next S k5
    clear k5 bc
    have bc := S.out.box.cell
    go_wp2_with fail
    refine (CW.out _).mono ?_
    rintro e1 w5 ⟨rfl, k5⟩
    have S := cs_next S k5
    clear k5 bc
    have bc := S.out.box.cell
    go_wp2_with fail
    go_ret
    exact ⟨rfl, S.out.bel⟩
  · obtain ⟨x0, x1, x2, x3, x4, x5, x6, hx⟩ : ∃ x0 x1 x2 x3 x4 x5 x6 : Int, rv c (mode.toNat, k.toNat) = [.int .i64 x0, .int .i64 x1, .int .i64 x2, .int .i64 x3, .int .i64 x4, .int .i64 x5, .int .i64 x6] := ⟨_, _, _, _, _, _, _, rfl⟩
    have h3 : lowP c ((c.m mode.toNat).wf k.toNat 0) ((c.m mode.toNat).wf k.toNat 2) = x3 ∧ spareP c ((c.m mode.toNat).wf k.toNat 0) ((c.m mode.toNat).wf k.toNat 2) = x4 ∧ gapP (c.m mode.toNat) k.toNat = x5 := by
      unfold rv at hx
      simp only [List.cons.injEq, Value.int.injEq, true_and, and_true] at hx
      exact ⟨hx.2.2.2.1, hx.2.2.2.2.1, hx.2.2.2.2.2.1⟩
    have C1 := Lib.hid (fun w' (h : c.Ok w') => Findr_any c mode k true x0 x1 x2 x3 x4 x5 x6 w' h sh (Lib.hid hr) (Lib.hid ((if_pos rfl).trans hx)))
    have C2 := Lib.hid (fun w' (h : c.Ok w') => Spare_any c mode k true x4 0 w' h (Lib.hid hr) (Lib.hid (by rw [if_pos rfl, wv_yes, wv_yes, h3.2.1])))
    have C3 := Lib.hid (fun w' (h : c.Ok w') => Gap_any c mode k true x5 0 w' h sh (Lib.hid hr) (Lib.hid (by rw [if_pos rfl, h3.2.2])))
    have C4 := Lib.hid (fun w' rb (h : Hid (Ly w w' c rb x0 x1 x2 x3 x4 x5 x6)) => (Lowest_any c mode k true x3 w' (OK.out w' h.out.S.out.bel) hcap (Lib.hid hr) (Lib.hid (by rw [if_pos rfl, wv_yes, wv_yes, h3.1]))).mono (R' := fun e w'' => e = .returned (.int .i64 x3) ∧ Hid (Ly w w'' c rb x0 x1 x2 x3 x4 x5 x6)) fun e w2 hh => ⟨hh.1, ly_next h hh.2⟩)
    have C5 := Lib.hid (fun w' rb (h : Hid (Ly w w' c rb x0 x1 x2 x3 x4 x5 x6)) => (works_any w').mono (R' := fun e w'' => e = .returned (.bool true) ∧ Hid (Ly w w'' c rb x0 x1 x2 x3 x4 x5 x6)) fun e w2 hh => ⟨hh.1, ly_next h hh.2⟩)
    clear hr hb sh ok CS hx h3
    go_wp2_with fail
    refine (C1.out _ (OK.out _ S.out.bel)).mono ?_
    rintro e1 w5 ⟨rfl, k5⟩
    have S := cs_next S k5
    clear k5 bc
    have S : Hid (Ly w (w5.alloc (.cells #[.int .i64 x0, .int .i64 x1, .int .i64 x2, .int .i64 x3, .int .i64 x4, .int .i64 x5, .int .i64 x6] 42)) c w5.heap.size x0 x1 x2 x3 x4 x5 x6) := Lib.hid ⟨cs_alloc S _, Box.new _ _ _⟩
    have bc := S.out.S.out.box.cell
    go_wp2_with fail
    generalize w5.alloc (.cells #[.int .i64 x0, .int .i64 x1, .int .i64 x2, .int .i64 x3, .int .i64 x4, .int .i64 x5, .int .i64 x6] 42) = W6 at *
    generalize w5.heap.size = rb at *
    refine (C2.out _ (OK.out _ S.out.S.out.bel)).mono ?_
    rintro e1 w5 ⟨rfl, k5⟩
    have S := ly_next S k5
    clear k5 bc
    have bc := S.out.S.out.box.cell
    go_wp2_with fail
    refine (C3.out _ (OK.out _ S.out.S.out.bel)).mono ?_
    rintro e1 w5 ⟨rfl, k5⟩
    have S := ly_next S k5
    clear k5 bc
    have bc := S.out.S.out.box.cell
    go_wp2_with fail
    have S := ly_next S (Below.refl _ _).drew
    refine cls_region (fun w' => Hid (Ly w w' c rb x0 x1 x2 x3 x4 x5 x6)) (by kernel_rfl) (by kernel_rfl) S ?_
    repeat
      (first
        | (refine Cls.cls_take (v := ?_) (by rfl) (fun w' hC => ?_) ?_
           rotate_left
           · (have r1 := hC.out.S.out.box.cell; have r2 := hC.out.box.cell
              (go_simp)
              try (first
                | done
                | (with_reducible rfl)
                | (first | exact C4.out _ _ hC | exact C5.out _ _ hC))))
        | refine Cls.cls_skip (by rfl) ?_)
      try simp only [Act.put, List.setIfInBounds_toArray, List.set_cons_zero, List.set_cons_succ, List.getElem_toArray, List.getElem_cons_succ, List.getElem_cons_zero]
    refine wpQuiet_nil ?_
    clear S C4 C5
    intro w6 S
    go_wp2_with fail
    go_ret
    exact ⟨rfl, S.out.S.out.bel⟩
end Go.Proofs.YtlafeijkpnpdeaaGreat.So2

/- SlotsOnes: the law holds, for every input. -/
namespace Go.Proofs.YtlafeijkpnpdeaaGreat.slotsOnes
open Go.ChangeShapes Go.WideShapes Go.ChangeAt Go.RowKit
set_option linter.unusedVariables false

theorem own : ownKnob Tryz.prog.godebug = none := by kernel_rfl

set_option maxRecDepth 100000 in
theorem lifted (os : Os) (started : os.Started) (H : Type) (enc : TypeId × Value → H) :
    ReturnsInHanded {} Tryz.checked os 4 .any (Rows.slotsOnesSpec.pre6 enc Tryz.prog Tryz.f4 Rows.slotsOnesRow.domain false) (Rows.slotsOnesSpec.post enc Tryz.prog Tryz.f4 false true false false) := by
  refine returnsInHanded_of_change (C := Tryz.checked) own started (by kernel_rfl) Tryz.func4
    (ChangeSpec.witness6 (enc := enc) (C := Tryz.checked) false ⟨#[], #[.agg #[.slice none 0 0, .slice none 0 0, .slice none 0 0, .slice none 0 0, .slice none 0 0, .int .i64 0, .int .i64 0, .int .i64 0, .int .i64 0, .int .i64 0, .int .i64 0, .slice none 0 0, .slice none 0 0], .int .i64 0, .int .i64 0], []⟩ 8 (by kernel_rfl) (by kernel_rfl) (by kernel_rfl) (by kernel_rfl)) ?_
  intro W base args ds gs before hval0 hW hcnd _
  have hval : ∀ (j : Nat) t v, Tryz.f4.params[j]? = some t → args[j]? = some v → Value.okWide Tryz.prog W .any base t v := hval0
  have hW' := hW
  obtain ⟨p, q, hA0, hV, rfl, hfz, hnd⟩ := hW
  have hA : DataW.TrodAll enc Tryz.prog W 0 (fun _ => true) true Tryz.f4.params.toList args.toList ds p := hA0
  rw [Tryz.params4] at hA hval
  obtain ⟨v0, vs0, d0, ds0, p0, q0, hargs, rfl, rfl, h0, r0⟩ := trodAll_cons hA
  obtain ⟨v1, vs1, d1, ds1, p1, q1, rfl, rfl, rfl, h1, r1⟩ := trodAll_cons r0
  obtain ⟨v2, vs2, d2, ds2, p2, q2, rfl, rfl, rfl, h2, r2⟩ := trodAll_cons r1
  obtain ⟨rfl, rfl, rfl⟩ := trodAll_nil r2
  obtain rfl : args = #[v0, v1, v2] := by cases args; simp_all
  obtain ⟨rfl, rfl⟩ := trodVars_none hV
  obtain ⟨cs0, rfl, hsz0⟩ := okWide_struct Tryz.underlying33 (hval 0 33 v0 rfl rfl)
  obtain ⟨fuel0, hf0⟩ := h0
  obtain ⟨c0, e0, ok0⟩ := Conf2.conf_in hf0
  have cap0 := Cap.conf_cap hf0 c0 e0
  obtain rfl := Conf.agg_list e0
  obtain ⟨a1, rfl, rfl, rfl, w1⟩ := open_int Tryz.underlying3 (hval 1 3 v1 rfl rfl) h1
  obtain ⟨a2, rfl, rfl, rfl, w2⟩ := open_int Tryz.underlying3 (hval 2 3 v2 rfl rfl) h2
  clear hA0 hval0
  refine (So2.ones_law c0 a1 a2 W ok0 cap0 (Lift.bd64 w1) (Lift.bd64 w2)).mono fun e W' ⟨he, hg⟩ => ?_
  subst he
  exact ⟨_, rfl, Lift.law_post (by kernel_rfl) (by kernel_rfl) Tryz.underlying4 rfl rfl hW' rfl rfl rfl hg⟩

theorem over : Rows.slotsOnesRow.holds Tryz.pinned (OpenSpec.ofChange Rows.slotsOnesSpec) :=
  OpenClaim.holds_of_wide 4 Tryz.f4 rfl rfl rfl rfl rfl rfl rfl ⟨rfl, rfl, rfl, rfl, rfl⟩ rfl rfl rfl rfl rfl (by kernel_rfl) Tryz.func4 (by kernel_rfl)
    (of_decide_eq_true (by kernel_rfl)) (by unfold Func.isWrapper; first | (rw [if_pos (by decide +kernel)]; kernel_rfl) | (rw [if_neg (by decide +kernel)]; exact ⟨rfl, rfl⟩))
    (fun os started H enc _ => lifted os started H enc)

theorem proved : Rows.SlotsOnesSaid :=
  over
end Go.Proofs.YtlafeijkpnpdeaaGreat.slotsOnes

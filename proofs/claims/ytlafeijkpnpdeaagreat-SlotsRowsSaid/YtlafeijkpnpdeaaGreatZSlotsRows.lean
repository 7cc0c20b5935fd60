import Derived.Test.YtlafeijkpnpdeaaGreatMg32
import Derived.Test.YtlafeijkpnpdeaaGreatMg6
import Derived.Test.YtlafeijkpnpdeaaGreatMg7
import Derived.Test.YtlafeijkpnpdeaaGreatMg11

/- The law SlotsRows. -/
namespace Go.Proofs.YtlafeijkpnpdeaaGreat.So1
open Go.RowKit Base Kit RefA WideA WideB RefC Plain Conf Conf2 PowA PowB Vfa Vfb Val Vld Vpa Vpb Vpr Vsh Short Vcf Vch Vci Vnu Vmo Vck Vrp Vl4 FitA FitB FitC NapG Soa Sob Soc Sod Soe Sof Alt Cls Sog Soh Soi Soj Sok Vpl Sow
set_option linter.unusedVariables false
set_option linter.unusedSimpArgs false
def RowL (w : World) (T : TypeId) (v : Value) (c : ConfC) : Prop := w.ownsRow 0 T 7 v (rowsL c).length (encR c (rowsL c))
theorem rowl_of {w : World} {B : Nat} {T : TypeId} {v : Value} {c : ConfC} (h : w.ownsRow B T 7 v (rowsL c).length (encR c (rowsL c))) : Hid (RowL w T v c) := Lib.hid (own_base h (fun g _ => Nat.zero_le _))
theorem rowl_next {w w1 : World} {T : TypeId} {v : Value} {c : ConfC} (h : Hid (RowL w T v c)) (k : Below w.heap.size w w1) : Hid (RowL w1 T v c) := Lib.hid (own_below h.out k)
/-- two rows' lists -/
structure Lx (w0 w : World) (c : ConfC) (v1 v2 : Value) : Prop where
  bel : Below w0.heap.size w0 w
  l1 : Hid (RowL w 41 v1 c)
  l2 : Hid (RowL w 42 v2 c)
theorem lx_next {w0 w w1 : World} {c : ConfC} {v1 v2 : Value} (h : Hid (Lx w0 w c v1 v2)) (k : Below w.heap.size w w1) : Hid (Lx w0 w1 c v1 v2) := Lib.hid ⟨below_next h.out.bel k, rowl_next h.out.l1 k, rowl_next h.out.l2 k⟩
def RA (w : World) (g i : Nat) (x0 x1 x2 x3 x4 x5 x6 : Int) : Prop := w.cell? ⟨g, i * 7, none⟩ = some (.int .i64 x0) ∧ w.cell? ⟨g, i * 7 + 1, none⟩ = some (.int .i64 x1) ∧ w.cell? ⟨g, i * 7 + 2, none⟩ = some (.int .i64 x2) ∧
    w.cell? ⟨g, i * 7 + 3, none⟩ = some (.int .i64 x3) ∧ w.cell? ⟨g, i * 7 + 4, none⟩ = some (.int .i64 x4) ∧
    w.cell? ⟨g, i * 7 + 5, none⟩ = some (.int .i64 x5) ∧ w.cell? ⟨g, i * 7 + 6, none⟩ = some (.int .i64 x6)
theorem ra_next {w w1 : World} {g i B : Nat} {x0 x1 x2 x3 x4 x5 x6 : Int} (h : RA w g i x0 x1 x2 x3 x4 x5 x6) (k : Below B w w1) (hlt : g < B) : RA w1 g i x0 x1 x2 x3 x4 x5 x6 := by
  obtain ⟨h0, h1, h2, h3, h4, h5, h6⟩ := h
  exact ⟨keep k h0 hlt, keep k h1 hlt, keep k h2 hlt, keep k h3 hlt, keep k h4 hlt, keep k h5 hlt, keep k h6 hlt⟩
theorem rows_len {c : ConfC} (sh : Sh c) : (rowsL c).length ≤ 10000 := by
  unfold rowsL
  split
  · have := prs_bd (c := c) sh.2.2 c.mn (Nat.le_refl _); have := sh.1.2.2.1; omega
  · simp
set_option maxRecDepth 100000 in
set_option maxHeartbeats 4000000 in
theorem rows_law (c : ConfC) (w : World) (ok : c.Ok w) (hcap : c.w.ln ≤ c.w.lc ∧ c.w.lc ≤ 9223372036854775807) : Calls Tryz.prog 3 #[.agg #[.slice c.pa c.pn c.pc, .slice c.ca c.cn c.cc, .slice c.ma c.mn c.mc, .slice c.w.la c.w.ln c.w.lc, .slice c.w.na c.w.nn c.w.nc, .int .i64 c.w.sw, .int .i64 c.w.id, .int .i64 c.w.ch, .int .i64 c.w.qu, .int .i64 c.w.sl, .int .i64 c.w.pp, .slice c.da c.dn c.dc, .slice c.ua c.un c.uc]] w fun e w' => e = .returned (.bool true) ∧ Below w.heap.size w w' := by
  have OK := Lib.hid (fun w' (h : Below w.heap.size w w') => ok.below h (Nat.le_refl _))
  have CS := Lib.hid (fun w' (h : c.Ok w') => short_any c w' h)
  have CW := Lib.hid (fun w' => works_any w')
  have S := cs_in w c
  have bc := S.out.box.cell
  go_enter Tryz.func3, Tryz.ntmps3
  go_wp2_with fail
  generalize w.alloc (.cells #[.slice c.pa c.pn c.pc, .slice c.ca c.cn c.cc, .slice c.ma c.mn c.mc, .slice c.w.la c.w.ln c.w.lc, .slice c.w.na c.w.nn c.w.nc, .int .i64 c.w.sw, .int .i64 c.w.id, .int .i64 c.w.ch, .int .i64 c.w.qu, .int .i64 c.w.sl, .int .i64 c.w.pp, .slice c.da c.dn c.dc, .slice c.ua c.un c.uc] 33) = W at *
  refine (CS.out _ (OK.out _ S.out.bel)).mono ?_
  rintro e1 w5 ⟨b, hb, rfl, k5⟩
  have S := cs_next S k5
  clear k5 bc
  have bc := S.out.box.cell
  cases b
  · clear hb
    go_wp2_with fail
    refine (CW.out _).mono ?_
    rintro e1 w5 ⟨rfl, k5⟩
    have S := cs_next S k5
    clear k5 bc
    have bc := S.out.box.cell
    go_wp2_with fail
    go_ret
    exact ⟨rfl, S.out.bel⟩
  have sh := hb.1 rfl
  have LB := rows_len sh
  have C1 := Lib.hid (fun w' (h : c.Ok w') => Rows_any c w' h hcap sh)
  have C2 := Lib.hid (fun w' (h : c.Ok w') => Rowsr_any c w' h sh)
  clear hb sh ok hcap CS
  go_wp2_with fail
  have S := cs_next S (Below.refl _ _).drew
  clear bc
  have bc := S.out.box.cell
  go_region_held3 (fun w' => ∀ i, w'.cell? ⟨w.heap.size, i, none⟩ = (#[.slice c.pa c.pn c.pc, .slice c.ca c.cn c.cc, .slice c.ma c.mn c.mc, .slice c.w.la c.w.ln c.w.lc, .slice c.w.na c.w.nn c.w.nc, .int .i64 c.w.sw, .int .i64 c.w.id, .int .i64 c.w.ch, .int .i64 c.w.qu, .int .i64 c.w.sl, .int .i64 c.w.pp, .slice c.da c.dn c.dc, .slice c.ua c.un c.uc] : Array Value)[i]?)
    (first
      | exact r5
      | exact bc)
    (first
      | (go_at_call 9; refine (C1.out _ (OK.out _ (by exact S.out.bel))).mono ?_; rintro e1 w5 ⟨v1, rfl, own1, k5⟩; have L1 := rowl_of own1; clear own1; (try have L2 := rowl_next L2 k5); have S5 := cs_next S k5; clear S k5; have S := S5; clear S5; have r5 := S.out.box.cell)
      | (go_at_call 10; refine (C2.out _ (OK.out _ (by exact S.out.bel))).mono ?_; rintro e1 w5 ⟨v2, rfl, own2, k5⟩; have L2 := rowl_of own2; clear own2; (try have L1 := rowl_next L1 k5); have S5 := cs_next S k5; clear S k5; have S := S5; clear S5; have r5 := S.out.box.cell))
  all_goals
    clear bc r5 C1 C2
    obtain ⟨a1, p1, rfl⟩ := own_val L1.out
    obtain ⟨a2, p2, rfl⟩ := own_val L2.out
    obtain ⟨n, hn⟩ : ∃ n, (rowsL c).length = n := ⟨_, rfl⟩
    have HN := Lib.hid hn
    rw [hn] at LB L1 L2 ⊢
    clear hn OK
    have LL : Hid (Lx w _ c (.slice a1 n p1) (.slice a2 n p2)) := Lib.hid ⟨S.out.bel, L1, L2⟩
    clear S L1 L2
    go_wp2_with fail
    go_loopw [5] (fun i wr => ∃ q : Nat, q ≤ n ∧ i = .int .i64 q ∧ Hid (Lx w wr c (.slice a1 n p1) (.slice a2 n p2))) (fun i _ => n - (intOf i).toNat)
    case atStart => exact ⟨0, by omega, rfl, LL⟩
    case round =>
      clear LL
      obtain ⟨q, hq, rfl, LL⟩ := hrel
      by_cases hl : q < n
      · obtain ⟨g1, cap1, e1, lt1, qq1⟩ := row_at LL.out.l1.out q (by rw [HN.out]; exact hl)
        obtain ⟨g2, cap2, e2, lt2, qq2⟩ := row_at LL.out.l2.out q (by rw [HN.out]; exact hl)
        simp only [Value.slice.injEq] at e1 e2
        obtain ⟨rfl, -, rfl⟩ := e1
        obtain ⟨rfl, -, rfl⟩ := e2
        obtain ⟨x2, x3, x4, x5, x6, e⟩ := rv_form c ((rowsL c)[q]'(by rw [HN.out]; exact hl))
        have u := qq1 _ _ _ _ _ _ _ e
        have v := qq2 _ _ _ _ _ _ _ e
        clear qq1 qq2 e
        generalize ((((rowsL c)[q]'(by rw [HN.out]; exact hl)).1 : Nat) : Int) = x0 at *
        generalize ((((rowsL c)[q]'(by rw [HN.out]; exact hl)).2 : Nat) : Int) = x1 at *
        have SK := Lib.hid (fun (w' : World) (h : Below wr.heap.size wr w') => show RA w' g1 q x0 x1 x2 x3 x4 x5 x6 ∧ RA w' g2 q x0 x1 x2 x3 x4 x5 x6 from ⟨ra_next u h lt1, ra_next v h lt2⟩)
        have HBD := Lib.hid ((Below.refl wr.heap.size wr).drew)
        clear u v
        go_wp2_with fail
        go_region_held3 (fun w' => w'.cell? ⟨g1, q * 7, none⟩ = some (.int .i64 x0) ∧ w'.cell? ⟨g1, q * 7 + 1, none⟩ = some (.int .i64 x1) ∧ w'.cell? ⟨g1, q * 7 + 2, none⟩ = some (.int .i64 x2) ∧ w'.cell? ⟨g1, q * 7 + 3, none⟩ = some (.int .i64 x3) ∧ w'.cell? ⟨g1, q * 7 + 4, none⟩ = some (.int .i64 x4) ∧ w'.cell? ⟨g1, q * 7 + 5, none⟩ = some (.int .i64 x5) ∧ w'.cell? ⟨g1, q * 7 + 6, none⟩ = some (.int .i64 x6) ∧ w'.cell? ⟨g2, q * 7, none⟩ = some (.int .i64 x0) ∧ w'.cell? ⟨g2, q * 7 + 1, none⟩ = some (.int .i64 x1) ∧ w'.cell? ⟨g2, q * 7 + 2, none⟩ = some (.int .i64 x2) ∧ w'.cell? ⟨g2, q * 7 + 3, none⟩ = some (.int .i64 x3) ∧ w'.cell? ⟨g2, q * 7 + 4, none⟩ = some (.int .i64 x4) ∧ w'.cell? ⟨g2, q * 7 + 5, none⟩ = some (.int .i64 x5) ∧ w'.cell? ⟨g2, q * 7 + 6, none⟩ = some (.int .i64 x6))
          (first
            | exact (SK.out _ (by repeat (first | exact HBD.out | exact Below.refl _ _ | refine Below.drew ?_ | refine Below.setCell ?_ (by simp) _ | refine Below.alloc ?_ (by first | exact Nat.le_refl _ | simp) _))).elim (fun h1 h2 => ⟨h1.1, h1.2.1, h1.2.2.1, h1.2.2.2.1, h1.2.2.2.2.1, h1.2.2.2.2.2.1, h1.2.2.2.2.2.2, h2⟩))
          (fail)
        all_goals
          have HB2 : Hid (∀ o1 o2 : Obj, Below wr.heap.size wr ((wr.alloc o1).alloc o2).drew) := Lib.hid (fun o1 o2 => (((Below.refl wr.heap.size wr).alloc (Nat.le_refl _) o1).alloc (by simp) o2).drew)
          clear SK HBD
          go_wp2_with fail
          go_roundw
          case rel => exact ⟨q + 1, by omega, by go_num, lx_next LL (HB2.out _ _)⟩
          case measure => simp [intOf]; omega
      · obtain rfl : q = n := by omega
        go_wp2_with fail
        refine (CW.out _).mono ?_
        rintro e1 w7 ⟨rfl, k7⟩
        go_wp2_with fail
        go_ret
        exact ⟨rfl, below_next LL.out.bel k7⟩
end Go.Proofs.YtlafeijkpnpdeaaGreat.So1

/- SlotsRows: the law holds, for every input. -/
namespace Go.Proofs.YtlafeijkpnpdeaaGreat.slotsRows
open Go.ChangeShapes Go.WideShapes Go.ChangeAt Go.RowKit
set_option linter.unusedVariables false

theorem own : ownKnob Tryz.prog.godebug = none := by kernel_rfl

set_option maxRecDepth 100000 in
theorem lifted (os : Os) (started : os.Started) (H : Type) (enc : TypeId × Value → H) :
    ReturnsInHanded {} Tryz.checked os 3 .any (Rows.slotsRowsSpec.pre6 enc Tryz.prog Tryz.f3 Rows.slotsRowsRow.domain false) (Rows.slotsRowsSpec.post enc Tryz.prog Tryz.f3 false true false false) := by
  refine returnsInHanded_of_change (C := Tryz.checked) own started (by kernel_rfl) Tryz.func3
    (ChangeSpec.witness6 (enc := enc) (C := Tryz.checked) false ⟨#[], #[.agg #[.slice none 0 0, .slice none 0 0, .slice none 0 0, .slice none 0 0, .slice none 0 0, .int .i64 0, .int .i64 0, .int .i64 0, .int .i64 0, .int .i64 0, .int .i64 0, .slice none 0 0, .slice none 0 0]], []⟩ 8 (by kernel_rfl) (by kernel_rfl) (by kernel_rfl) (by kernel_rfl)) ?_
  intro W base args ds gs before hval0 hW hcnd _
  have hval : ∀ (j : Nat) t v, Tryz.f3.params[j]? = some t → args[j]? = some v → Value.okWide Tryz.prog W .any base t v := hval0
  have hW' := hW
  obtain ⟨p, q, hA0, hV, rfl, hfz, hnd⟩ := hW
  have hA : DataW.TrodAll enc Tryz.prog W 0 (fun _ => true) true Tryz.f3.params.toList args.toList ds p := hA0
  rw [Tryz.params3] at hA hval
  obtain ⟨v0, vs0, d0, ds0, p0, q0, hargs, rfl, rfl, h0, r0⟩ := trodAll_cons hA
  obtain ⟨rfl, rfl, rfl⟩ := trodAll_nil r0
  obtain rfl : args = #[v0] := by cases args; simp_all
  obtain ⟨rfl, rfl⟩ := trodVars_none hV
  obtain ⟨cs0, rfl, hsz0⟩ := okWide_struct Tryz.underlying33 (hval 0 33 v0 rfl rfl)
  obtain ⟨fuel0, hf0⟩ := h0
  obtain ⟨c0, e0, ok0⟩ := Conf2.conf_in hf0
  have cap0 := Cap.conf_cap hf0 c0 e0
  obtain rfl := Conf.agg_list e0
  clear hA0 hval0
  refine (So1.rows_law c0 W ok0 cap0).mono fun e W' ⟨he, hg⟩ => ?_
  subst he
  exact ⟨_, rfl, Lift.law_post (by kernel_rfl) (by kernel_rfl) Tryz.underlying4 rfl rfl hW' rfl rfl rfl hg⟩

theorem over : Rows.slotsRowsRow.holds Tryz.pinned (OpenSpec.ofChange Rows.slotsRowsSpec) :=
  OpenClaim.holds_of_wide 3 Tryz.f3 rfl rfl rfl rfl rfl rfl rfl ⟨rfl, rfl, rfl, rfl, rfl⟩ rfl rfl rfl rfl rfl (by kernel_rfl) Tryz.func3 (by kernel_rfl)
    (of_decide_eq_true (by kernel_rfl)) (by unfold Func.isWrapper; first | (rw [if_pos (by decide +kernel)]; kernel_rfl) | (rw [if_neg (by decide +kernel)]; exact ⟨rfl, rfl⟩))
    (fun os started H enc _ => lifted os started H enc)

theorem proved : Rows.SlotsRowsSaid :=
  over
end Go.Proofs.YtlafeijkpnpdeaaGreat.slotsRows

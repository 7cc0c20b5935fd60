import Derived.Test.YtlafeijkpnpdeaaGreatMg32
import Derived.Test.YtlafeijkpnpdeaaGreatMg21
import Derived.Test.YtlafeijkpnpdeaaGreatMg6
import Derived.Test.YtlafeijkpnpdeaaGreatMg7
import Derived.Test.YtlafeijkpnpdeaaGreatMg11

/- The law SlotsRows. -/
namespace Go.Proofs.YtlafeijkpnpdeaaGreat.So1
open Go.RowKit Base Kit RefA WideA WideB RefC Plain Conf Conf2 PowA PowB Vfa Vfb Val Vld Vpa Vpb Vpr Vsh Short Vcf Vch Vci Vnu Vmo Vck Vrp Vl4 FitA FitB FitC NapG Soa Sob Soc Sod Soe Sof Alt Cls Sog Soh Soi Soj Sok Vpl Sow
set_option linter.unusedVariables false
set_option linter.unusedSimpArgs false
def RowL (w : World) (T : TypeId) (v : Value) (c : ConfC) : Prop := w.ownsRow 0 T 7 v (rowsL c).length (encR c (rowsL c))
theorem rowl_of {w : World} {B : Nat} {T : TypeId} {v : Value} {c : ConfC} (h : w.ownsRow B T 7 v (rowsL c).length (encR c (rowsL c))) : Hid (RowL w T v c) := Lib.hid (own_base h (fun g _ => Nat.zero_le _))
theorem rowl_next {w w1 : World} {T : TypeId} {v : Value} {c : ConfC} (h : Hid (RowL w T v c)) (k : Below w.heap.size w w1) : Hid (RowL w1 T v c) := Lib.hid (own_below h.out k)
/-- two rows' lists -/
structure Lx (w0 w : World) (c : ConfC) (v1 v2 : Value) : Prop where
  bel : Below w0.heap.size w0 w
  l1 : Hid (RowL w 41 v1 c)
  l2 : Hid (RowL w 42 v2 c)
theorem lx_next {w0 w w1 : World} {c : ConfC} {v1 v2 : Value} (h : Hid (Lx w0 w c v1 v2)) (k : Below w.heap.size w w1) : Hid (Lx w0 w1 c v1 v2) := Lib.hid ⟨below_next h.out.bel k, rowl_next h.out.l1 k, rowl_next h.out.l2 k⟩
def RA (w : World) (g i : Nat) (x0 x1 x2 x3 x4 x5 x6 : Int) : Prop := w.cell? ⟨g, i * 7, none⟩ = some (.int .i64 x0) ∧ w.cell? ⟨g, i * 7 + 1, none⟩ = some (.int .i64 x1) ∧ w.cell? ⟨g, i * 7 + 2, none⟩ = some (.int .i64 x2) ∧
    w.cell? ⟨g, i * 7 + 3, none⟩ = some (.int .i64 x3) ∧ w.cell? ⟨g, i * 7 + 4, none⟩ = some (.int .i64 x4) ∧
    w.cell? ⟨g, i * 7 + 5, none⟩ = some (.int .i64 x5) ∧ w.cell? ⟨g, i * 7 + 6, none⟩ = some (.int .i64 x6)
theorem ra_next {w w1 : World} {g i B : Nat} {x0 x1 x2 x3 x4 x5 x6 : Int} (h : RA w g i x0 x1 x2 x3 x4 x5 x6) (k : Below B w w1) (hlt : g < B) : RA w1 g i x0 x1 x2 x3 x4 x5 x6 := by
  obtain ⟨h0, h1, h2, h3, h4, h5, h6⟩ := h
  exact ⟨keep k h0 hlt, keep k h1 hlt, keep k h2 hlt, keep k h3 hlt, keep k h4 hlt, keep k h5 hlt, keep k h6 hlt⟩
theorem rows_len {c : ConfC} (sh : Sh c) : (rowsL c).length ≤ 10000 := by
  unfold rowsL
  split
  · have := prs_bd (c := c) sh.2.2 c.mn (Nat.le_refl _); have := sh.1.2.2.1; omega
  · simp
set_option maxRecDepth 100000 in
set_option maxHeartbeats 4000000 in
theorem rows_law (c : ConfC) (w : World) (ok : c.Ok w) (hcap : c.w.ln ≤ c.w.lc ∧ c.w.lc ≤ 9223372036854775807) : Calls Tryz.prog 3 #[.agg #[.slice c.pa c.pn c.pc, .slice c.ca c.cn c.cc, .slice c.ma c.mn c.mc, .slice c.w.la c.w.ln c.w.lc, .slice c.w.na c.w.nn c.w.nc, .int .i64 c.w.sw, .int .i64 c.w.id, .int .i64 c.w.ch, .int .i64 c.w.qu, .int .i64 c.w.sl, .int .i64 c.w.pp, .slice c.da c.dn c.dc, .slice c.ua c.un c.uc]] w fun e w' => e = .returned (.bool true) ∧ Below w.heap.size w w' := by
  have OK := Lib.hid (fun w' (h : Below w.heap.size w w') => ok.below h (Nat.le_refl _))
  have CS := Lib.hid (fun w' (h : c.Ok w') => short_any c w' h)
  have CW := Lib.hid (fun w' => works_any w')
  have S := cs_in w c
  have bc := S.out.box.cell
  go_enter Tryz.func3, Tryz.ntmps3
  go_wp2_with fail
  generalize w.alloc (.cells #[.slice c.pa c.pn c.pc, .slice c.ca c.cn c.cc, .slice c.ma c.mn c.mc, .slice c.w.la c.w.ln c.w.lc, .slice c.w.na c.w.nn c.w.nc, .int .i64 c.w.sw, .int .i64 c.w.id, .int .i64 c.w.ch, .int .i64 c.w.qu, .int .i64 c.w.sl, .int .i64 c.w.pp, .slice c.da c.dn c.dc, .slice c.ua c.un c.uc] 33) = W at *
  refine (CS.out _ (OK.out _ S.out.bel)).mono ?_
  rintro e1 w5 ⟨b, hb, rfl, k5⟩
  have S := cs_next S k5
  clear k5 bc
  have bc := S.out.box.cell
  cases b
  · clear hb
    go_wp2_with fail
    refine (CW.out _).mono ?_
    rintro e1 w5 ⟨rfl, k5⟩
    have S := cs_next S k5
    clear k5 bc
    have bc := S.out.box.cell
    go_wp2_with fail
    go_ret
    exact ⟨rfl, S.out.bel⟩
  have sh := hb.1 rfl
  have LB := rows_len sh
  have C1 := Lib.hid (fun w' (h : c.Ok w') => Rows_any c w' h hcap sh)
  have C2 := Lib.hid (fun w' (h : c.Ok w') => Rowsr_any c w' h sh)
  clear hb sh ok hcap CS
  go_wp2_with fail
  have S := cs_next S (Below.refl _ _).drew
  clear bc
  have bc := S.out.box.cell
  go_region_held3 (fun w' => ∀ i, w'.cell? ⟨w.heap.size, i, none⟩ = (#[.slice c.pa c.pn c.pc, .slice c.ca c.cn c.cc, .slice c.ma c.mn c.mc, .slice c.w.la c.w.ln c.w.lc, .slice c.w.na c.w.nn c.w.nc, .int .i64 c.w.sw, .int .i64 c.w.id, .int .i64 c.w.ch, .int .i64 c.w.qu, .int .i64 c.w.sl, .int .i64 c.w.pp, .slice c.da c.dn c.dc, .slice c.ua c.un c.uc] : Array Value)[i]?)
    (first
      | exact r5
      | exact bc)
    (first
      | (go_at_call 9; refine (C1.out _ (OK.out _ (by exact S.out.bel))).mono ?_; rintro e1 w5 ⟨v1, rfl, own1, k5⟩; have L1 := rowl_of own1; clear own1; (try have L2 := rowl_next L2 k5); have S5 := cs_next S k5; clear S k5; have S := S5; clear S5; have r5 := S.out.box.cell)
      | (go_at_call 10; refine (C2.out _ (OK.out _ (by exact S.out.bel))).mono ?_; rintro e1 w5 ⟨v2, rfl, own2, k5⟩; have L2 := rowl_of own2; clear own2; (try have L1 := rowl_next L1 k5); have S5 := cs_next S k5; clear S k5; have S := S5; clear S5; have r5 := S.out.box.cell))
  all_goals
    clear bc r5 C1 C2
    obtain ⟨a1, p1, rfl⟩ := own_val L1.out
    obtain ⟨a2, p2, rfl⟩ := own_val L2.out
    obtain ⟨n, hn⟩ : ∃ n, (rowsL c).length = n := ⟨_, rfl⟩
    have HN := Lib.hid hn
    rw [hn] at LB L1 L2 ⊢
    clear hn OK
    have LL : Hid (Lx w _ c (.slice a1 n p1) (.slice a2 n p2)) := Lib.hid ⟨S.out.bel, L1, L2⟩
    clear S L1 L2
    go_wp2_with fail
    go_loopw [5] (fun i wr => ∃ q : Nat, q ≤ n ∧ i = .int .i64 q ∧ Hid (Lx w wr c (.slice a1 n p1) (.slice a2 n p2))) (fun i _ => n - (intOf i).toNat)
    case atStart => exact ⟨0, by omega, rfl, LL⟩
    case round =>
      clear LL
      obtain ⟨q, hq, rfl, LL⟩ := hrel
      by_cases hl : q < n
      · obtain ⟨g1, cap1, e1, lt1, qq1⟩ := row_at LL.out.l1.out q (by rw [HN.out]; exact hl)
        obtain ⟨g2, cap2, e2, lt2, qq2⟩ := row_at LL.out.l2.out q (by rw [HN.out]; exact hl)
        simp only [Value.slice.injEq] at e1 e2
        obtain ⟨rfl, -, rfl⟩ := e1
        obtain ⟨rfl, -, rfl⟩ := e2
        obtain ⟨x2, x3, x4, x5, x6, e⟩ := rv_form c ((rowsL c)[q]'(by rw [HN.out]; exact hl))
        have u := qq1 _ _ _ _ _ _ _ e
        have v := qq2 _ _ _ _ _ _ _ e
        clear qq1 qq2 e
        generalize ((((rowsL c)[q]'(by rw [HN.out]; exact hl)).1 : Nat) : Int) = x0 at *
        generalize ((((rowsL c)[q]'(by rw [HN.out]; exact hl)).2 : Nat) : Int) = x1 at *
        have SK := Lib.hid (fun (w' : World) (h : Below wr.heap.size wr w') => show RA w' g1 q x0 x1 x2 x3 x4 x5 x6 ∧ RA w' g2 q x0 x1 x2 x3 x4 x5 x6 from ⟨ra_next u h lt1, ra_next v h lt2⟩)
        have HBD := Lib.hid ((Below.refl wr.heap.size wr).drew)
        clear u v
        go_wp2_with fail
        go_region_held3 (fun w' => w'.cell? ⟨g1, q * 7, none⟩ = some (.int .i64 x0) ∧ w'.cell? ⟨g1, q * 7 + 1, none⟩ = some (.int .i64 x1) ∧ w'.cell? ⟨g1, q * 7 + 2, none⟩ = some (.int .i64 x2) ∧ w'.cell? ⟨g1, q * 7 + 3, none⟩ = some (.int .i64 x3) ∧ w'.cell? ⟨g1, q * 7 + 4, none⟩ = some (.int .i64 x4) ∧ w'.cell? ⟨g1, q * 7 + 5, none⟩ = some (.int .i64 x5) ∧ w'.cell? ⟨g1, q * 7 + 6, none⟩ = some (.int .i64 x6) ∧ w'.cell? ⟨g2, q * 7, none⟩ = some (.int .i64 x0) ∧ w'.cell? ⟨g2, q * 7 + 1, none⟩ = some (.int .i64 x1) ∧ w'.cell? ⟨g2, q * 7 + 2, none⟩ = some (.int .i64 x2) ∧ w'.cell? ⟨g2, q * 7 + 3, none⟩ = some (.int .i64 x3) ∧ w'.cell? ⟨g2, q * 7 + 4, none⟩ = some (.int .i64 x4) ∧ w'.cell? ⟨g2, q * 7 + 5, none⟩ = some (.int .i64 x5) ∧ w'.cell? ⟨g2, q * 7 + 6, none⟩ = some (.int .i64 x6))
          (first
            | exact (SK.out _ (by repeat (first | exact HBD.out | exact Below.refl _ _ | refine Below.drew ?_ | refine Below.setCell ?_ (by simp) _ | refine Below.alloc ?_ (by first | exact Nat.le_refl _ | simp) _))).elim (fun h1 h2 => ⟨h1.1, h1.2.1, h1.2.2.1, h1.2.2.2.1, h1.2.2.2.2.1, h1.2.2.2.2.2.1, h1.2.2.2.2.2.2, h2⟩))
          (fail)
        all_goals
          have HB2 : Hid (∀ o1 o2 : Obj, Below wr.heap.size wr ((wr.alloc o1).alloc o2).drew) := Lib.hid (fun o1 o2 => (((Below.refl wr.heap.size wr).alloc (Nat.le_refl _) o1).alloc (by simp) o2).drew)
          clear SK HBD
          go_wp2_with fail
          go_roundw
          case rel => exact ⟨q + 1, by omega, by go_num, lx_next LL (HB2.out _ _)⟩
          case measure => simp [intOf]; omega
      · obtain rfl : q = n := by omega
        go_wp2_with fail
        refine (CW.out _).mono ?_
        rintro e1 w7 ⟨rfl, k7⟩
        go_wp2_with fail
        go_ret
        exact ⟨rfl, below_next LL.out.bel k7⟩
end Go.Proofs.YtlafeijkpnpdeaaGreat.So1

/- Slots: which levels are enough; plain. -/
namespace Go.Proofs.YtlafeijkpnpdeaaGreat.Soq
open Go.RowKit Base Kit RefA WideA WideB RefC Plain Conf Conf2 PowA PowB Vfa Vfb Val Vld Vpa Vpb Vpr Vsh Short Vcf Vch Vci Vnu Vmo Vck Vrp Vl4 FitA FitB FitC NapG Soa Sob Soc Sod Soe Sof Alt Cls Sog Soh Soi Soj Sok Vpl Sow Sop
set_option linter.unusedVariables false
set_option linter.unusedSimpArgs false
theorem pow_of {c : ConfC} (h : (CheckR c).1 = 0) : (powR c.w).1 = 0 := by
  unfold CheckR at h
  split at h
  · exact (thn_ok (thn_ok h).2).1
  · cases h
theorem lf_step {p : PowC} (h : (powR p).1 = 0) {k : Nat} (hk : k + 1 < p.ln) : p.lf k 0 ≤ p.lf (k + 1) 0 := by
  have l := lvB_bd ((LvlA.pow_ok h).2.2.1 (k + 1) hk)
  have e : ah p.lf (k + 1) 0 = p.lf k 0 := by simp only [ah, Nat.add_sub_cancel, if_neg (Nat.succ_ne_zero k)]
  rw [e] at l
  omega
theorem lf_mono {p : PowC} (h : (powR p).1 = 0) {j k : Nat} (hjk : j ≤ k) (hk : k < p.ln) : p.lf j 0 ≤ p.lf k 0 := by
  induction hjk with
  | refl => exact Int.le_refl _
  | step h1 ih => exact Int.le_trans (ih (by omega)) (lf_step h hk)
theorem tm_mono {f g c : Int} (hf : 1 ≤ f) (hfg : f ≤ g) (h0 : 0 ≤ c) : LvlA.tm g c ≤ LvlA.tm f c := by
  have b := (LvlA.tm_bd hf h0).1
  have h1 : c * 1000 ≤ LvlA.tm f c * f := (ceil_le _ _ _ hf).1 (Int.le_refl _)
  have h2 : LvlA.tm f c * f ≤ LvlA.tm f c * g := Int.mul_le_mul_of_nonneg_left hfg b
  exact (ceil_le _ _ _ (by omega)).2 (Int.le_trans h1 h2)
theorem nR_tm {c : ConfC} (h : (CheckR c).1 = 0) {x0 : Int} (h0 : 0 ≤ x0) (h1 : x0 < (c.pn : Int)) {j : Nat} (hj : j < c.w.ln) : nR c x0 j = LvlA.tm (c.w.lf j 0) (capP c x0) + c.w.sw := by
  have g := gl_of h
  have k := cap_bd h h0 h1
  unfold nR
  rw [LvlA.md_tm' (g.fq j hj).1 (by omega) (by omega)]
/-- what SlotsEnough asks of a window -/
structure En (c : ConfC) (x0 x2 : Int) (q : Nat) : Prop where
  low : lowP c x0 x2 = q
  lt : q < c.w.ln
  fit : ∀ tt, q ≤ tt → tt < c.w.ln → nR c x0 tt ≤ x2
  sp : 0 ≤ spareP c x0 x2
theorem en_of {c : ConfC} (h : (CheckR c).1 = 0) {i k : Nat} (hi : i < c.mn) (hk : k < (c.m i).wn) : ∃ q, En c ((c.m i).wf k 0) ((c.m i).wf k 2) q := by
  have g := (check_good h).mode i hi
  have b := win_bd g.1 g.2.1 hk
  have l := gl_of h
  have f := g.2.2 k hk
  have e : top c.w.ln c.w.lf 0 = c.w.lf (c.w.ln - 1) 0 := by unfold top; rw [if_neg (by have := l.ln; omega)]
  have f2 : fitL c ((c.m i).wf k 0) ((c.m i).wf k 2) (c.w.ln - 1) = true := by
    unfold fitP at f; rw [e] at f; exact f
  generalize (c.m i).wf k 0 = x0 at *
  generalize (c.m i).wf k 2 = x2 at *
  rcases dn_spec (P := fitL c x0 x2) (n := c.w.ln) c.w.ln (Nat.le_refl _) with ⟨-, hn⟩ | ⟨q, e2, h1, h2, h3, h4⟩
  · rw [hn (c.w.ln - 1) (by omega) (by have := l.ln; omega)] at f2; cases f2
  · have hfit : ∀ tt, q ≤ tt → tt < c.w.ln → nR c x0 tt ≤ x2 := fun tt a b2 => by
      rw [fit_nR h (by omega) (by omega) h2] at h3
      have h5 := of_decide_eq_true h3
      rw [nR_tm h (by omega) (by omega) h2] at h5
      rw [nR_tm h (by omega) (by omega) b2]
      have := tm_mono (l.fq q h2).1 (lf_mono (pow_of h) a b2) (show 0 ≤ capP c x0 by have := cap_bd h (x0 := x0) (by omega) (by omega); omega)
      omega
    refine ⟨q, lowP_hit (fun j hj => h4 j (by omega) hj) h3 h2, h2, hfit, ?_⟩
    rw [spare_nR h (by omega) (by omega)]
    have := hfit (c.w.ln - 1) (by omega) (by omega)
    omega
theorem gap_nn {c : ConfC} (h : (CheckR c).1 = 0) {i k : Nat} (hi : i < c.mn) (hk : k < (c.m i).wn) : 0 ≤ gapP (c.m i) k := by
  have g := (check_good h).mode i hi
  unfold gapP
  by_cases h1 : k + 1 < (c.m i).wn
  · rw [if_pos h1]
    have b := win_bd g.1 g.2.1 h1
    simp only [ahI] at b
    omega
  · rw [if_neg h1]
    have b := g.2.1 k hk
    unfold winP winB at b
    simp only [Bool.and_eq_true, inB_iff] at b
    omega
/-- a Cap's end, from any level -/
theorem end_le {c : ConfC} (h : (CheckR c).1 = 0) {x0 x2 : Int} {q : Nat} (e : En c x0 x2 q) (h0 : 0 ≤ x0) (h1 : x0 < (c.pn : Int)) {lv tt : Nat} (hl : lv < c.w.ln) (ht : tt < c.w.ln) (hq : q ≤ tt) :
    ∃ n, LvlC.endR c.w ⟨0, 0, 0, (lv : Int), capP c x0⟩ (tt : Int) = (n, 0) ∧ n ≤ x2 := by
  have k := cap_bd h h0 h1
  have l := gl_of h
  have f := e.fit tt hq ht
  rw [nR_tm h h0 h1 ht] at f
  have b := LvlA.tm_bd (l.fq tt ht).1 (show 0 ≤ capP c x0 by omega)
  refine ⟨LvlA.endP c.w ⟨0, 0, 0, (lv : Int), capP c x0⟩ tt, ?_, ?_⟩
  · unfold LvlC.endR
    rw [if_pos ⟨⟨pow_of h, by simp, by simpa using hl, by simp, by simp, by simp, by simp, by simp, by simp only; omega, by simp only; omega⟩, by omega, by omega⟩, Int.toNat_natCast]
  · unfold LvlA.endP
    have := l.sw
    simp only [Int.zero_add]
    split
    · split <;> omega
    · omega
end Go.Proofs.YtlafeijkpnpdeaaGreat.Soq

/- The law SlotsEnough. -/
namespace Go.Proofs.YtlafeijkpnpdeaaGreat.So4
open Go.RowKit Base Kit RefA WideA WideB RefC Plain Conf Conf2 PowA PowB Vfa Vfb Val Vld Vpa Vpb Vpr Vsh Short Vcf Vch Vci Vnu Vmo Vck Vrp Vl4 FitA FitB FitC NapG Soa Sob Soc Sod Soe Sof Alt Cls Sog Soh Soi Soj Sok Vpl Sow So1 Sop Soq
set_option linter.unusedVariables false
set_option linter.unusedSimpArgs false
/-- the configuration, and the rows -/
structure E1 (w0 w : World) (c : ConfC) (v : Value) : Prop where
  S : Hid (Cs w0 w w0.heap.size c)
  own : Hid (RowL w 41 v c)
theorem e1_next {w0 w w1 : World} {c : ConfC} {v : Value} (h : Hid (E1 w0 w c v)) (k : Below w.heap.size w w1) : Hid (E1 w0 w1 c v) := Lib.hid ⟨cs_next h.out.S k, rowl_next h.out.own k⟩
/-- a row in a variable -/
structure E7 (w0 w : World) (c : ConfC) (v : Value) (rb i k q : Nat) (x2 x4 x5 x6 : Int) : Prop where
  E : Hid (E1 w0 w c v)
  row : Box w rb #[.int .i64 (i : Int), .int .i64 (k : Int), .int .i64 x2, .int .i64 (q : Int), .int .i64 x4, .int .i64 x5, .int .i64 x6] 41
theorem e7_next {w0 w w1 : World} {c : ConfC} {v : Value} {rb i k q : Nat} {x2 x4 x5 x6 : Int} (h : Hid (E7 w0 w c v rb i k q x2 x4 x5 x6)) (b : Below w.heap.size w w1) : Hid (E7 w0 w1 c v rb i k q x2 x4 x5 x6) := Lib.hid ⟨e1_next h.out.E b, h.out.row.next b⟩
/-- a row, and a window, in variables -/
structure E2 (w0 w : World) (c : ConfC) (v : Value) (rb wb i k q : Nat) (x2 x4 x5 x6 y1 y2 : Int) : Prop where
  E : Hid (E1 w0 w c v)
  row : Box w rb #[.int .i64 (i : Int), .int .i64 (k : Int), .int .i64 x2, .int .i64 (q : Int), .int .i64 x4, .int .i64 x5, .int .i64 x6] 41
  win : Box w wb #[.int .i64 x2, .int .i64 y1, .int .i64 y2] 54
theorem e2_next {w0 w w1 : World} {c : ConfC} {v : Value} {rb wb i k q : Nat} {x2 x4 x5 x6 y1 y2 : Int} (h : Hid (E2 w0 w c v rb wb i k q x2 x4 x5 x6 y1 y2)) (b : Below w.heap.size w w1) : Hid (E2 w0 w1 c v rb wb i k q x2 x4 x5 x6 y1 y2) := Lib.hid ⟨e1_next h.out.E b, h.out.row.next b, h.out.win.next b⟩
/-- and a state -/
structure E3 (w0 w : World) (c : ConfC) (v : Value) (rb wb xb i k q lv : Nat) (x2 x4 x5 x6 y1 y2 cap : Int) : Prop where
  E : Hid (E2 w0 w c v rb wb i k q x2 x4 x5 x6 y1 y2)
  st : Box w xb #[.int .i64 0, .int .i64 0, .int .i64 0, .int .i64 (lv : Int), .int .i64 cap] 63
theorem e3_next {w0 w w1 : World} {c : ConfC} {v : Value} {rb wb xb i k q lv : Nat} {x2 x4 x5 x6 y1 y2 cap : Int} (h : Hid (E3 w0 w c v rb wb xb i k q lv x2 x4 x5 x6 y1 y2 cap)) (b : Below w.heap.size w w1) : Hid (E3 w0 w1 c v rb wb xb i k q lv x2 x4 x5 x6 y1 y2 cap) := Lib.hid ⟨e2_next h.out.E b, h.out.st.next b⟩
/-- what a row has -/
theorem row_of {c : ConfC} (h : (CheckR c).1 = 0) {z : Nat × Nat} (hz : z ∈ rowsL c) : ∃ (i k q : Nat) (x2 x4 x5 x6 : Int), z = (i, k) ∧ i < c.mn ∧ k < (c.m i).wn ∧ (c.m i).wf k 0 = x2 ∧ 0 ≤ x2 ∧ x2 < (c.pn : Int) ∧ En c x2 ((c.m i).wf k 2) q ∧ 0 ≤ x4 ∧ 0 ≤ x5 ∧
    rv c z = [.int .i64 (i : Int), .int .i64 (k : Int), .int .i64 x2, .int .i64 (q : Int), .int .i64 x4, .int .i64 x5, .int .i64 x6] := by
  obtain ⟨i, k⟩ := z
  obtain ⟨_, hi, hk⟩ := mem_rows.1 hz
  obtain ⟨q, en⟩ := en_of h hi hk
  have g := (check_good h).mode i hi
  have b := win_bd g.1 g.2.1 hk
  refine ⟨i, k, q, (c.m i).wf k 0, spareP c ((c.m i).wf k 0) ((c.m i).wf k 2), gapP (c.m i) k, BestR c.w 0 (gapP (c.m i) k), rfl, hi, hk, rfl, b.1, b.2.1, en, en.sp, gap_nn h hi hk, ?_⟩
  unfold rv
  rw [en.low]
set_option maxRecDepth 100000 in
set_option maxHeartbeats 8000000 in
theorem enough_law (c : ConfC) (w : World) (ok : c.Ok w) (hcap : c.w.ln ≤ c.w.lc ∧ c.w.lc ≤ 9223372036854775807) : Calls Tryz.prog 5 #[.agg #[.slice c.pa c.pn c.pc, .slice c.ca c.cn c.cc, .slice c.ma c.mn c.mc, .slice c.w.la c.w.ln c.w.lc, .slice c.w.na c.w.nn c.w.nc, .int .i64 c.w.sw, .int .i64 c.w.id, .int .i64 c.w.ch, .int .i64 c.w.qu, .int .i64 c.w.sl, .int .i64 c.w.pp, .slice c.da c.dn c.dc, .slice c.ua c.un c.uc]] w fun e w' => e = .returned (.bool true) ∧ Below w.heap.size w w' := by
  have HOK := Lib.hid ok
  have OK := Lib.hid (fun w' (h : Below w.heap.size w w') => ok.below h (Nat.le_refl _))
  have CS := Lib.hid (fun w' (h : c.Ok w') => short_any c w' h)
  have CW := Lib.hid (fun w' => works_any w')
  have S := cs_in w c
  have bc := S.out.box.cell
  go_enter Tryz.func5, Tryz.ntmps5
  go_wp2_with fail
  generalize w.alloc (.cells #[.slice c.pa c.pn c.pc, .slice c.ca c.cn c.cc, .slice c.ma c.mn c.mc, .slice c.w.la c.w.ln c.w.lc, .slice c.w.na c.w.nn c.w.nc, .int .i64 c.w.sw, .int .i64 c.w.id, .int .i64 c.w.ch, .int .i64 c.w.qu, .int .i64 c.w.sl, .int .i64 c.w.pp, .slice c.da c.dn c.dc, .slice c.ua c.un c.uc] 33) = W at *
  refine (CS.out _ (OK.out _ S.out.bel)).mono ?_
  rintro e1 w5 ⟨b, hb, rfl, k5⟩
  have S := cs_next S k5
  clear k5 bc
  have bc := S.out.box.cell
  cases b
  · clear hb
    go_wp2_with fail
    refine (CW.out _).mono ?_
    rintro e1 w5 ⟨rfl, k5⟩
    have S := cs_next S k5
    clear k5 bc
    have bc := S.out.box.cell
    go_wp2_with fail
    go_ret
    exact ⟨rfl, S.out.bel⟩
  have sh := hb.1 rfl
  have LB := rows_len sh
  clear hb CS
  by_cases hv : (CheckR c).1 = 0
  rotate_left
  · have CM := Lib.hid (fun w' (h : c.Ok w') => May_any c w' false h (Lib.hid (by simpa using hv)))
    clear hv sh ok hcap LB
    go_wp2_with fail
    refine (CM.out _ (OK.out _ S.out.bel)).mono ?_
    rintro e1 w5 ⟨rfl, k5⟩
    have S := cs_next S k5
    clear k5 bc
    have bc := S.out.box.cell
    go_wp2_with fail
    refine (CW.out _).mono ?_
    rintro e1 w5 ⟨rfl, k5⟩
    have S := cs_next S k5
    clear k5 bc
    have bc := S.out.box.cell
    go_wp2_with fail
    go_ret
    exact ⟨rfl, S.out.bel⟩
  have CM := Lib.hid (fun w' (h : c.Ok w') => May_any c w' true h (Lib.hid (by simpa using hv)))
  have C1 := Lib.hid (fun w' (h : c.Ok w') => Rows_any c w' h hcap sh)
  have HV := Lib.hid hv
  have HLN := (gl_of hv).ln
  clear hv sh ok hcap
  go_wp2_with fail
  refine (CM.out _ (OK.out _ S.out.bel)).mono ?_
  rintro e1 w5 ⟨rfl, k5⟩
  have S := cs_next S k5
  clear k5 bc
  have bc := S.out.box.cell
  go_wp2_with fail
  refine (C1.out _ (OK.out _ S.out.bel)).mono ?_
  rintro e1 w5 ⟨v1, rfl, own1, k5⟩
  have L1 := rowl_of own1
  have S := cs_next S k5
  clear k5 bc own1 C1 CM
  obtain ⟨a1, p1, rfl⟩ := own_val L1.out
  obtain ⟨n, hn⟩ : ∃ n, (rowsL c).length = n := ⟨_, rfl⟩
  have HN := Lib.hid hn
  rw [hn] at LB L1 ⊢
  clear hn
  have EE : Hid (E1 w _ c (.slice a1 n p1)) := Lib.hid ⟨S, L1⟩
  clear S L1
  go_wp2_with fail
  go_loopw [4] (fun i wr => ∃ t : Nat, t ≤ n ∧ i = .int .i64 t ∧ Hid (E1 w wr c (.slice a1 n p1))) (fun i _ => n - (intOf i).toNat)
  case atStart => exact ⟨0, by omega, rfl, EE⟩
  case round =>
    clear EE
    obtain ⟨t, ht, rfl, EE⟩ := hrel
    by_cases hl : t < n
    · obtain ⟨g1, cap1, e1, lt1, qq1⟩ := row_at EE.out.own.out t (by rw [HN.out]; exact hl)
      simp only [Value.slice.injEq] at e1
      obtain ⟨rfl, -, rfl⟩ := e1
      obtain ⟨i, k, q, x2, x4, x5, x6, hz, hi, hk, hx2, hp0, hp1, en, h4, h5, e⟩ := row_of HV.out (List.getElem_mem (show t < (rowsL c).length by rw [HN.out]; exact hl))
      obtain ⟨r0, r1, r2, r3, r4, r5, r6⟩ := qq1 _ _ _ _ _ _ _ e
      clear qq1 e hz
      have hmn := HOK.out.modes.out.1
      have hpn := HOK.out.parts.out.1
      obtain ⟨b, off, ea, hlt, m0, m1⟩ := mode_cells HOK.out i hi
      obtain ⟨b3, o3, ea3, hlt3, pc⟩ := cap_at HOK.out hp0 hp1
      obtain ⟨b2, o2, e2, hlt2, u0, u1, u2, i0, i1, i2⟩ := rows_at3 (HOK.out.mode i hi).win k hk
      have hwn := (HOK.out.mode i hi).win.out.1
      have CE := Lib.hid (fun (lv tt : Nat) (h1 : lv < c.w.ln) (h2 : tt < c.w.ln) (h3 : q ≤ tt) => (end_le HV.out en hp0 hp1 h1 h2 h3 : ∃ z, LvlC.endR c.w ⟨0, 0, 0, (lv : Int), capP c x2⟩ (tt : Int) = (z, 0) ∧ z ≤ (c.m i).wf k 2))
      have hq := en.lt
      clear en
      rw [hx2] at u0
      rw [e2] at m1
      generalize (c.m i).wf k 1 = y1 at *
      generalize (c.m i).wf k 2 = y2 at *
      generalize (c.m i).wn = wn at *
      generalize (c.m i).wc = wc at *
      clear i0 hx2 e2
      replace ea := Lib.hid ea
      replace ea3 := Lib.hid ea3
      generalize capP c x2 = cap at *
      have BC := Lib.hid (fun w' (h : Hid (Cs w w' w.heap.size c)) => (by have := h.out.box.cell; rw [ea.out, ea3.out] at this; exact this : ∀ i, w'.cell? ⟨w.heap.size, i, none⟩ = (#[.slice (some ⟨b3, o3, none⟩) c.pn c.pc, .slice c.ca c.cn c.cc, .slice (some ⟨b, off, none⟩) c.mn c.mc, .slice c.w.la c.w.ln c.w.lc, .slice c.w.na c.w.nn c.w.nc, .int .i64 c.w.sw, .int .i64 c.w.id, .int .i64 c.w.ch, .int .i64 c.w.qu, .int .i64 c.w.sl, .int .i64 c.w.pp, .slice c.da c.dn c.dc, .slice c.ua c.un c.uc] : Array Value)[i]?))
      have MC := Lib.hid (fun w' (h : Hid (Cs w w' w.heap.size c)) => (⟨keep h.out.bel m1 hlt, keep h.out.bel u0 hlt2, keep h.out.bel u1 hlt2, keep h.out.bel u2 hlt2⟩ : w'.cell? ⟨b, off + i * 2 + 1, none⟩ = some (.slice (some ⟨b2, o2, none⟩) wn wc) ∧ w'.cell? ⟨b2, o2 + k * 3, none⟩ = some (.int .i64 x2) ∧ w'.cell? ⟨b2, o2 + k * 3 + 1, none⟩ = some (.int .i64 y1) ∧ w'.cell? ⟨b2, o2 + k * 3 + 2, none⟩ = some (.int .i64 y2)))
      have PC := Lib.hid (fun w' (h : Hid (Cs w w' w.heap.size c)) => keep h.out.bel pc hlt3)
      clear m0 m1 u0 u1 u2 pc
      have S7 : Hid (E7 w (wr.alloc (.cells #[.int .i64 (i : Int), .int .i64 (k : Int), .int .i64 x2, .int .i64 (q : Int), .int .i64 x4, .int .i64 x5, .int .i64 x6] 41)) c (.slice (some ⟨g1, 0, none⟩) n p1) wr.heap.size i k q x2 x4 x5 x6) := Lib.hid ⟨e1_next EE ((Below.refl wr.heap.size wr).alloc (Nat.le_refl _) _), Box.new _ _ _⟩
      go_wp2_with fail
      generalize wr.alloc (.cells #[.int .i64 (i : Int), .int .i64 (k : Int), .int .i64 x2, .int .i64 (q : Int), .int .i64 x4, .int .i64 x5, .int .i64 x6] 41) = W7 at *
      generalize wr.heap.size = rb at *
      clear EE
      have S7 := e7_next S7 (Below.refl _ _).drew
      refine Cls.cls_region (fun w' => Hid (E7 w w' c (.slice (some ⟨g1, 0, none⟩) n p1) rb i k q x2 x4 x5 x6)) (by kernel_rfl) (by kernel_rfl) S7 ?_
      clear r0 r1 r2 r3 r4 r5 r6
      have d0 : decide ((q : Int) < 0) = false := decide_eq_false (by omega)
      have d1 : decide (c.w.ln ≤ q) = false := decide_eq_false (by omega)
      have d2 : decide (x4 < 0) = false := decide_eq_false (by omega)
      have d3 : decide (x5 < 0) = false := decide_eq_false (by omega)
      have d4 : decide (x2 < 0) = false := decide_eq_false (by omega)
      have d5 : decide ((c.pn : Int) ≤ x2) = false := decide_eq_false (by omega)
      have d6 : decide ((i : Int) < 0) = false := decide_eq_false (by omega)
      have d7 : decide (c.mn ≤ i) = false := decide_eq_false (by omega)
      have d8 : decide ((k : Int) < 0) = false := decide_eq_false (by omega)
      have d9 : decide (wn ≤ k) = false := decide_eq_false (by omega)
      repeat
        (first
          | (refine Cls.cls_take (v := ?_) (by rfl) (fun w' hC => ?_) ?_
             rotate_left
             · (have s1 := hC.out.row.cell; have s2 := BC.out _ hC.out.E.out.S; have s3 := (MC.out _ hC.out.E.out.S).1
                (go_simp)
                try (first
                  | done
                  | (with_reducible rfl)
                  | fail)))
          | refine Cls.cls_skip (by rfl) ?_)
        try simp only [Act.put, List.setIfInBounds_toArray, List.set_cons_zero, List.set_cons_succ, List.getElem_toArray, List.getElem_cons_succ, List.getElem_cons_zero]
      refine wpQuiet_nil ?_
      clear S7 d0 d1 d2 d3 d4 d5 d6 d7 d8 d9
      intro w6 S7
      go_wp2_with fail
      have SK := Lib.hid (fun (w' : World) (h : Below w6.heap.size w6 w') => have D := e7_next S7 h; (⟨BC.out _ D.out.E.out.S, D.out.row.cell, (MC.out _ D.out.E.out.S).1, (MC.out _ D.out.E.out.S).2.1, (MC.out _ D.out.E.out.S).2.2.1, (MC.out _ D.out.E.out.S).2.2.2⟩ : (∀ i, w'.cell? ⟨w.heap.size, i, none⟩ = (#[.slice (some ⟨b3, o3, none⟩) c.pn c.pc, .slice c.ca c.cn c.cc, .slice (some ⟨b, off, none⟩) c.mn c.mc, .slice c.w.la c.w.ln c.w.lc, .slice c.w.na c.w.nn c.w.nc, .int .i64 c.w.sw, .int .i64 c.w.id, .int .i64 c.w.ch, .int .i64 c.w.qu, .int .i64 c.w.sl, .int .i64 c.w.pp, .slice c.da c.dn c.dc, .slice c.ua c.un c.uc] : Array Value)[i]?) ∧ (∀ j, w'.cell? ⟨rb, j, none⟩ = (#[.int .i64 (i : Int), .int .i64 (k : Int), .int .i64 x2, .int .i64 (q : Int), .int .i64 x4, .int .i64 x5, .int .i64 x6] : Array Value)[j]?) ∧ w'.cell? ⟨b, off + i * 2 + 1, none⟩ = some (.slice (some ⟨b2, o2, none⟩) wn wc) ∧ w'.cell? ⟨b2, o2 + k * 3, none⟩ = some (.int .i64 x2) ∧ w'.cell? ⟨b2, o2 + k * 3 + 1, none⟩ = some (.int .i64 y1) ∧ w'.cell? ⟨b2, o2 + k * 3 + 2, none⟩ = some (.int .i64 y2)))
      go_region_held3 (fun w' => (∀ i, w'.cell? ⟨w.heap.size, i, none⟩ = (#[.slice (some ⟨b3, o3, none⟩) c.pn c.pc, .slice c.ca c.cn c.cc, .slice (some ⟨b, off, none⟩) c.mn c.mc, .slice c.w.la c.w.ln c.w.lc, .slice c.w.na c.w.nn c.w.nc, .int .i64 c.w.sw, .int .i64 c.w.id, .int .i64 c.w.ch, .int .i64 c.w.qu, .int .i64 c.w.sl, .int .i64 c.w.pp, .slice c.da c.dn c.dc, .slice c.ua c.un c.uc] : Array Value)[i]?) ∧ (∀ j, w'.cell? ⟨rb, j, none⟩ = (#[.int .i64 (i : Int), .int .i64 (k : Int), .int .i64 x2, .int .i64 (q : Int), .int .i64 x4, .int .i64 x5, .int .i64 x6] : Array Value)[j]?) ∧ w'.cell? ⟨b, off + i * 2 + 1, none⟩ = some (.slice (some ⟨b2, o2, none⟩) wn wc) ∧ w'.cell? ⟨b2, o2 + k * 3, none⟩ = some (.int .i64 x2) ∧ w'.cell? ⟨b2, o2 + k * 3 + 1, none⟩ = some (.int .i64 y1) ∧ w'.cell? ⟨b2, o2 + k * 3 + 2, none⟩ = some (.int .i64 y2))
        (exact SK.out _ (by repeat (first | exact Below.refl _ _ | refine Below.drew ?_ | refine Below.setCell ?_ (by simp) _ | refine Below.alloc ?_ (by first | exact Nat.le_refl _ | simp) _)))
        (fail)
      have E22 : Hid (E2 w (w6.alloc (.cells #[.int .i64 x2, .int .i64 y1, .int .i64 y2] 54)).drew c (.slice (some ⟨g1, 0, none⟩) n p1) rb w6.heap.size i k q x2 x4 x5 x6 y1 y2) :=
        e2_next (Lib.hid ⟨e1_next S7.out.E ((Below.refl _ _).alloc (Nat.le_refl _) _), S7.out.row.alloc _, Box.new _ _ _⟩) (Below.refl _ _).drew
      clear SK S7 MC
      generalize (w6.alloc (.cells #[.int .i64 x2, .int .i64 y1, .int .i64 y2] 54)).drew = W8 at *
      generalize w6.heap.size = wb at *
      go_wp2_with fail
      go_loopw [7] (fun l wl => ∃ lv : Nat, lv ≤ c.w.ln ∧ l = .int .i64 lv ∧ Hid (E2 w wl c (.slice (some ⟨g1, 0, none⟩) n p1) rb wb i k q x2 x4 x5 x6 y1 y2)) (fun l _ => c.w.ln - (intOf l).toNat)
      case atStart => exact ⟨0, by omega, rfl, E22⟩
      case round =>
        clear E22
        obtain ⟨lv, hlv, rfl, E22⟩ := hrel
        have bc := BC.out _ E22.out.E.out.S
        have br := E22.out.row.cell
        by_cases hl2 : lv < c.w.ln
        · have pc := PC.out _ E22.out.E.out.S
          have E33 : Hid (E3 w (wr.alloc (.cells #[.int .i64 0, .int .i64 0, .int .i64 0, .int .i64 (lv : Int), .int .i64 cap] 63)) c (.slice (some ⟨g1, 0, none⟩) n p1) rb wb wr.heap.size i k q lv x2 x4 x5 x6 y1 y2 cap) :=
            Lib.hid ⟨e2_next E22 ((Below.refl _ _).alloc (Nat.le_refl _) _), Box.new _ _ _⟩
          have br2 := E33.out.E.out.row.cell
          go_wp2_with fail
          clear bc br pc br2 E22
          generalize wr.alloc (.cells #[.int .i64 0, .int .i64 0, .int .i64 0, .int .i64 (lv : Int), .int .i64 cap] 63) = W9 at *
          generalize wr.heap.size = xb at *
          go_loopw [9] (fun j wj => ∃ tt : Nat, q ≤ tt ∧ tt ≤ c.w.ln ∧ j = .int .i64 tt ∧ Hid (E3 w wj c (.slice (some ⟨g1, 0, none⟩) n p1) rb wb xb i k q lv x2 x4 x5 x6 y1 y2 cap)) (fun j _ => c.w.ln - (intOf j).toNat)
          case atStart => exact ⟨q, by omega, by omega, rfl, E33⟩
          case round =>
            clear E33
            obtain ⟨tt, hq1, hq2, rfl, E33⟩ := hrel
            have bc := BC.out _ E33.out.E.out.E.out.S
            have bx := E33.out.st.cell
            by_cases hl3 : tt < c.w.ln
            · obtain ⟨z, hz, hzl⟩ := CE.out lv tt hl2 hl3 hq1
              have C3 := Lib.hid (fun w' (h : c.Ok w') => LvlC.End_any c.w ⟨0, 0, 0, (lv : Int), cap⟩ (tt : Int) w' h.pow (z, 0) (Lib.hid hz))
              clear hz
              go_wp2_with fail
              refine (C3.out _ (OK.out _ E33.out.E.out.E.out.S.out.bel)).mono ?_
              rintro e1 w7 ⟨rfl, k7⟩
              have E33 := e3_next E33 k7
              clear bc bx C3 k7
              have bw := E33.out.E.out.win.cell
              go_wp2_with fail
              go_roundw
              case rel => exact ⟨tt + 1, by omega, by omega, by go_num, E33⟩
              case measure => simp [intOf]; omega
            · obtain rfl : tt = c.w.ln := by omega
              go_wp2_with fail
              go_roundw
              case rel => exact ⟨lv + 1, by omega, by go_num, E33.out.E⟩
              case measure => simp [intOf]; omega
        · obtain rfl : lv = c.w.ln := by omega
          go_wp2_with fail
          go_roundw
          case rel => exact ⟨t + 1, by omega, by go_num, E22.out.E⟩
          case measure => simp [intOf]; omega
    · obtain rfl : t = n := by omega
      go_wp2_with fail
      refine (CW.out _).mono ?_
      rintro e1 w7 ⟨rfl, k7⟩
      go_wp2_with fail
      go_ret
      exact ⟨rfl, below_next EE.out.S.out.bel k7⟩
end Go.Proofs.YtlafeijkpnpdeaaGreat.So4

/- SlotsEnough: the law holds, for every input. -/
namespace Go.Proofs.YtlafeijkpnpdeaaGreat.slotsEnough
open Go.ChangeShapes Go.WideShapes Go.ChangeAt Go.RowKit
set_option linter.unusedVariables false

theorem own : ownKnob Tryz.prog.godebug = none := by kernel_rfl

set_option maxRecDepth 100000 in
theorem lifted (os : Os) (started : os.Started) (H : Type) (enc : TypeId × Value → H) :
    ReturnsInHanded {} Tryz.checked os 5 .any (Rows.slotsEnoughSpec.pre6 enc Tryz.prog Tryz.f5 Rows.slotsEnoughRow.domain false) (Rows.slotsEnoughSpec.post enc Tryz.prog Tryz.f5 false true false false) := by
  refine returnsInHanded_of_change (C := Tryz.checked) own started (by kernel_rfl) Tryz.func5
    (ChangeSpec.witness6 (enc := enc) (C := Tryz.checked) false ⟨#[], #[.agg #[.slice none 0 0, .slice none 0 0, .slice none 0 0, .slice none 0 0, .slice none 0 0, .int .i64 0, .int .i64 0, .int .i64 0, .int .i64 0, .int .i64 0, .int .i64 0, .slice none 0 0, .slice none 0 0]], []⟩ 8 (by kernel_rfl) (by kernel_rfl) (by kernel_rfl) (by kernel_rfl)) ?_
  intro W base args ds gs before hval0 hW hcnd _
  have hval : ∀ (j : Nat) t v, Tryz.f5.params[j]? = some t → args[j]? = some v → Value.okWide Tryz.prog W .any base t v := hval0
  have hW' := hW
  obtain ⟨p, q, hA0, hV, rfl, hfz, hnd⟩ := hW
  have hA : DataW.TrodAll enc Tryz.prog W 0 (fun _ => true) true Tryz.f5.params.toList args.toList ds p := hA0
  rw [Tryz.params5] at hA hval
  obtain ⟨v0, vs0, d0, ds0, p0, q0, hargs, rfl, rfl, h0, r0⟩ := trodAll_cons hA
  obtain ⟨rfl, rfl, rfl⟩ := trodAll_nil r0
  obtain rfl : args = #[v0] := by cases args; simp_all
  obtain ⟨rfl, rfl⟩ := trodVars_none hV
  obtain ⟨cs0, rfl, hsz0⟩ := okWide_struct Tryz.underlying33 (hval 0 33 v0 rfl rfl)
  obtain ⟨fuel0, hf0⟩ := h0
  obtain ⟨c0, e0, ok0⟩ := Conf2.conf_in hf0
  have cap0 := Cap.conf_cap hf0 c0 e0
  obtain rfl := Conf.agg_list e0
  clear hA0 hval0
  refine (So4.enough_law c0 W ok0 cap0).mono fun e W' ⟨he, hg⟩ => ?_
  subst he
  exact ⟨_, rfl, Lift.law_post (by kernel_rfl) (by kernel_rfl) Tryz.underlying4 rfl rfl hW' rfl rfl rfl hg⟩

theorem over : Rows.slotsEnoughRow.holds Tryz.pinned (OpenSpec.ofChange Rows.slotsEnoughSpec) :=
  OpenClaim.holds_of_wide 5 Tryz.f5 rfl rfl rfl rfl rfl rfl rfl ⟨rfl, rfl, rfl, rfl, rfl⟩ rfl rfl rfl rfl rfl (by kernel_rfl) Tryz.func5 (by kernel_rfl)
    (of_decide_eq_true (by kernel_rfl)) (by unfold Func.isWrapper; first | (rw [if_pos (by decide +kernel)]; kernel_rfl) | (rw [if_neg (by decide +kernel)]; exact ⟨rfl, rfl⟩))
    (fun os started H enc _ => lifted os started H enc)

theorem proved : Rows.SlotsEnoughSaid :=
  over
end Go.Proofs.YtlafeijkpnpdeaaGreat.slotsEnough

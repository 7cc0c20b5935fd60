/- The law RateOrders. -/
import Derived.Test.YtgkahcchekiogaaRzb
import Derived.Test.YtgkahcchekiogaaRtw
import Derived.Test.YtgkahcchekiogaaRl3
import Derived.Test.YtgkahcchekiogaaSame
namespace Go.Proofs.Ytgkahcchekiogaa.Rl4
open Go.RowKit Go.Shelf Base Kit WideA WideB Plain RefA Alt Held Conf2 Rtf Rto Rtq Rtj Rtx Rty Rtz Rza Rzb Rtw
set_option linter.unusedVariables false
set_option linter.unusedSimpArgs false
/-- what stays in the law: the argument's box, the reference's order, and the assigned processes -/
structure Ls (w0 w : World) (q : PartC) (v ov : Value) (F : Nat → Nat → Int) (o : D) : Prop where
  bel : Below w0.heap.size w0 w
  box : Box w w0.heap.size #[.slice q.ra q.rn q.rc, .slice q.pa q.pn q.pc, .slice q.oa q.on q.oc, .slice q.sa q.sn q.sc, .int .i64 q.fl, .slice q.qa q.qn q.qc, .slice q.ta q.tn q.tc, .int .i64 q.cap, .int .i64 q.bud, .int .i64 q.lad, .slice q.ca q.cn q.cc] 72
  pro : w.ownsRow w0.heap.size 102 3 v q.pn (prow F q.pn)
  ord : w.ownsRow w0.heap.size 3 1 ov q.pn (row (fun i => ((o i : Nat) : Int)) q.pn)
theorem ls_next {w0 w w1 : World} {q : PartC} {v ov : Value} {F : Nat → Nat → Int} {o : D} (h : Hid (Ls w0 w q v ov F o)) (k : Below w.heap.size w w1) : Hid (Ls w0 w1 q v ov F o) :=
  Lib.hid ⟨below_next h.out.bel k, h.out.box.next k, own_next h.out.pro k, own_next h.out.ord k⟩
/-- and the assigned partition's box -/
structure Ms (w0 w : World) (b2 : Nat) (q : PartC) (v ov : Value) (F : Nat → Nat → Int) (o : D) : Prop where
  ls : Ls w0 w q v ov F o
  b2 : Box w b2 #[.slice q.ra q.rn q.rc, v, .slice q.oa q.on q.oc, .slice q.sa q.sn q.sc, .int .i64 q.fl, .slice q.qa q.qn q.qc, .slice q.ta q.tn q.tc, .int .i64 q.cap, .int .i64 q.bud, .int .i64 q.lad, .slice q.ca q.cn q.cc] 72
theorem ms_next {w0 w w1 : World} {b2 : Nat} {q : PartC} {v ov : Value} {F : Nat → Nat → Int} {o : D} (h : Hid (Ms w0 w b2 q v ov F o)) (k : Below w.heap.size w w1) : Hid (Ms w0 w1 b2 q v ov F o) :=
  Lib.hid ⟨(ls_next (Lib.hid h.out.ls) k).out, h.out.b2.next k⟩
theorem own_rows1 {w : World} {B n c : Nat} {a : Option Addr} {d : D} (h : w.ownsRow B 3 1 (.slice a n c) n (row (fun i => ((d i : Nat) : Int)) n)) (hn : n ≤ 1000) (hd : ∀ i, i < n → d i < n) : Hid (Open.RowsIn w a n 1 (fun i _ => (d i : Int))) := by
  by_cases hz : n = 0
  · subst hz
    exact Lib.hid ⟨by omega, .inl rfl, fun i hi => by omega⟩
  · obtain ⟨g, cc, hv, hg, hlt⟩ := own_form h (fun e => by simp only [Value.slice.injEq] at e; exact hz e.2.1)
    simp only [Value.slice.injEq, true_and] at hv
    obtain ⟨rfl, rfl⟩ := hv
    exact rows_own h (by omega) (fun i hi => by have := hd i hi; constructor <;> omega)
set_option maxRecDepth 100000 in
set_option maxHeartbeats 8000000 in
theorem orders_law (q : PartC) (w : World) (ok : q.Ok w) : Calls Try.prog 12 #[.agg #[.slice q.ra q.rn q.rc, .slice q.pa q.pn q.pc, .slice q.oa q.on q.oc, .slice q.sa q.sn q.sc, .int .i64 q.fl, .slice q.qa q.qn q.qc, .slice q.ta q.tn q.tc, .int .i64 q.cap, .int .i64 q.bud, .int .i64 q.lad, .slice q.ca q.cn q.cc]] w fun e w' => e = .returned (.bool true) ∧ Below w.heap.size w w' := by
  have OK := Lib.hid (fun w' (h : Below w.heap.size w w') => ok.below h (Nat.le_refl _))
  have CW := Lib.hid (fun w' => works_any w')
  have S0 : Hid (Rl3.Qb w (w.alloc (.cells #[.slice q.ra q.rn q.rc, .slice q.pa q.pn q.pc, .slice q.oa q.on q.oc, .slice q.sa q.sn q.sc, .int .i64 q.fl, .slice q.qa q.qn q.qc, .slice q.ta q.tn q.tc, .int .i64 q.cap, .int .i64 q.bud, .int .i64 q.lad, .slice q.ca q.cn q.cc] 72)) q) := Lib.hid ⟨(Below.refl _ _).alloc (Nat.le_refl _) _, Box.new _ _ _⟩
  have bc := S0.out.box.cell
  by_cases h20 : 100 < q.pn
  · replace h20 : (100 : Int) < (q.pn : Int) := by omega
    go_enter Try.func12, Try.ntmps12
    go_wp2_with fail
    generalize w.alloc (.cells #[.slice q.ra q.rn q.rc, .slice q.pa q.pn q.pc, .slice q.oa q.on q.oc, .slice q.sa q.sn q.sc, .int .i64 q.fl, .slice q.qa q.qn q.qc, .slice q.ta q.tn q.tc, .int .i64 q.cap, .int .i64 q.bud, .int .i64 q.lad, .slice q.ca q.cn q.cc] 72) = W at *
    refine (CW.out _).mono ?_
    rintro e1 w5 ⟨rfl, k5⟩
    have S := Rl3.qb_next S0 k5
    go_wp2_with fail
    go_ret
    exact ⟨rfl, S.out.bel⟩
  have hn : q.pn ≤ 100 := by omega
  replace h20 : (q.pn : Int) ≤ 100 := by omega
  have C1 := Lib.hid (fun w' (h : q.Ok w') => rorder_any q.pa q.pn q.pc q.pf w' h.proc hn)
  have C2 := Lib.hid (fun w' (h : q.Ok w') => assign_any q w' h hn)
  have C3 := Lib.hid (fun w' (h : q.Ok w') => order_any q.pa q.pn q.pc q.pf w' h.proc hn)
  go_enter Try.func12, Try.ntmps12
  go_wp2_with fail
  generalize w.alloc (.cells #[.slice q.ra q.rn q.rc, .slice q.pa q.pn q.pc, .slice q.oa q.on q.oc, .slice q.sa q.sn q.sc, .int .i64 q.fl, .slice q.qa q.qn q.qc, .slice q.ta q.tn q.tc, .int .i64 q.cap, .int .i64 q.bud, .int .i64 q.lad, .slice q.ca q.cn q.cc] 72) = W at *
  refine (C1.out _ (OK.out _ S0.out.bel)).mono ?_
  rintro e1 w1 ⟨ov, o, rfl, o1, HO, k1⟩
  obtain ⟨oa, oc, rfl⟩ := own_val o1
  have S1 := Rl3.qb_next S0 k1
  have O1 := Lib.hid (own_base o1 (fun g hg => by have h1 := (o1.lt g hg).1; have h2 := S0.out.bel.size; exact Nat.le_trans h2 h1))
  clear k1 o1 bc S0
  have bc := S1.out.box.cell
  go_wp2_with fail
  refine (C2.out _ (OK.out _ S1.out.bel)).mono ?_
  rintro e1 w2 ⟨v, F, d, rfl, p2, G, k2⟩
  obtain ⟨av, cv, rfl⟩ := own_val p2
  have S : Hid (Ls w w2 q (.slice av q.pn cv) (.slice oa q.pn oc) F o) := Lib.hid ⟨below_next S1.out.bel k2, S1.out.box.next k2, own_base p2 (fun g hg => by have h1 := (p2.lt g hg).1; have h2 := S1.out.bel.size; exact Nat.le_trans h2 h1), own_next O1.out k2⟩
  clear k2 p2 O1 S1 bc
  have bc := S.out.box.cell
  have RK : Hid (∀ d' : D, Gdo (ky q.pf) d' q.pn ∧ Sr (ky q.pf) d' 0 q.pn → ∀ t, t < q.pn → o t = d' t) := Lib.hid (fun d' g t ht => by
    have h1 := HO.out (d' t) (g.1.pm.1 t ht)
    rwa [rk_at g.1 g.2 ht] at h1)
  have OL : Hid (∀ t, t < q.pn → o t < q.pn) := Lib.hid (fun t ht => by rw [RK.out d ⟨G.out.2.1, G.out.2.2⟩ t ht]; exact G.out.2.1.pm.1 t ht)
  have FM : Hid (∀ t, t < q.pn → F (o t) 0 = mx t) := Lib.hid (fun t ht => by rw [RK.out d ⟨G.out.2.1, G.out.2.2⟩ t ht]; exact G.out.1.pr t ht)
  have FS := Lib.hid G.out.1.sm
  have hlt := S.out.box.lt
  have hne : w.heap.size ≠ w2.heap.size := by omega
  go_wp2_with fail
  have S : Hid (Ms w (w2.alloc (.cells #[.slice q.ra q.rn q.rc, .slice av q.pn cv, .slice q.oa q.on q.oc, .slice q.sa q.sn q.sc, .int .i64 q.fl, .slice q.qa q.qn q.qc, .slice q.ta q.tn q.tc, .int .i64 q.cap, .int .i64 q.bud, .int .i64 q.lad, .slice q.ca q.cn q.cc] 72)) w2.heap.size q (.slice av q.pn cv) (.slice oa q.pn oc) F o) := Lib.hid ⟨(ls_next S ((Below.refl _ _).alloc (Nat.le_refl _) _)).out, Box.new _ _ _⟩
  generalize w2.alloc (.cells #[.slice q.ra q.rn q.rc, .slice av q.pn cv, .slice q.oa q.on q.oc, .slice q.sa q.sn q.sc, .int .i64 q.fl, .slice q.qa q.qn q.qc, .slice q.ta q.tn q.tc, .int .i64 q.cap, .int .i64 q.bud, .int .i64 q.lad, .slice q.ca q.cn q.cc] 72) = w3 at *
  obtain ⟨B2, hB2⟩ : ∃ B2, w2.heap.size = B2 := ⟨_, rfl⟩
  rw [hB2] at S ⊢
  clear hB2
  refine (C3.out _ (OK.out _ S.out.ls.bel)).mono ?_
  rintro e1 w4 ⟨v3, d3, rfl, o3, G3, k4⟩
  obtain ⟨a3, c3, rfl⟩ := own_val o3
  have S := ms_next S k4
  have R3 := own_rows1 o3 (by omega) (fun i hi => G3.out.1.pm.1 i hi)
  have R4 : Hid (Open.RowsIn w4 oa q.pn 1 (fun i _ => (d3 i : Int))) := Lib.hid (by
    have h1 := (own_rows1 S.out.ls.ord (by omega) OL.out).out
    obtain ⟨u1, u2, u3⟩ := h1
    refine ⟨u1, ?_, fun i hi j hj => by have := u3 i hi j hj; simp only [RK.out d3 G3.out i hi] at this; exact this⟩
    rcases u2 with u2 | ⟨b, off, e, hlt, u2⟩
    · exact .inl u2
    · exact .inr ⟨b, off, e, hlt, fun i hi j hj => by have := u2 i hi j hj; simp only [RK.out d3 G3.out i hi] at this; exact this⟩)
  have C5 := Lib.hid (Same.same_walk a3 oa q.pn c3 oc (fun i _ => (d3 i : Int)) w4 R3 R4)
  clear k4 o3 bc
  go_wp2_with fail
  refine C5.out.mono ?_
  rintro e1 w5 ⟨rfl, k5⟩
  have S := ms_next S k5
  clear k5 C5 R3 R4 G3
  have bc := S.out.ls.box.cell
  have b2 := S.out.b2.cell
  go_wp2_with fail
  go_loopw [5] (fun i wr => ∃ k : Nat, k ≤ q.pn ∧ i = .int .i64 (k : Int) ∧ Hid (Ms w wr B2 q (.slice av q.pn cv) (.slice oa q.pn oc) F o)) (fun i _ => q.pn - (intOf i).toNat)
  case atStart => exact ⟨0, Nat.zero_le _, rfl, S⟩
  case round =>
    clear S bc b2
    obtain ⟨k, hk, rfl, S⟩ := hrel
    have bc := S.out.ls.box.cell
    have b2 := S.out.b2.cell
    by_cases hkn : k < q.pn
    · obtain ⟨gp, cp, e1, _, _⟩ := own_form S.out.ls.pro (fun e => by simp only [Value.slice.injEq] at e; omega)
      obtain ⟨go, co, e2, _, _⟩ := own_form S.out.ls.ord (fun e => by simp only [Value.slice.injEq] at e; omega)
      simp only [Value.slice.injEq, true_and] at e1 e2
      obtain ⟨rfl, rfl⟩ := e1
      obtain ⟨rfl, rfl⟩ := e2
      obtain ⟨x, hx⟩ : ∃ x, o k = x := ⟨_, rfl⟩
      have hxn : x < q.pn := by rw [← hx]; exact OL.out k hkn
      have hxI : (x : Int) < (q.pn : Int) := by omega
      have hkI : (k : Int) < (q.pn : Int) := by omega
      have c0 : wr.cell? ⟨go, k, none⟩ = some (.int .i64 (x : Int)) := by
        rw [S.out.ls.ord.cellAt k (by omega), row_get _ _ _ hkn, hx]
      have pc : ∀ j, j < 3 → wr.cell? ⟨gp, x * 3 + j, none⟩ = some (.int .i64 (F x j)) := fun j hj => by
        rw [S.out.ls.pro.cellAt (x * 3 + j) (by omega)]
        unfold prow
        rw [row_get _ _ _ (by omega), show (x * 3 + j) / 3 = x by omega, show (x * 3 + j) % 3 = j by omega]
      have p0 := pc 0 (by omega)
      have p1 := pc 1 (by omega)
      have p2 := pc 2 (by omega)
      rw [Nat.add_zero] at p0
      clear pc
      obtain ⟨pb, po, eqa, lp, f0, f1, f2, i0', i1', i2'⟩ := rows_at3 (OK.out _ S.out.ls.bel).proc x hxn
      have m0 : F x 0 = mx k := by rw [← hx]; exact FM.out k hkn
      rw [m0] at p0
      rw [(FS.out x).1] at p1
      rw [(FS.out x).2] at p2
      obtain ⟨y0, h0⟩ : ∃ y, q.pf x 0 = y := ⟨_, rfl⟩
      obtain ⟨y1, h1⟩ : ∃ y, q.pf x 1 = y := ⟨_, rfl⟩
      obtain ⟨y2, h2⟩ : ∃ y, q.pf x 2 = y := ⟨_, rfl⟩
      rw [h0] at f0
      rw [h1] at f1 p1
      rw [h2] at f2 p2
      rw [eqa] at bc
      have EQA := Lib.hid eqa
      clear eqa h0 h1 h2 hx m0 i0' i1' i2'
      obtain ⟨z, hz⟩ : ∃ z : Int, 63 - (k : Int) = z := ⟨_, rfl⟩
      have hzw : IntKind.i64.wrap z = z := wr64 _ (by omega) (by omega)
      by_cases hm : z ≤ 0
      · have e9 : mx k = 0 := by unfold mx; rw [hz, if_pos hm]
        rw [e9] at p0
        clear e9
        have SK : Hid (∀ w', Below wr.heap.size wr w' → (∀ i, w'.cell? ⟨w.heap.size, i, none⟩ = (#[.slice q.ra q.rn q.rc, .slice (some ⟨pb, po, none⟩) q.pn q.pc, .slice q.oa q.on q.oc, .slice q.sa q.sn q.sc, .int .i64 q.fl, .slice q.qa q.qn q.qc, .slice q.ta q.tn q.tc, .int .i64 q.cap, .int .i64 q.bud, .int .i64 q.lad, .slice q.ca q.cn q.cc] : Array Value)[i]?) ∧
            (∀ i, w'.cell? ⟨B2, i, none⟩ = (#[.slice q.ra q.rn q.rc, .slice (some ⟨gp, 0, none⟩) q.pn cv, .slice q.oa q.on q.oc, .slice q.sa q.sn q.sc, .int .i64 q.fl, .slice q.qa q.qn q.qc, .slice q.ta q.tn q.tc, .int .i64 q.cap, .int .i64 q.bud, .int .i64 q.lad, .slice q.ca q.cn q.cc] : Array Value)[i]?) ∧
            w'.cell? ⟨go, k, none⟩ = some (.int .i64 (x : Int)) ∧ w'.cell? ⟨gp, x * 3, none⟩ = some (.int .i64 0) ∧ w'.cell? ⟨gp, x * 3 + 1, none⟩ = some (.int .i64 y1) ∧ w'.cell? ⟨gp, x * 3 + 2, none⟩ = some (.int .i64 y2) ∧
            w'.cell? ⟨pb, po + x * 3, none⟩ = some (.int .i64 y0) ∧ w'.cell? ⟨pb, po + x * 3 + 1, none⟩ = some (.int .i64 y1) ∧ w'.cell? ⟨pb, po + x * 3 + 2, none⟩ = some (.int .i64 y2)) := Lib.hid (fun w' hw => by
          have M := ms_next S hw
          refine ⟨?_, M.out.b2.cell, keep' hw c0, keep' hw p0, keep' hw p1, keep' hw p2, keep' hw f0, keep' hw f1, keep' hw f2⟩
          have := M.out.ls.box.cell
          rw [EQA.out] at this
          exact this)
        go_wp2_with fail
        have SK0 := SK.out _ (Below.refl _ _).drew
        go_region_held3 (fun w' => (∀ i, w'.cell? ⟨w.heap.size, i, none⟩ = (#[.slice q.ra q.rn q.rc, .slice (some ⟨pb, po, none⟩) q.pn q.pc, .slice q.oa q.on q.oc, .slice q.sa q.sn q.sc, .int .i64 q.fl, .slice q.qa q.qn q.qc, .slice q.ta q.tn q.tc, .int .i64 q.cap, .int .i64 q.bud, .int .i64 q.lad, .slice q.ca q.cn q.cc] : Array Value)[i]?) ∧
            (∀ i, w'.cell? ⟨B2, i, none⟩ = (#[.slice q.ra q.rn q.rc, .slice (some ⟨gp, 0, none⟩) q.pn cv, .slice q.oa q.on q.oc, .slice q.sa q.sn q.sc, .int .i64 q.fl, .slice q.qa q.qn q.qc, .slice q.ta q.tn q.tc, .int .i64 q.cap, .int .i64 q.bud, .int .i64 q.lad, .slice q.ca q.cn q.cc] : Array Value)[i]?) ∧
            w'.cell? ⟨go, k, none⟩ = some (.int .i64 (x : Int)) ∧ w'.cell? ⟨gp, x * 3, none⟩ = some (.int .i64 0) ∧ w'.cell? ⟨gp, x * 3 + 1, none⟩ = some (.int .i64 y1) ∧ w'.cell? ⟨gp, x * 3 + 2, none⟩ = some (.int .i64 y2) ∧
            w'.cell? ⟨pb, po + x * 3, none⟩ = some (.int .i64 y0) ∧ w'.cell? ⟨pb, po + x * 3 + 1, none⟩ = some (.int .i64 y1) ∧ w'.cell? ⟨pb, po + x * 3 + 2, none⟩ = some (.int .i64 y2))
          (exact SK.out _ (by repeat (first | exact (Below.refl _ _).drew | exact Below.refl _ _ | refine Below.drew ?_ | refine Below.setCell ?_ (by simp) _ | refine Below.alloc ?_ (by simp) _)))
          (fail)
        all_goals
          clear SK0
          go_wp2_with fail
          go_roundw
          case rel => exact ⟨k + 1, by omega, by simp, ms_next S (by repeat (first | exact (Below.refl _ _).drew | exact Below.refl _ _ | refine Below.drew ?_ | refine Below.setCell ?_ (by simp) _ | refine Below.alloc ?_ (by simp) _))⟩
          case measure => simp [intOf]; omega
      · have e9 : mx k = z := by unfold mx; rw [hz, if_neg hm]
        rw [e9] at p0
        have hm2 : 0 < z := by omega
        clear e9
        have SK : Hid (∀ w', Below wr.heap.size wr w' → (∀ i, w'.cell? ⟨w.heap.size, i, none⟩ = (#[.slice q.ra q.rn q.rc, .slice (some ⟨pb, po, none⟩) q.pn q.pc, .slice q.oa q.on q.oc, .slice q.sa q.sn q.sc, .int .i64 q.fl, .slice q.qa q.qn q.qc, .slice q.ta q.tn q.tc, .int .i64 q.cap, .int .i64 q.bud, .int .i64 q.lad, .slice q.ca q.cn q.cc] : Array Value)[i]?) ∧
            (∀ i, w'.cell? ⟨B2, i, none⟩ = (#[.slice q.ra q.rn q.rc, .slice (some ⟨gp, 0, none⟩) q.pn cv, .slice q.oa q.on q.oc, .slice q.sa q.sn q.sc, .int .i64 q.fl, .slice q.qa q.qn q.qc, .slice q.ta q.tn q.tc, .int .i64 q.cap, .int .i64 q.bud, .int .i64 q.lad, .slice q.ca q.cn q.cc] : Array Value)[i]?) ∧
            w'.cell? ⟨go, k, none⟩ = some (.int .i64 (x : Int)) ∧ w'.cell? ⟨gp, x * 3, none⟩ = some (.int .i64 z) ∧ w'.cell? ⟨gp, x * 3 + 1, none⟩ = some (.int .i64 y1) ∧ w'.cell? ⟨gp, x * 3 + 2, none⟩ = some (.int .i64 y2) ∧
            w'.cell? ⟨pb, po + x * 3, none⟩ = some (.int .i64 y0) ∧ w'.cell? ⟨pb, po + x * 3 + 1, none⟩ = some (.int .i64 y1) ∧ w'.cell? ⟨pb, po + x * 3 + 2, none⟩ = some (.int .i64 y2)) := Lib.hid (fun w' hw => by
          have M := ms_next S hw
          refine ⟨?_, M.out.b2.cell, keep' hw c0, keep' hw p0, keep' hw p1, keep' hw p2, keep' hw f0, keep' hw f1, keep' hw f2⟩
          have := M.out.ls.box.cell
          rw [EQA.out] at this
          exact this)
        go_wp2_with fail
        have SK0 := SK.out _ (Below.refl _ _).drew
        go_region_held3 (fun w' => (∀ i, w'.cell? ⟨w.heap.size, i, none⟩ = (#[.slice q.ra q.rn q.rc, .slice (some ⟨pb, po, none⟩) q.pn q.pc, .slice q.oa q.on q.oc, .slice q.sa q.sn q.sc, .int .i64 q.fl, .slice q.qa q.qn q.qc, .slice q.ta q.tn q.tc, .int .i64 q.cap, .int .i64 q.bud, .int .i64 q.lad, .slice q.ca q.cn q.cc] : Array Value)[i]?) ∧
            (∀ i, w'.cell? ⟨B2, i, none⟩ = (#[.slice q.ra q.rn q.rc, .slice (some ⟨gp, 0, none⟩) q.pn cv, .slice q.oa q.on q.oc, .slice q.sa q.sn q.sc, .int .i64 q.fl, .slice q.qa q.qn q.qc, .slice q.ta q.tn q.tc, .int .i64 q.cap, .int .i64 q.bud, .int .i64 q.lad, .slice q.ca q.cn q.cc] : Array Value)[i]?) ∧
            w'.cell? ⟨go, k, none⟩ = some (.int .i64 (x : Int)) ∧ w'.cell? ⟨gp, x * 3, none⟩ = some (.int .i64 z) ∧ w'.cell? ⟨gp, x * 3 + 1, none⟩ = some (.int .i64 y1) ∧ w'.cell? ⟨gp, x * 3 + 2, none⟩ = some (.int .i64 y2) ∧
            w'.cell? ⟨pb, po + x * 3, none⟩ = some (.int .i64 y0) ∧ w'.cell? ⟨pb, po + x * 3 + 1, none⟩ = some (.int .i64 y1) ∧ w'.cell? ⟨pb, po + x * 3 + 2, none⟩ = some (.int .i64 y2))
          (exact SK.out _ (by repeat (first | exact (Below.refl _ _).drew | exact Below.refl _ _ | refine Below.drew ?_ | refine Below.setCell ?_ (by simp) _ | refine Below.alloc ?_ (by simp) _)))
          (fail)
        all_goals
          clear SK0
          go_wp2_with fail
          go_roundw
          case rel => exact ⟨k + 1, by omega, by simp, ms_next S (by repeat (first | exact (Below.refl _ _).drew | exact Below.refl _ _ | refine Below.drew ?_ | refine Below.setCell ?_ (by simp) _ | refine Below.alloc ?_ (by simp) _))⟩
          case measure => simp [intOf]; omega
    · obtain rfl : k = q.pn := by omega
      go_wp2_with fail
      refine (CW.out _).mono ?_
      rintro e1 w6 ⟨rfl, k6⟩
      have S := ms_next S k6
      go_wp2_with fail
      go_ret
      exact ⟨rfl, S.out.ls.bel⟩
end Go.Proofs.Ytgkahcchekiogaa.Rl4

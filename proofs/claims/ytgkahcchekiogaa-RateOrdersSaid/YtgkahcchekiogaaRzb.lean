/- rate.Assign. -/
import Derived.Test.YtgkahcchekiogaaRza
namespace Go.Proofs.Ytgkahcchekiogaa.Rzb
open Go.RowKit Go.Shelf Base Kit WideA WideB Plain RefA Alt Held Conf2 Rtf Rto Rtq Rtj Rtx Rty Rtz Rza
set_option linter.unusedVariables false
set_option linter.unusedSimpArgs false
theorem own_rows3 {w : World} {B n c : Nat} {a : Option Addr} {F : Nat → Nat → Int} (h : w.ownsRow B 102 3 (.slice a n c) n (prow F n)) (hn : n ≤ 1000) (hF : ∀ i, i < n → ∀ j, j < 3 → I64 (F i j)) : Hid (Open.RowsIn w a n 3 F) := by
  by_cases hz : n = 0
  · subst hz
    exact Lib.hid ⟨by omega, .inl rfl, fun i hi => by omega⟩
  · obtain ⟨g, cc, hv, hg, hlt⟩ := own_form h (fun e => by simp only [Value.slice.injEq] at e; exact hz e.2.1)
    simp only [Value.slice.injEq, true_and] at hv
    obtain ⟨rfl, rfl⟩ := hv
    refine Lib.hid ⟨by omega, .inr ⟨g, 0, rfl, hlt, fun i hi j hj => ?_⟩, fun i hi j hj => hF i hi j hj⟩
    have hij : i * 3 + j < n * 3 := by omega
    rw [Nat.zero_add, h.cellAt (i * 3 + j) hij]
    unfold prow
    rw [row_get _ _ _ hij]
    rw [show (i * 3 + j) / 3 = i by omega, show (i * 3 + j) % 3 = j by omega]
theorem own_val {w : World} {B : Nat} {T : TypeId} {sz : Nat} {v : Value} {n : Nat} {xs : List Value} (h : w.ownsRow B T sz v n xs) : ∃ a cap, v = .slice a n cap := by
  rcases h.2 with ⟨h1, h2⟩ | ⟨g, cap, cur, h1, _⟩
  · exact ⟨none, 0, by rw [h1, h2]⟩
  · exact ⟨_, _, h1⟩
theorem own_next {w w1 : World} {B : Nat} {T : TypeId} {sz : Nat} {v : Value} {n : Nat} {xs : List Value} (h : w.ownsRow B T sz v n xs) (k : Below w.heap.size w w1) : w1.ownsRow B T sz v n xs := by
  by_cases hv : v = .slice none 0 0
  · subst hv
    rcases h with ⟨h1, h2⟩
    exact ⟨h1, by
      rcases h2 with ⟨_, h2⟩ | ⟨g, cap, cur, h2, _⟩
      · exact .inl ⟨rfl, h2⟩
      · simp at h2⟩
  · obtain ⟨g, c, rfl, _, _⟩ := own_form h hv
    exact own_below' h k
theorem own_alt_v {S : Nat → Prop} {w w1 : World} {base n : Nat} {e : TypeId} {size : Nat} {v : Value} {xs : List Value} (h : w.ownsRow base e size v n xs) (k : Alt S w w1) (hs : ∀ g, v.ownBlock = some g → ¬ S g) : w1.ownsRow base e size v n xs := by
  by_cases hv : v = .slice none 0 0
  · subst hv
    obtain ⟨h1, h2⟩ := h
    refine ⟨h1, ?_⟩
    rcases h2 with h2 | ⟨g, cap, cur, h2, _⟩
    · exact .inl h2
    · simp at h2
  · obtain ⟨g, c, rfl, _, _⟩ := own_form h hv
    exact own_alt h k (hs g rfl)
theorem alt_set {S : Nat → Prop} {a b : World} (h : Alt S a b) (p : Addr) (v : Value) (hp : S p.block) : Alt S a (b.setCell p v) := h.trans (Alt.set b p v hp)
theorem own_ne_v {w : World} {base n b : Nat} {e T : TypeId} {size : Nat} {v : Value} {xs : List Value} {vs : Array Value} (h : w.ownsRow base e size v n xs) (k : Box w b vs T) (hne : e ≠ T) : ∀ g, v.ownBlock = some g → g ≠ b := fun g hg => by
  by_cases hv : v = .slice none 0 0
  · subst hv; simp [Value.ownBlock] at hg
  · obtain ⟨g', c, rfl, _, _⟩ := own_form h hv
    simp only [Value.ownBlock, Option.some.injEq] at hg
    subst hg
    exact own_ne h k hne
/-- a priority by a place -/
def mx (k : Nat) : Int := if 63 - (k : Int) ≤ 0 then 0 else 63 - (k : Int)
structure As (w0 w : World) (q : PartC) (v ov : Value) (n : Nat) (F : Nat → Nat → Int) (d : D) : Prop where
  bel : Below w0.heap.size w0 w
  b1 : Box w w0.heap.size #[.slice q.ra q.rn q.rc, .slice q.pa q.pn q.pc, .slice q.oa q.on q.oc, .slice q.sa q.sn q.sc, .int .i64 q.fl, .slice q.qa q.qn q.qc, .slice q.ta q.tn q.tc, .int .i64 q.cap, .int .i64 q.bud, .int .i64 q.lad, .slice q.ca q.cn q.cc] 72
  b2 : Box w (w0.heap.size + 1) #[.slice none 0 0, .slice none 0 0, .slice none 0 0, .slice none 0 0, .int .i64 0, .slice none 0 0, .slice none 0 0, .int .i64 0, .int .i64 0, .int .i64 0, .slice none 0 0] 72
  pro : w.ownsRow w0.heap.size 102 3 v n (prow F n)
  ord : w.ownsRow w0.heap.size 3 1 ov n (row (fun i => ((d i : Nat) : Int)) n)
theorem as_next {w0 w w1 : World} {q : PartC} {v ov : Value} {n : Nat} {F : Nat → Nat → Int} {d : D} (h : Hid (As w0 w q v ov n F d)) (k : Below w.heap.size w w1) : Hid (As w0 w1 q v ov n F d) :=
  Lib.hid ⟨below_next h.out.bel k, h.out.b1.next k, h.out.b2.next k, own_next h.out.pro k, own_next h.out.ord k⟩
/-- what the priorities are so far -/
structure Fs (F f : Nat → Nat → Int) (d : D) (n k : Nat) : Prop where
  pr : ∀ t, t < k → F (d t) 0 = mx t
  sm : ∀ i, F i 1 = f i 1 ∧ F i 2 = f i 2
def put0 (F : Nat → Nat → Int) (x : Nat) (m : Int) : Nat → Nat → Int := fun i j => if i = x ∧ j = 0 then m else F i j
theorem prow_set (F : Nat → Nat → Int) (n x : Nat) (m : Int) : (prow F n).set (x * 3) (.int .i64 m) = prow (put0 F x m) n := by
  unfold prow
  rw [row_set]
  congr 1
  funext t
  unfold put0
  by_cases c : t = x * 3
  · rw [if_pos c, if_pos (by omega)]
  · rw [if_neg c, if_neg (by omega)]
theorem as_put {w0 w : World} {q : PartC} {ov : Value} {n gp cp : Nat} {F : Nat → Nat → Int} {d : D} (h : Hid (As w0 w q (.slice (some ⟨gp, 0, none⟩) n cp) ov n F d)) (x : Nat) (m : Int) :
    Hid (As w0 (w.setCell ⟨gp, x * 3, none⟩ (.int .i64 m)) q (.slice (some ⟨gp, 0, none⟩) n cp) ov n (put0 F x m) d) := by
  have A : Alt (fun k => k = gp) w (w.setCell ⟨gp, x * 3, none⟩ (.int .i64 m)) := Alt.set _ _ _ rfl
  have hg := (h.out.pro.lt gp rfl).1
  have h1 := (h.out.pro.stored (x * 3) (.int .i64 m)).1
  rw [prow_set] at h1
  refine Lib.hid ⟨A.below h.out.bel h.out.bel.size (fun i hi => by omega), box_alt h.out.b1 A (fun e => ?_), box_alt h.out.b2 A (fun e => ?_), h1, ?_⟩
  · have := own_ne h.out.pro h.out.b1 (by decide); omega
  · have := own_ne h.out.pro h.out.b2 (by decide); omega
  · by_cases hv : ov = .slice none 0 0
    · subst hv
      have hn : n = 0 := by
        rcases h.out.ord.2 with ⟨_, h2⟩ | ⟨g, cap, cur, h2, _⟩
        · exact h2
        · simp at h2
      subst hn
      exact World.ownsRow_nil _ _ _ _
    · obtain ⟨g, c, rfl, hg2, hlt⟩ := own_form h.out.ord hv
      refine own_alt h.out.ord A (fun e => ?_)
      rcases h.out.ord.2 with ⟨h2, _⟩ | ⟨g', cap, cur, h2, _, hh, _⟩
      · simp at h2
      · rcases h.out.pro.2 with ⟨h3, _⟩ | ⟨g3, cap3, cur3, h3, _, hh3, _⟩
        · simp at h3
        · simp only [Value.slice.injEq, Option.some.injEq, Addr.mk.injEq, and_true, true_and] at h2 h3
          rw [← h2.1] at hh
          rw [← h3.1] at hh3
          rw [e, hh3] at hh
          simp at hh
theorem fs_put {F f : Nat → Nat → Int} {d : D} {n k : Nat} (h : Fs F f d n k) (hp : Pm d n) (hk : k < n) : Fs (put0 F (d k) (mx k)) f d n (k + 1) := by
  refine ⟨fun t ht => ?_, fun i => ⟨?_, ?_⟩⟩
  · unfold put0
    by_cases c : t = k
    · subst c; rw [if_pos ⟨rfl, rfl⟩]
    · rw [if_neg (fun e => c (hp.2 t k (by omega) hk e.1))]
      exact h.pr t (by omega)
  · unfold put0; rw [if_neg (by omega)]; exact (h.sm i).1
  · unfold put0; rw [if_neg (by omega)]; exact (h.sm i).2
def AsP (q : PartC) (w : World) (e : Ending) (w' : World) : Prop :=
  ∃ (v : Value) (F : Nat → Nat → Int) (d : D), e = .returned (.agg #[.slice q.ra q.rn q.rc, v, .slice q.oa q.on q.oc, .slice q.sa q.sn q.sc, .int .i64 q.fl, .slice q.qa q.qn q.qc, .slice q.ta q.tn q.tc, .int .i64 q.cap, .int .i64 q.bud, .int .i64 q.lad, .slice q.ca q.cn q.cc]) ∧ w'.ownsRow w.heap.size 102 3 v q.pn (prow F q.pn) ∧ Hid (Fs F q.pf d q.pn q.pn ∧ Gdo (ky q.pf) d q.pn ∧ Sr (ky q.pf) d 0 q.pn) ∧ Below w.heap.size w w'
set_option maxRecDepth 100000 in
set_option maxHeartbeats 4000000 in
theorem assign_any (q : PartC) (w : World) (ok : q.Ok w) (hn : q.pn ≤ 100) : Calls Try.prog 54 #[.agg #[.slice q.ra q.rn q.rc, .slice q.pa q.pn q.pc, .slice q.oa q.on q.oc, .slice q.sa q.sn q.sc, .int .i64 q.fl, .slice q.qa q.qn q.qc, .slice q.ta q.tn q.tc, .int .i64 q.cap, .int .i64 q.bud, .int .i64 q.lad, .slice q.ca q.cn q.cc]] w (AsP q w) := by
  have OK := Lib.hid (fun w' (h : Below w.heap.size w w') => (ok.below h (Nat.le_refl _)).proc)
  have IP : Hid (∀ i, i < q.pn → ∀ j, j < 3 → I64 (q.pf i j)) := Lib.hid (fun i hi j hj => ok.proc.out.2.2 i hi j hj)
  have K0 : Hid (Below w.heap.size w ((w.alloc (.cells #[.slice q.ra q.rn q.rc, .slice q.pa q.pn q.pc, .slice q.oa q.on q.oc, .slice q.sa q.sn q.sc, .int .i64 q.fl, .slice q.qa q.qn q.qc, .slice q.ta q.tn q.tc, .int .i64 q.cap, .int .i64 q.bud, .int .i64 q.lad, .slice q.ca q.cn q.cc] 72)).alloc (.cells #[.slice none 0 0, .slice none 0 0, .slice none 0 0, .slice none 0 0, .int .i64 0, .slice none 0 0, .slice none 0 0, .int .i64 0, .int .i64 0, .int .i64 0, .slice none 0 0] 72))) := Lib.hid (((Below.refl w.heap.size w).alloc (Nat.le_refl _) _).alloc (by simp) _)
  have X1 := Lib.hid ((Box.new w #[.slice q.ra q.rn q.rc, .slice q.pa q.pn q.pc, .slice q.oa q.on q.oc, .slice q.sa q.sn q.sc, .int .i64 q.fl, .slice q.qa q.qn q.qc, .slice q.ta q.tn q.tc, .int .i64 q.cap, .int .i64 q.bud, .int .i64 q.lad, .slice q.ca q.cn q.cc] 72).alloc (.cells #[.slice none 0 0, .slice none 0 0, .slice none 0 0, .slice none 0 0, .int .i64 0, .slice none 0 0, .slice none 0 0, .int .i64 0, .int .i64 0, .int .i64 0, .slice none 0 0] 72))
  have X2 := Lib.hid (Box.new (w.alloc (.cells #[.slice q.ra q.rn q.rc, .slice q.pa q.pn q.pc, .slice q.oa q.on q.oc, .slice q.sa q.sn q.sc, .int .i64 q.fl, .slice q.qa q.qn q.qc, .slice q.ta q.tn q.tc, .int .i64 q.cap, .int .i64 q.bud, .int .i64 q.lad, .slice q.ca q.cn q.cc] 72)) #[.slice none 0 0, .slice none 0 0, .slice none 0 0, .slice none 0 0, .int .i64 0, .slice none 0 0, .slice none 0 0, .int .i64 0, .int .i64 0, .int .i64 0, .slice none 0 0] 72)
  rw [World.size_alloc] at X2
  have bc := X1.out.cell
  go_enter Try.func54, Try.ntmps54
  go_wp2_with fail
  generalize (w.alloc (.cells #[.slice q.ra q.rn q.rc, .slice q.pa q.pn q.pc, .slice q.oa q.on q.oc, .slice q.sa q.sn q.sc, .int .i64 q.fl, .slice q.qa q.qn q.qc, .slice q.ta q.tn q.tc, .int .i64 q.cap, .int .i64 q.bud, .int .i64 q.lad, .slice q.ca q.cn q.cc] 72)).alloc (.cells #[.slice none 0 0, .slice none 0 0, .slice none 0 0, .slice none 0 0, .int .i64 0, .slice none 0 0, .slice none 0 0, .int .i64 0, .int .i64 0, .int .i64 0, .slice none 0 0] 72) = W at *
  refine (clone_any q.pa q.pn q.pc q.pf W (OK.out _ K0.out) (by omega)).mono ?_
  rintro e w1 ⟨v, rfl, o1, k1⟩
  obtain ⟨a1, c1, rfl⟩ := own_val o1
  have hs1 : W.heap.size ≤ w1.heap.size := k1.size
  have szW : Hid (w.heap.size ≤ W.heap.size) := Lib.hid K0.out.size
  have R1 := own_rows3 o1 (by omega) IP.out
  have C2 := Lib.hid (order_any a1 q.pn c1 q.pf w1 R1 hn)
  have P1 := Lib.hid o1
  have K1 := Lib.hid k1
  clear o1 k1 bc R1
  go_wp2_with fail
  refine C2.out.mono ?_
  rintro e w2 ⟨ov, d, rfl, o2, G, k2⟩
  obtain ⟨a2, c2, rfl⟩ := own_val o2
  have S : Hid (As w w2 q (.slice a1 q.pn c1) (.slice a2 q.pn c2) q.pn q.pf d) := Lib.hid ⟨below_next (below_next K0.out K1.out) k2, (X1.out.next K1.out).next k2, (X2.out.next K1.out).next k2, own_next (own_base P1.out (fun g hg => by have := (P1.out.lt g hg).1; have := szW.out; omega)) k2, own_base o2 (fun g hg => by have := (o2.lt g hg).1; have := szW.out; omega)⟩
  have F0 : Hid (Fs q.pf q.pf d q.pn 0) := Lib.hid ⟨fun t ht => by omega, fun i => ⟨rfl, rfl⟩⟩
  clear P1 K1 o2 k2 C2 X1 X2 K0 hs1 szW
  go_wp2_with fail
  go_loopw [12] (fun i wr => ∃ (k : Nat) (F : Nat → Nat → Int), k ≤ q.pn ∧ i = .int .i64 (k : Int) ∧ Hid (As w wr q (.slice a1 q.pn c1) (.slice a2 q.pn c2) q.pn F d) ∧ Hid (Fs F q.pf d q.pn k)) (fun i _ => q.pn - (intOf i).toNat)
  case atStart => exact ⟨0, q.pf, Nat.zero_le _, rfl, S, F0⟩
  case round =>
    clear S F0
    obtain ⟨k, F, hk, rfl, S, FF⟩ := hrel
    by_cases hkn : k < q.pn
    · obtain ⟨gp, cp, e1, _, _⟩ := own_form S.out.pro (fun e => by simp only [Value.slice.injEq] at e; omega)
      obtain ⟨go, co, e2, _, _⟩ := own_form S.out.ord (fun e => by simp only [Value.slice.injEq] at e; omega)
      simp only [Value.slice.injEq, true_and] at e1 e2
      obtain ⟨rfl, rfl⟩ := e1
      obtain ⟨rfl, rfl⟩ := e2
      obtain ⟨x, hx⟩ : ∃ x, d k = x := ⟨_, rfl⟩
      have hxn : x < q.pn := by rw [← hx]; exact G.out.1.pm.1 _ hkn
      have hxI : (x : Int) < (q.pn : Int) := by omega
      have c0 : wr.cell? ⟨go, k, none⟩ = some (.int .i64 (x : Int)) := by
        rw [S.out.ord.cellAt k (by omega), row_get _ _ _ hkn, hx]
      have fz := S.out.pro.frozenAt
      have ce : ∃ u, wr.cell? ⟨gp, x * 3, none⟩ = some u := by
        rw [S.out.pro.cellAt (x * 3) (by omega)]
        unfold prow
        rw [row_get _ _ _ (by omega)]
        exact ⟨_, rfl⟩
      obtain ⟨u, ce⟩ := ce
      obtain ⟨z, hz⟩ : ∃ z : Int, 63 - (k : Int) = z := ⟨_, rfl⟩
      have hzw : IntKind.i64.wrap z = z := wr64 _ (by omega) (by omega)
      have F2 := Lib.hid (fs_put FF.out G.out.1.pm hkn)
      have S2 := as_put S x (mx k)
      rw [hx] at F2
      clear hx
      by_cases hm : z ≤ 0
      · have e9 : mx k = 0 := by unfold mx; rw [hz, if_pos hm]
        rw [e9] at S2 F2
        clear e9
        go_wp2_with fail
        go_roundw
        case rel => exact ⟨k + 1, _, by omega, by simp, S2, F2⟩
        case measure => simp [intOf]; omega
      · have e9 : mx k = z := by unfold mx; rw [hz, if_neg hm]
        rw [e9] at S2 F2
        have hm2 : 0 < z := by omega
        clear e9
        go_wp2_with fail
        go_roundw
        case rel => exact ⟨k + 1, _, by omega, by simp, S2, F2⟩
        case measure => simp [intOf]; omega
    · obtain rfl : k = q.pn := by omega
      have b1 := S.out.b1.cell
      have b2 := S.out.b2.cell
      have f1 := S.out.b1.frozen
      have f2 := S.out.b2.frozen
      have hb2 := S.out.b2.lt
      have hsz := S.out.bel.size
      have P := S.out.pro
      have N1 := own_ne_v P S.out.b1 (by decide)
      have N2 := own_ne_v P S.out.b2 (by decide)
      have BL := S.out.bel
      go_wp2_with fail
      have A : Alt (fun k => k = w.heap.size ∨ k = w.heap.size + 1) wr ((((((((((((wr.setCell ⟨w.heap.size, 1, none⟩ (.slice a1 q.pn c1)).setCell ⟨w.heap.size + 1, 0, none⟩ (.slice q.ra q.rn q.rc)).setCell ⟨w.heap.size + 1, 1, none⟩ (.slice a1 q.pn c1)).setCell ⟨w.heap.size + 1, 2, none⟩ (.slice q.oa q.on q.oc)).setCell ⟨w.heap.size + 1, 3, none⟩ (.slice q.sa q.sn q.sc)).setCell ⟨w.heap.size + 1, 4, none⟩ (.int .i64 q.fl)).setCell ⟨w.heap.size + 1, 5, none⟩ (.slice q.qa q.qn q.qc)).setCell ⟨w.heap.size + 1, 6, none⟩ (.slice q.ta q.tn q.tc)).setCell ⟨w.heap.size + 1, 7, none⟩ (.int .i64 q.cap)).setCell ⟨w.heap.size + 1, 8, none⟩ (.int .i64 q.bud)).setCell ⟨w.heap.size + 1, 9, none⟩ (.int .i64 q.lad)).setCell ⟨w.heap.size + 1, 10, none⟩ (.slice q.ca q.cn q.cc)) := by
        iterate 12 (refine alt_set ?_ _ _ (by simp))
        exact Alt.refl _ _
      refine bodyPost_ret (v := .agg #[.slice q.ra q.rn q.rc, .slice a1 q.pn c1, .slice q.oa q.on q.oc, .slice q.sa q.sn q.sc, .int .i64 q.fl, .slice q.qa q.qn q.qc, .slice q.ta q.tn q.tc, .int .i64 q.cap, .int .i64 q.bud, .int .i64 q.lad, .slice q.ca q.cn q.cc]) ?_ rfl ⟨.slice a1 q.pn c1, F, d, rfl, ?_, Lib.hid ⟨FF.out, G.out.1, G.out.2⟩, ?_⟩
      · simp [results, Try.results54, go_sem, b2, f2]
      · exact own_alt_v P A (fun g hg hs => by rcases hs with e | e; exact N1 g hg e; exact N2 g hg e)
      · exact A.below BL hsz (fun i hi => by rcases hi with e | e <;> omega)
end Go.Proofs.Ytgkahcchekiogaa.Rzb

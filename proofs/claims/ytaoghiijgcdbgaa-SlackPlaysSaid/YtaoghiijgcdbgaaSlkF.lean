/- The laws SlackSums and SlackWorst. -/
import Derived.Test.YtaoghiijgcdbgaaSlkE
import Derived.Test.YtaoghiijgcdbgaaPart
namespace Go.Proofs.Ytaoghiijgcdbgaa.SlkF
open Go.RowKit Base Kit WideA Alt RefA SlkA SlkB SlkC SlkD SlkE Boo Conf Conf2
set_option linter.unusedVariables false
set_option linter.unusedSimpArgs false

/-- a slack, and which ones are finished, once more -/
structure Su (w0 w : World) (s n : Nat) (v : Value) (a : Nat → Nat) (x : SS) (V : Value) : Prop where
  sl : Hid (Sl w0 w s n v a x)
  own : w.ownsRow 0 4 1 V n (brow x.dn n)
  hv : ∀ g, V.ownBlock = some g → w0.heap.size ≤ g
section
variable {w0 w : World} {s n : Nat} {v : Value} {a : Nat → Nat} {x : SS} {V : Value}
theorem su_next {w1 : World} (h : Hid (Su w0 w s n v a x V)) (k : Below w.heap.size w w1) : Hid (Su w0 w1 s n v a x V) := Lib.hid ⟨sl_next h.out.sl k, ownsRow_keep h.out.own k, h.out.hv⟩
theorem in_box {w1 : World} {b : Nat} {vs : Array Value} {T : TypeId} (h : Hid (Sl w0 w s n v a x)) (k : Alt (In s n a) w w1) (hb : Box w b vs T) (h1 : T ≠ 48) (h2 : T ≠ 69) : Box w1 b vs T :=
  box_alt hb k (fun e => by
    rcases e with e | ⟨i, hi, e⟩
    · exact box_ne hb h.out.sk.out.box h1 e
    · exact box_ne hb (h.out.sk.out.acc i hi) h2 e)
theorem in_own {w1 : World} {e : TypeId} {m : Nat} {U : Value} {xs : List Value} {size : Nat} (h : Hid (Sl w0 w s n v a x)) (k : Alt (In s n a) w w1) (ho : w.ownsRow 0 e size U m xs) (h1 : e ≠ 48) (h2 : e ≠ 69) : w1.ownsRow 0 e size U m xs :=
  own_alt' ho k (fun g hg e => by
    rcases e with rfl | ⟨i, hi, rfl⟩
    · exact own_ne' ho h.out.sk.out.box h1 hg
    · exact own_ne' ho (h.out.sk.out.acc i hi) h2 hg)
theorem brow_congr {f g : Nat → Bool} {n : Nat} (h : ∀ i, i < n → f i = g i) : brow f n = brow g n := by
  unfold brow; apply List.map_congr_left; intro i hi; rw [h i (by simpa using hi)]
/-- a place of the other row is written -/
theorem sl_other {g j : Nat} {u : Value} {e : TypeId} {m size cap : Nat} {xs : List Value} (h : Hid (Sl w0 w s n v a x)) (ho : w.ownsRow 0 e size (.slice (some ⟨g, 0, none⟩) m cap) m xs) (hg : w0.heap.size ≤ g) (h1 : e ≠ 48) (h2 : e ≠ 69) (h3 : v.ownBlock ≠ some g) : Hid (Sl w0 (w.setCell ⟨g, j, none⟩ u) s n v a x) := by
  have hA : Alt (fun i => i = g) w (w.setCell ⟨g, j, none⟩ u) := Alt.set _ _ _ rfl
  exact Lib.hid ⟨hA.below h.out.bel h.out.bel.size (fun i hi => by rw [hi]; exact hg), h.out.hs, h.out.ha, h.out.hv, sk_alt h.out.sk hA (fun e => own_ne ho h.out.sk.out.box h1 e.symm) (fun i hi e => own_ne ho (h.out.sk.out.acc i hi) h2 e.symm) (fun b hb e => by subst e; exact h3 hb), h.out.ok⟩
end
/-- two rows of unlike kinds lie in unlike blocks -/
theorem own_apart {w : World} {b1 b2 : Nat} {e1 e2 : TypeId} {s1 s2 n m g : Nat} {v u : Value} {xs ys : List Value} (h : w.ownsRow b1 e1 s1 v n xs) (k : w.ownsRow b2 e2 s2 u m ys) (hne : e1 ≠ e2) (hg : u.ownBlock = some g) : v.ownBlock ≠ some g := by
  intro hv
  rcases h.2 with ⟨h', _⟩ | ⟨g1, cap1, cur1, hv1, hg1, hh1, r1⟩
  · rw [h'] at hv; simp [Value.ownBlock] at hv
  · rcases k.2 with ⟨k', _⟩ | ⟨g2, cap2, cur2, hv2, hg2, hh2, r2⟩
    · rw [k'] at hg; simp [Value.ownBlock] at hg
    · rw [hv1] at hv
      rw [hv2] at hg
      have a1 : g1 = g := by simpa [Value.ownBlock] using hv
      have a2 : g2 = g := by simpa [Value.ownBlock] using hg
      subst a1; subst a2
      rw [hh1] at hh2
      simp at hh2
      exact hne hh2.2

set_option maxRecDepth 100000 in
set_option maxHeartbeats 8000000 in
theorem sums_law (q : PartC) (aa : Option Addr) (an ac : Nat) (f : Nat → Nat → Int) (w : World) (ok : q.Ok w) (h : Hid (Open.RowsIn w aa an 3 f)) :
    Calls Try.prog 3 #[.agg #[.slice q.ra q.rn q.rc, .slice q.pa q.pn q.pc, .slice q.oa q.on q.oc, .slice q.sa q.sn q.sc, .int .i64 q.fl, .slice q.qa q.qn q.qc, .slice q.ta q.tn q.tc, .int .i64 q.cap, .int .i64 q.bud, .int .i64 q.lad, .slice q.ca q.cn q.cc], .slice aa an ac] w fun e w' => e = .returned (.bool true) ∧ Below w.heap.size w w' := by
  have B0 := Lib.hid (Box.new w #[.slice q.ra q.rn q.rc, .slice q.pa q.pn q.pc, .slice q.oa q.on q.oc, .slice q.sa q.sn q.sc, .int .i64 q.fl, .slice q.qa q.qn q.qc, .slice q.ta q.tn q.tc, .int .i64 q.cap, .int .i64 q.bud, .int .i64 q.lad, .slice q.ca q.cn q.cc] 29)
  have HB0 : Hid (Below w.heap.size w (w.alloc (.cells #[.slice q.ra q.rn q.rc, .slice q.pa q.pn q.pc, .slice q.oa q.on q.oc, .slice q.sa q.sn q.sc, .int .i64 q.fl, .slice q.qa q.qn q.qc, .slice q.ta q.tn q.tc, .int .i64 q.cap, .int .i64 q.bud, .int .i64 q.lad, .slice q.ca q.cn q.cc] 29))) := Lib.hid ((Below.refl w.heap.size w).alloc (Nat.le_refl _) _)
  have R := ok.proc
  have ic := ok.cap
  have hm := R.out.1
  clear ok
  by_cases hpn : q.pn ≤ 100
  · have hpn' : ((q.pn : Nat) : Int) ≤ 100 := by omega
    go_enter Try.func3, Try.ntmps3
    go_wp2_with fail
    generalize w.alloc (.cells #[.slice q.ra q.rn q.rc, .slice q.pa q.pn q.pc, .slice q.oa q.on q.oc, .slice q.sa q.sn q.sc, .int .i64 q.fl, .slice q.qa q.qn q.qc, .slice q.ta q.tn q.tc, .int .i64 q.cap, .int .i64 q.bud, .int .i64 q.lad, .slice q.ca q.cn q.cc] 29) = W at B0 HB0 ⊢
    refine (sl_new (w0 := w) _ _ _ _ _ _ q.pf _ _ _ _ _ _ _ _ _ _ HB0 (Lib.hid (rows_below R.out HB0.out (Nat.le_refl _))) hpn ic).mono ?_
    rintro e1 w2 ⟨s, v, a, rfl, S, hb2⟩
    have B2 := Lib.hid (B0.out.next hb2)
    clear hb2 B0
    obtain ⟨first, hf⟩ : ∃ z, leftS q.pn (ini q.cap q.pf) = z := ⟨_, rfl⟩
    have HF := Lib.hid hf
    have fb := leftS_bd S.out.ok
    rw [hf] at fb
    obtain ⟨f0, -, f1⟩ := fb
    clear hf
    go_wp2_with fail
    refine (sl_left S first HF).mono ?_
    rintro e1 w3 ⟨rfl, hb3⟩
    have S := sl_next S hb3
    have B3 := Lib.hid (B2.out.next hb3)
    clear hb3 B2
    go_wp2_with fail
    refine (sl_left S first HF).mono ?_
    rintro e1 w4 ⟨rfl, hb4⟩
    have S := sl_next S hb4
    have B4 := Lib.hid (B3.out.next hb4)
    clear hb4 B3
    obtain ⟨w5, r5, o5, g5⟩ := make_bools w4 q.pn (by omega)
    have S5 := sl_next S (⟨g5.os, g5.tape, g5.output, g5.size, fun i hi => g5.block i hi (by simp)⟩ : Below w4.heap.size w4 w5)
    have SU : Hid (Su w w5 s q.pn v a (ini q.cap q.pf) (.slice (some ⟨w4.heap.size, 0, none⟩) q.pn q.pn)) := Lib.hid ⟨S5, own_base o5 (fun _ _ => Nat.zero_le _), fun g hg => by
      have : w4.heap.size = g := by simpa [Value.ownBlock] using hg
      have := S.out.bel.size
      omega⟩
    have bc := B4.out.cell
    clear o5 g5 S5 S
    go_wp2_with fail
    clear bc r5 B4
    have hG := SU.out.hv w4.heap.size rfl
    generalize w4.heap.size = G at SU hG ⊢
    go_loopw [7, 8, 10] (fun la sp i wr => ∃ (k : Nat) (x : SS) (left spent : Int), k ≤ an ∧ k ≤ 60 ∧ i = .int .i64 k ∧ la = .int .i64 left ∧ sp = .int .i64 spent ∧ 0 ≤ spent ∧ spent + left ≤ first ∧ 0 ≤ left ∧ Hid (leftS q.pn x = left) ∧ Hid (Su w wr s q.pn v a x (.slice (some ⟨G, 0, none⟩) q.pn q.pn))) (fun _ _ i _ => 60 - (intOf i).toNat)
    case atStart => exact ⟨0, _, first, 0, by omega, by omega, rfl, rfl, rfl, by omega, by omega, f0, HF, SU⟩
    case round =>
      clear SU
      obtain ⟨k, x, left, spent, hk, hk6, rfl, rfl, rfl, sp0, sp1, l0, HL, SU⟩ := hrel
      by_cases hlt : k < an ∧ k < 60
      · obtain ⟨hlt, h6⟩ := hlt
        obtain ⟨b, off, rfl, hbl, c0, c1, c2, i0, i1, i2⟩ := rows_at3 h k hlt
        have c0 := keep SU.out.sl.out.bel c0 hbl
        have c1 := keep SU.out.sl.out.bel c1 hbl
        have c2 := keep SU.out.sl.out.bel c2 hbl
        generalize f k 0 = d at *
        generalize f k 1 = p at *
        generalize f k 2 = c at *
        have X0 := Lib.hid (Box.new wr #[.int .i64 d, .int .i64 p, .int .i64 c] 37)
        have SU := su_next SU ((Below.refl wr.heap.size wr).alloc (Nat.le_refl _) (.cells #[.int .i64 d, .int .i64 p, .int .i64 c] 37))
        by_cases hd1 : d = 1
        · subst hd1
          have fl := fin_left SU.out.sl.out.ok p
          have fb := leftS_bd (fin_ok SU.out.sl.out.ok p)
          obtain ⟨l2, hl2⟩ : ∃ z, leftS q.pn (finS q.pn x p) = z := ⟨_, rfl⟩
          have HL2 := Lib.hid hl2
          rw [HL.out, hl2] at fl
          rw [hl2] at fb
          obtain ⟨g0, -, g1⟩ := fb
          have C1 := Lib.hid (sl_finish SU.out.sl p _ (Lib.hid rfl))
          clear hl2
          by_cases hp : 0 ≤ p ∧ p < (q.pn : Int)
          · obtain ⟨j, rfl⟩ := Int.eq_ofNat_of_zero_le hp.1
            have hj : j < q.pn := by omega
            clear hp
            go_wp2_with fail
            refine C1.out.mono ?_
            rintro e1 w6 ⟨rfl, S6, k6⟩
            have X6 := Lib.hid (in_box SU.out.sl k6 X0.out (by decide) (by decide))
            have O6 := Lib.hid (in_own SU.out.sl k6 SU.out.own (by decide) (by decide))
            clear k6 X0
            have xc := X6.out.cell
            have gc : w6.cell? ⟨G, j, none⟩ = some (.bool (x.dn j)) := by rw [O6.out.cellAt j (by omega), brow_get x.dn q.pn j hj]
            have gf := O6.out.frozenAt j
            have O7 := (O6.out.stored j (.bool true)).1
            rw [brow_set] at O7
            have S7 := sl_other (j := j) (u := .bool true) S6 O6.out hG (by decide) (by decide) (own_apart S6.out.sk.out.own O6.out (by decide) rfl)
            have SU : Hid (Su w (w6.setCell ⟨G, j, none⟩ (.bool true)) s q.pn v a (finS q.pn x (j : Int)) (.slice (some ⟨G, 0, none⟩) q.pn q.pn)) := Lib.hid ⟨S7, by
              have e : (finS q.pn x (j : Int)).dn = fun i => if i = j then true else x.dn i := by unfold finS; rw [if_pos ⟨by omega, by omega⟩, Int.toNat_natCast]; rfl
              rw [e]; exact O7, fun g hg => by
              have : G = g := by simpa [Value.ownBlock] using hg
              omega⟩
            clear O7 S7
            go_wp2_with fail
            clear xc gc gf
            refine (sl_left SU.out.sl l2 HL2).mono ?_
            rintro e1 w7 ⟨rfl, hb7⟩
            have SU := su_next SU hb7
            clear hb7
            go_wp2_with fail
            refine (sl_left SU.out.sl l2 HL2).mono ?_
            rintro e1 w7 ⟨rfl, hb7⟩
            have SU := su_next SU hb7
            clear hb7
            go_wp2_with fail
            refine (sl_left SU.out.sl l2 HL2).mono ?_
            rintro e1 w7 ⟨rfl, hb7⟩
            have SU := su_next SU hb7
            clear hb7
            go_wp2_with fail
            refine (sl_left SU.out.sl l2 HL2).mono ?_
            rintro e1 w7 ⟨rfl, hb7⟩
            have SU := su_next SU hb7
            clear hb7
            go_wp2_with fail
            go_roundw
            case rel => exact ⟨k + 1, _, l2, spent, by omega, by omega, by go_num, rfl, rfl, by omega, by omega, by omega, HL2, SU⟩
            case measure => simp [intOf]; omega
          · have e : finS q.pn x p = x := by unfold finS; rw [if_neg hp]
            have ways : p < 0 ∨ (0 ≤ p ∧ (q.pn : Int) ≤ p) := by omega
            rw [e] at C1 HL2
            clear e hp
            rcases ways with hp | ⟨hp1, hp⟩
            all_goals
              go_wp2_with fail
              refine C1.out.mono ?_
              rintro e1 w6 ⟨rfl, S6, k6⟩
              have O6 := Lib.hid (in_own SU.out.sl k6 SU.out.own (by decide) (by decide))
              clear k6 X0
              have SU : Hid (Su w w6 s q.pn v a x (.slice (some ⟨G, 0, none⟩) q.pn q.pn)) := Lib.hid ⟨S6, O6.out, SU.out.hv⟩
              go_wp2_with fail
              refine (sl_left SU.out.sl l2 HL2).mono ?_
              rintro e1 w7 ⟨rfl, hb7⟩
              have SU := su_next SU hb7
              clear hb7
              go_wp2_with fail
              refine (sl_left SU.out.sl l2 HL2).mono ?_
              rintro e1 w7 ⟨rfl, hb7⟩
              have SU := su_next SU hb7
              clear hb7
              go_wp2_with fail
              refine (sl_left SU.out.sl l2 HL2).mono ?_
              rintro e1 w7 ⟨rfl, hb7⟩
              have SU := su_next SU hb7
              clear hb7
              go_wp2_with fail
              refine (sl_left SU.out.sl l2 HL2).mono ?_
              rintro e1 w7 ⟨rfl, hb7⟩
              have SU := su_next SU hb7
              clear hb7
              go_wp2_with fail
              go_roundw
              case rel => exact ⟨k + 1, _, l2, spent, by omega, by omega, by go_num, rfl, rfl, by omega, by omega, by omega, HL2, SU⟩
              case measure => simp [intOf]; omega
        have q1 : (d == 1) = false := by simpa using hd1
        by_cases hd0 : d = 0
        · subst hd0
          by_cases hp : 0 ≤ p ∧ p < (q.pn : Int)
          · obtain ⟨j, rfl⟩ := Int.eq_ofNat_of_zero_le hp.1
            have hj : j < q.pn := by omega
            have gc : (wr.alloc (.cells #[.int .i64 0, .int .i64 (j : Int), .int .i64 c] 37)).cell? ⟨G, j, none⟩ = some (.bool (x.dn j)) := by rw [SU.out.own.cellAt j (by omega), brow_get x.dn q.pn j hj]
            cases hdn : x.dn j
            · rw [hdn] at gc
              obtain ⟨r, hr⟩ : ∃ z, (spendP q.pn x (j : Int) c).1 = z := ⟨_, rfl⟩
              obtain ⟨y, hy⟩ : ∃ z, (spendP q.pn x (j : Int) c).2 = z := ⟨_, rfl⟩
              have sl := spend_left SU.out.sl.out.ok (j : Int) c (fun _ => by rw [Int.toNat_natCast]; exact hdn)
              have so := spend_ok SU.out.sl.out.ok (j : Int) c
              have ey : y.dn = x.dn := by rw [← hy]; unfold spendP; split <;> rfl
              have EY := Lib.hid ey
              rw [hr, hy, HL.out] at sl
              rw [hr, hy] at so
              have sb := leftS_bd so.1
              obtain ⟨l2, hl2⟩ : ∃ z, leftS q.pn y = z := ⟨_, rfl⟩
              rw [hl2] at sl sb
              have HL2 := Lib.hid hl2
              obtain ⟨s1, s2⟩ := sl
              obtain ⟨-, r0⟩ := so
              obtain ⟨g0, -, g1⟩ := sb
              have C1 := Lib.hid (sl_spend SU.out.sl (j : Int) c i2 r y (Lib.hid (Prod.ext hr hy)))
              have S1 := Lib.hid s1
              have fl : l2 ≤ left := by omega
              have tt : spent + r + l2 ≤ first := by omega
              clear s1 hl2 hy hr hdn ey hp
              have xc := X0.out.cell
              go_wp2_with fail
              refine C1.out.mono ?_
              rintro e1 w6 ⟨rfl, S6, k6⟩
              have O6 := Lib.hid (in_own SU.out.sl k6 SU.out.own (by decide) (by decide))
              clear k6 X0 xc gc
              have SU : Hid (Su w w6 s q.pn v a y (.slice (some ⟨G, 0, none⟩) q.pn q.pn)) := Lib.hid ⟨S6, by rw [EY.out]; exact O6.out, SU.out.hv⟩
              go_wp2_with fail
              refine (sl_left SU.out.sl l2 HL2).mono ?_
              rintro e1 w7 ⟨rfl, hb7⟩
              have SU := su_next SU hb7
              clear hb7
              go_wp2_with fail
              refine (sl_left SU.out.sl l2 HL2).mono ?_
              rintro e1 w7 ⟨rfl, hb7⟩
              have SU := su_next SU hb7
              clear hb7
              go_wp2_with fail
              refine (sl_left SU.out.sl l2 HL2).mono ?_
              rintro e1 w7 ⟨rfl, hb7⟩
              have SU := su_next SU hb7
              clear hb7
              go_wp2_with fail
              refine (sl_left SU.out.sl l2 HL2).mono ?_
              rintro e1 w7 ⟨rfl, hb7⟩
              have SU := su_next SU hb7
              clear hb7
              go_wp2_with fail
              go_roundw
              case rel => exact ⟨k + 1, _, l2, spent + r, by omega, by omega, by go_num, rfl, rfl, by omega, by omega, by omega, HL2, SU⟩
              case measure => simp [intOf]; omega
            · rw [hdn] at gc
              have xc := X0.out.cell
              clear hdn hp
              go_wp2_with fail
              go_roundw
              case rel => exact ⟨k + 1, _, left, spent, by omega, by omega, by go_num, rfl, rfl, by omega, by omega, by omega, HL, SU⟩
              case measure => simp [intOf]; omega
          · have ways : p < 0 ∨ (0 ≤ p ∧ (q.pn : Int) ≤ p) := by omega
            clear hp
            have xc := X0.out.cell
            rcases ways with hp | ⟨hp1, hp⟩
            all_goals
              go_wp2_with fail
              go_roundw
              case rel => exact ⟨k + 1, _, left, spent, by omega, by omega, by go_num, rfl, rfl, by omega, by omega, by omega, HL, SU⟩
              case measure => simp [intOf]; omega
        · have q0 : (d == 0) = false := by simpa using hd0
          have ways : p < 0 ∨ (0 ≤ p ∧ (q.pn : Int) ≤ p) ∨ (0 ≤ p ∧ p < (q.pn : Int)) := by omega
          have xc := X0.out.cell
          clear hd0 hd1
          rcases ways with hp | ⟨hp1, hp⟩ | ⟨hp1, hp⟩
          all_goals
            go_wp2_with fail
            go_roundw
            case rel => exact ⟨k + 1, _, left, spent, by omega, by omega, by go_num, rfl, rfl, by omega, by omega, by omega, HL, SU⟩
            case measure => simp [intOf]; omega
      · have ways : (k < an ∧ k = 60) ∨ k = an := by omega
        clear hlt
        rcases ways with ⟨hlt, rfl⟩ | rfl
        all_goals
          go_wp2_with fail
          refine (works_any _).mono ?_
          rintro e1 w6 ⟨rfl, hb6⟩
          have HB := Lib.hid (below_next SU.out.sl.out.bel hb6)
          clear hb6
          go_wp2_with fail
          go_ret
          exact ⟨rfl, HB.out⟩
  · have hpn' : 100 < ((q.pn : Nat) : Int) := by omega
    go_enter Try.func3, Try.ntmps3
    go_wp2_with fail
    refine (works_any _).mono ?_
    rintro e1 w2 ⟨rfl, hb2⟩
    have HB := Lib.hid (below_next HB0.out hb2)
    clear hb2
    go_wp2_with fail
    go_ret
    exact ⟨rfl, HB.out⟩
end Go.Proofs.Ytaoghiijgcdbgaa.SlkF

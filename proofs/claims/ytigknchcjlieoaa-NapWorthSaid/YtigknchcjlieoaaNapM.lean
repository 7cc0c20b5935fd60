/- Package nap's laws: NapWakes. -/
import Derived.Test.YtigknchcjlieoaaNapL
namespace Go.Proofs.Ytigknchcjlieoaa.NapM
open Go.RowKit Go.Shelf Base Kit Conf PowA PowB PowC PowR WideB Alt RefA Boo LvlA LvlG LvlH LvlI LvlJ LvlP OscPlain OscZ NapA NapB NapC NapD NapE NapF NapG NapH NapI NapL
set_option linter.unusedVariables false
set_option linter.unusedSimpArgs false

theorem pick_cases (p : PowC) (now en c : Int) : PickR p now en c = -1 ∨ ∃ y : Nat, PickR p now en c = (y : Int) ∧ 1 ≤ CntR p (y : Int) now en := by
  unfold PickR
  split
  · unfold BestR
    by_cases h0 : (lst p now en p.nn).length = 0
    · rw [if_pos h0]; exact .inl rfl
    · rw [if_neg h0]
      split
      · exact .inl rfl
      · refine .inr ⟨_, rfl, ?_⟩
        have := bM_mem (fun k => costN p k now en) h0
        unfold lst at this
        split at this
        · simp at this
        · unfold lst
          rename_i h1 h2
          rw [if_neg h2]
          exact (naw_mem this).2
  · unfold pk
    split
    · exact .inl rfl
    · refine .inr ⟨_, rfl, ?_⟩
      have hlt : (c - 1).toNat % (1 + (nawL p now en).length) < 1 + (nawL p now en).length := Nat.mod_lt _ (by omega)
      have h9 : (nawL p now en).getD ((c - 1).toNat % (1 + (nawL p now en).length) - 1) 0 ∈ nawL p now en := mem_get (by omega)
      exact (naw_mem (k := p.nn) h9).2
theorem guard_fits {h p b ns : Int} (hw : ¬ bad h p ∧ -b ≤ p ∧ p ≤ b) (hb0 : 0 ≤ b) (hb1 : b ≤ 100000) (hns : 0 ≤ ns) (hns1 : ns ≤ 9223372036854775807) :
    0 ≤ cnt h (-b) ns ∧ cnt h (-b) ns ≤ 1000000000000 ∧ fits h p (cnt h (-b) ns) ns = true := by
  have hbb : ¬ bad h (-b) := by have := hw.1; unfold bad at *; omega
  obtain ⟨f1, _⟩ := cnt_fits hbb hns
  obtain ⟨b1, b2⟩ := cnt_bd hbb hns
  refine ⟨b1, b2, (fits_iff hw.1 b1 b2 hns1).2 ?_⟩
  obtain ⟨_, _, d3, d4, d5, d6⟩ := dd_bd hw.1
  have m1 : dd h (-b) ≤ dd h p := by unfold dd; exact Int.mul_le_mul_of_nonneg_left (by omega) (by omega)
  have m2 : ns * dd h (-b) ≤ ns * dd h p := Int.mul_le_mul_of_nonneg_left m1 hns
  omega
theorem wakes_fit {p : PowC} {now en d : Int} {y : Nat} (h : 1 ≤ CntR p (y : Int) now en) (h1 : -p.pp ≤ d) (h2 : d ≤ p.pp) : ∃ tt, WakR p (y : Int) now (CntR p (y : Int) now en) d = (tt, 0) ∧ now ≤ tt ∧ tt ≤ en := by
  obtain ⟨k, e, hk, may, h0, hc⟩ := cnt_ge h
  obtain rfl : y = k := by omega
  have pb := rest_bd may.1
  have rb := room_bd may hk
  have nb := nap_bd may.1 hk
  have m := may.2
  have g := guard_fits ⟨slow_ok may.1 h1 h2, h1, h2⟩ pb.2.2.2.2.2.1.1 pb.2.2.2.2.2.1.2 h0 (by omega)
  have hcn : cntN p y now en = cnt p.sl (-p.pp) (roomN p y now en) := by unfold cntN; rw [if_neg (by omega)]
  have f := g.2.2
  rw [← hcn, ← hc] at f
  unfold fits at f
  rw [Bool.and_eq_true, beq_iff_eq, decide_eq_true_iff] at f
  have e0 := el_nn p.sl d (CntR p (y : Int) now en)
  refine ⟨now + p.nf y 1 + (el p.sl d (CntR p (y : Int) now en)).1 + p.nf y 2, ?_, by omega, ?_⟩
  · unfold WakR
    rw [if_pos ⟨⟨may.1, m.1, by omega, by omega⟩, by omega, by omega⟩, if_neg (by omega), Int.toNat_natCast]
  · have := f.2
    unfold roomN at this
    omega

/-- three boxes -/
structure Th (w0 w : World) (A B C : Array Value) (T U V : TypeId) : Prop where
  bel : Below w0.heap.size w0 w
  one : Box w w0.heap.size A T
  two : Box w (w0.heap.size + 1) B U
  three : Box w (w0.heap.size + 1 + 1) C V
theorem th_next {w0 w w1 : World} {A B C : Array Value} {T U V : TypeId} (h : Hid (Th w0 w A B C T U V)) (k : Below w.heap.size w w1) : Hid (Th w0 w1 A B C T U V) :=
  Lib.hid ⟨below_next h.out.bel k, h.out.one.next k, h.out.two.next k, h.out.three.next k⟩
theorem th_in (w : World) (A B C : Array Value) (T U V : TypeId) : Hid (Th w (((w.alloc (.cells A T)).alloc (.cells B U)).alloc (.cells C V)) A B C T U V) := by
  have b2 := (Box.new (w.alloc (.cells A T)) B U).alloc (.cells C V)
  have b3 := Box.new ((w.alloc (.cells A T)).alloc (.cells B U)) C V
  rw [World.size_alloc] at b2
  rw [World.size_alloc, World.size_alloc] at b3
  exact Lib.hid ⟨(((Below.refl _ _).alloc (Nat.le_refl _) _).alloc (by simp) _).alloc (by simp; omega) _, ((Box.new w A T).alloc _).alloc _, b2, b3⟩
set_option maxRecDepth 100000 in
set_option maxHeartbeats 8000000 in
theorem wakes_law (p : PowC) (n0 n1 m0 m1 m2 : Int) (w : World) (ok : p.Ok w) (h0 : I64 n0) (h1 : I64 n1) (h2 : I64 m0) (h3 : I64 m1) (h4 : I64 m2) :
    Calls Try.prog 10 #[.agg #[.slice p.la p.ln p.lc, .slice p.na p.nn p.nc, .int .i64 p.sw, .int .i64 p.id, .int .i64 p.ch, .int .i64 p.qu, .int .i64 p.sl, .int .i64 p.pp], .agg #[.int .i64 n0, .int .i64 n1], .agg #[.int .i64 m0, .int .i64 m1, .int .i64 m2]] w fun e w' => e = .returned (.bool true) ∧ Below w.heap.size w w' := by
  by_cases hf : p.ln ≤ 100 ∧ p.nn ≤ 100
  · have h100 := hf.2
    have F := Lib.hid (fun w1 (h : Below w.heap.size w w1) => fewn_any p w1 (ok.below h (Nat.le_refl _)) true (Lib.hid (by simpa using hf)))
    obtain ⟨⟨x, e⟩, hx⟩ : ∃ x, WakR p m0 n0 m1 m2 = x := ⟨_, rfl⟩
    have okh := fun w1 (h : Below w.heap.size w w1) => ok.below h (Nat.le_refl _)
    have C1 := Lib.hid (fun w1 h => Wakes_any p m0 n0 m1 m2 h3 w1 (okh w1 h) x e (Lib.hid hx))
    have C2 := Lib.hid (fun w1 h => Wakesr_any p m0 n0 m1 m2 h3 w1 (okh w1 h) x e (Lib.hid hx))
    clear hx
    rcases pick_cases p n0 n1 m0 with hy | ⟨y, hy, hge⟩
    · have C3 := Lib.hid (fun w1 h => Pick_any p n0 n1 m0 h2 w1 (okh w1 h) h100 _ (Lib.hid hy))
      clear hy okh
      have S := th_in w #[.slice p.la p.ln p.lc, .slice p.na p.nn p.nc, .int .i64 p.sw, .int .i64 p.id, .int .i64 p.ch, .int .i64 p.qu, .int .i64 p.sl, .int .i64 p.pp] #[.int .i64 n0, .int .i64 n1] #[.int .i64 m0, .int .i64 m1, .int .i64 m2] 25 28 58
      have bc := S.out.one.cell
      have bn := S.out.two.cell
      have bm := S.out.three.cell
      go_enter Try.func10, Try.ntmps10
      go_wp2_with fail
      generalize ((w.alloc (.cells #[.slice p.la p.ln p.lc, .slice p.na p.nn p.nc, .int .i64 p.sw, .int .i64 p.id, .int .i64 p.ch, .int .i64 p.qu, .int .i64 p.sl, .int .i64 p.pp] 25)).alloc (.cells #[.int .i64 n0, .int .i64 n1] 28)).alloc (.cells #[.int .i64 m0, .int .i64 m1, .int .i64 m2] 58) = W at S bc bn bm ⊢
      refine (F.out _ S.out.bel).mono ?_
      rintro e1 w2 ⟨rfl, hb2⟩
      have S := th_next S hb2
      clear hb2 bc bn bm
      have bc := S.out.one.cell
      have bn := S.out.two.cell
      have bm := S.out.three.cell
      go_wp2_with fail
      refine (C1.out _ S.out.bel).mono ?_
      rintro e1 w2 ⟨rfl, hb2⟩
      have S := th_next S hb2
      clear hb2 bc bn bm
      have bc := S.out.one.cell
      have bn := S.out.two.cell
      have bm := S.out.three.cell
      go_wp2_with fail
      refine (C2.out _ S.out.bel).mono ?_
      rintro e1 w2 ⟨rfl, hb2⟩
      have S := th_next S hb2
      clear hb2 bc bn bm
      have bc := S.out.one.cell
      have bn := S.out.two.cell
      have bm := S.out.three.cell
      go_wp2_with fail
      refine (C3.out _ S.out.bel).mono ?_
      rintro e1 w2 ⟨rfl, hb2⟩
      have S := th_next S hb2
      clear hb2 bc bn bm
      have bc := S.out.one.cell
      have bn := S.out.two.cell
      have bm := S.out.three.cell
      go_wp2_with fail
      refine (worksn_any _).mono ?_
      rintro e1 w2 ⟨rfl, hb2⟩
      have S := th_next S hb2
      clear hb2
      go_wp2_with fail
      go_ret
      exact ⟨rfl, S.out.bel⟩
    · have C3 := Lib.hid (fun w1 h => Pick_any p n0 n1 m0 h2 w1 (okh w1 h) h100 _ (Lib.hid hy))
      obtain ⟨k9, e9, hk, may, hroom, hcn⟩ := cnt_ge hge
      obtain rfl : y = k9 := by omega
      clear e9
      have pb := (rest_bd may.1).2.2.2.2.2.1
      have cb := cntN_bd (p := p) (k := y) (now := n0) (en := n1) may.1
      obtain ⟨pb1, pb2⟩ := pb
      have y63 : y < p.nn := by omega
      by_cases hd1 : p.pp < m2
      · clear hy okh may hge
        have S := th_in w #[.slice p.la p.ln p.lc, .slice p.na p.nn p.nc, .int .i64 p.sw, .int .i64 p.id, .int .i64 p.ch, .int .i64 p.qu, .int .i64 p.sl, .int .i64 p.pp] #[.int .i64 n0, .int .i64 n1] #[.int .i64 m0, .int .i64 m1, .int .i64 m2] 25 28 58
        have bc := S.out.one.cell
        have bn := S.out.two.cell
        have bm := S.out.three.cell
        go_enter Try.func10, Try.ntmps10
        go_wp2_with fail
        generalize ((w.alloc (.cells #[.slice p.la p.ln p.lc, .slice p.na p.nn p.nc, .int .i64 p.sw, .int .i64 p.id, .int .i64 p.ch, .int .i64 p.qu, .int .i64 p.sl, .int .i64 p.pp] 25)).alloc (.cells #[.int .i64 n0, .int .i64 n1] 28)).alloc (.cells #[.int .i64 m0, .int .i64 m1, .int .i64 m2] 58) = W at S bc bn bm ⊢
        refine (F.out _ S.out.bel).mono ?_
        rintro e1 w2 ⟨rfl, hb2⟩
        have S := th_next S hb2
        clear hb2 bc bn bm
        have bc := S.out.one.cell
        have bn := S.out.two.cell
        have bm := S.out.three.cell
        go_wp2_with fail
        refine (C1.out _ S.out.bel).mono ?_
        rintro e1 w2 ⟨rfl, hb2⟩
        have S := th_next S hb2
        clear hb2 bc bn bm
        have bc := S.out.one.cell
        have bn := S.out.two.cell
        have bm := S.out.three.cell
        go_wp2_with fail
        refine (C2.out _ S.out.bel).mono ?_
        rintro e1 w2 ⟨rfl, hb2⟩
        have S := th_next S hb2
        clear hb2 bc bn bm
        have bc := S.out.one.cell
        have bn := S.out.two.cell
        have bm := S.out.three.cell
        go_wp2_with fail
        refine (C3.out _ S.out.bel).mono ?_
        rintro e1 w2 ⟨rfl, hb2⟩
        have S := th_next S hb2
        clear hb2 bc bn bm
        have bc := S.out.one.cell
        have bn := S.out.two.cell
        have bm := S.out.three.cell
        go_wp2_with fail
        refine (worksn_any _).mono ?_
        rintro e1 w2 ⟨rfl, hb2⟩
        have S := th_next S hb2
        clear hb2
        go_wp2_with fail
        go_ret
        exact ⟨rfl, S.out.bel⟩
      · have hd1 : m2 ≤ p.pp := by omega
        by_cases hd2 : m2 < 0 - p.pp
        · clear hy okh may hge
          have S := th_in w #[.slice p.la p.ln p.lc, .slice p.na p.nn p.nc, .int .i64 p.sw, .int .i64 p.id, .int .i64 p.ch, .int .i64 p.qu, .int .i64 p.sl, .int .i64 p.pp] #[.int .i64 n0, .int .i64 n1] #[.int .i64 m0, .int .i64 m1, .int .i64 m2] 25 28 58
          have bc := S.out.one.cell
          have bn := S.out.two.cell
          have bm := S.out.three.cell
          go_enter Try.func10, Try.ntmps10
          go_wp2_with fail
          generalize ((w.alloc (.cells #[.slice p.la p.ln p.lc, .slice p.na p.nn p.nc, .int .i64 p.sw, .int .i64 p.id, .int .i64 p.ch, .int .i64 p.qu, .int .i64 p.sl, .int .i64 p.pp] 25)).alloc (.cells #[.int .i64 n0, .int .i64 n1] 28)).alloc (.cells #[.int .i64 m0, .int .i64 m1, .int .i64 m2] 58) = W at S bc bn bm ⊢
          refine (F.out _ S.out.bel).mono ?_
          rintro e1 w2 ⟨rfl, hb2⟩
          have S := th_next S hb2
          clear hb2 bc bn bm
          have bc := S.out.one.cell
          have bn := S.out.two.cell
          have bm := S.out.three.cell
          go_wp2_with fail
          refine (C1.out _ S.out.bel).mono ?_
          rintro e1 w2 ⟨rfl, hb2⟩
          have S := th_next S hb2
          clear hb2 bc bn bm
          have bc := S.out.one.cell
          have bn := S.out.two.cell
          have bm := S.out.three.cell
          go_wp2_with fail
          refine (C2.out _ S.out.bel).mono ?_
          rintro e1 w2 ⟨rfl, hb2⟩
          have S := th_next S hb2
          clear hb2 bc bn bm
          have bc := S.out.one.cell
          have bn := S.out.two.cell
          have bm := S.out.three.cell
          go_wp2_with fail
          refine (C3.out _ S.out.bel).mono ?_
          rintro e1 w2 ⟨rfl, hb2⟩
          have S := th_next S hb2
          clear hb2 bc bn bm
          have bc := S.out.one.cell
          have bn := S.out.two.cell
          have bm := S.out.three.cell
          go_wp2_with fail
          refine (worksn_any _).mono ?_
          rintro e1 w2 ⟨rfl, hb2⟩
          have S := th_next S hb2
          clear hb2
          go_wp2_with fail
          go_ret
          exact ⟨rfl, S.out.bel⟩
        · have hd2 : -p.pp ≤ m2 := by omega
          obtain ⟨tt, hto, t0, t1⟩ := wakes_fit hge hd2 hd1
          have cb2 : CntR p (y : Int) n0 n1 ≤ 1000000000000 := by
            have e : CntR p (y : Int) n0 n1 = cntN p y n0 n1 := by unfold CntR; rw [if_pos ⟨may, by omega, by omega⟩, Int.toNat_natCast]
            omega
          obtain ⟨c, hc⟩ : ∃ c, CntR p (y : Int) n0 n1 = c := ⟨_, rfl⟩
          rw [hc] at hto hge cb2
          have C4 := Lib.hid (fun w1 h => Counts_any p (y : Int) n0 n1 w1 (okh w1 h) c (Lib.hid hc))
          have C5 := Lib.hid (fun w1 h => Wakes_any p (y : Int) n0 c m2 ⟨by omega, by omega⟩ w1 (okh w1 h) tt 0 (Lib.hid hto))
          clear hy okh may hto hc hcn
          have S := th_in w #[.slice p.la p.ln p.lc, .slice p.na p.nn p.nc, .int .i64 p.sw, .int .i64 p.id, .int .i64 p.ch, .int .i64 p.qu, .int .i64 p.sl, .int .i64 p.pp] #[.int .i64 n0, .int .i64 n1] #[.int .i64 m0, .int .i64 m1, .int .i64 m2] 25 28 58
          have bc := S.out.one.cell
          have bn := S.out.two.cell
          have bm := S.out.three.cell
          go_enter Try.func10, Try.ntmps10
          go_wp2_with fail
          generalize ((w.alloc (.cells #[.slice p.la p.ln p.lc, .slice p.na p.nn p.nc, .int .i64 p.sw, .int .i64 p.id, .int .i64 p.ch, .int .i64 p.qu, .int .i64 p.sl, .int .i64 p.pp] 25)).alloc (.cells #[.int .i64 n0, .int .i64 n1] 28)).alloc (.cells #[.int .i64 m0, .int .i64 m1, .int .i64 m2] 58) = W at S bc bn bm ⊢
          refine (F.out _ S.out.bel).mono ?_
          rintro e1 w2 ⟨rfl, hb2⟩
          have S := th_next S hb2
          clear hb2 bc bn bm
          have bc := S.out.one.cell
          have bn := S.out.two.cell
          have bm := S.out.three.cell
          go_wp2_with fail
          refine (C1.out _ S.out.bel).mono ?_
          rintro e1 w2 ⟨rfl, hb2⟩
          have S := th_next S hb2
          clear hb2 bc bn bm
          have bc := S.out.one.cell
          have bn := S.out.two.cell
          have bm := S.out.three.cell
          go_wp2_with fail
          refine (C2.out _ S.out.bel).mono ?_
          rintro e1 w2 ⟨rfl, hb2⟩
          have S := th_next S hb2
          clear hb2 bc bn bm
          have bc := S.out.one.cell
          have bn := S.out.two.cell
          have bm := S.out.three.cell
          go_wp2_with fail
          refine (C3.out _ S.out.bel).mono ?_
          rintro e1 w2 ⟨rfl, hb2⟩
          have S := th_next S hb2
          clear hb2 bc bn bm
          have bc := S.out.one.cell
          have bn := S.out.two.cell
          have bm := S.out.three.cell
          go_wp2_with fail
          refine (C4.out _ S.out.bel).mono ?_
          rintro e1 w2 ⟨rfl, hb2⟩
          have S := th_next S hb2
          clear hb2 bc bn bm
          have bc := S.out.one.cell
          have bn := S.out.two.cell
          have bm := S.out.three.cell
          go_wp2_with fail
          refine (C5.out _ S.out.bel).mono ?_
          rintro e1 w2 ⟨rfl, hb2⟩
          have S := th_next S hb2
          clear hb2 bc bn bm
          have bc := S.out.one.cell
          have bn := S.out.two.cell
          have bm := S.out.three.cell
          go_wp2_with fail
          refine (worksn_any _).mono ?_
          rintro e1 w2 ⟨rfl, hb2⟩
          have S := th_next S hb2
          clear hb2
          go_wp2_with fail
          go_ret
          exact ⟨rfl, S.out.bel⟩
  · have F := Lib.hid (fun w1 (h : Below w.heap.size w w1) => fewn_any p w1 (ok.below h (Nat.le_refl _)) false (Lib.hid (by simpa using hf)))
    have S := th_in w #[.slice p.la p.ln p.lc, .slice p.na p.nn p.nc, .int .i64 p.sw, .int .i64 p.id, .int .i64 p.ch, .int .i64 p.qu, .int .i64 p.sl, .int .i64 p.pp] #[.int .i64 n0, .int .i64 n1] #[.int .i64 m0, .int .i64 m1, .int .i64 m2] 25 28 58
    have bc := S.out.one.cell
    have bn := S.out.two.cell
    have bm := S.out.three.cell
    go_enter Try.func10, Try.ntmps10
    go_wp2_with fail
    generalize ((w.alloc (.cells #[.slice p.la p.ln p.lc, .slice p.na p.nn p.nc, .int .i64 p.sw, .int .i64 p.id, .int .i64 p.ch, .int .i64 p.qu, .int .i64 p.sl, .int .i64 p.pp] 25)).alloc (.cells #[.int .i64 n0, .int .i64 n1] 28)).alloc (.cells #[.int .i64 m0, .int .i64 m1, .int .i64 m2] 58) = W at S bc bn bm ⊢
    refine (F.out _ S.out.bel).mono ?_
    rintro e1 w2 ⟨rfl, hb2⟩
    have S := th_next S hb2
    clear hb2 bc bn bm
    have bc := S.out.one.cell
    have bn := S.out.two.cell
    have bm := S.out.three.cell
    go_wp2_with fail
    refine (worksn_any _).mono ?_
    rintro e1 w2 ⟨rfl, hb2⟩
    have S := th_next S hb2
    clear hb2
    go_wp2_with fail
    go_ret
    exact ⟨rfl, S.out.bel⟩
end Go.Proofs.Ytigknchcjlieoaa.NapM

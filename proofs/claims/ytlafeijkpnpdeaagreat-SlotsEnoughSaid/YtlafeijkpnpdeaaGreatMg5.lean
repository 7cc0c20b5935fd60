import Derived.Test.YtlafeijkpnpdeaaGreatMg4

/- Walks of package osc: how many counts fit. -/
namespace Go.Proofs.YtlafeijkpnpdeaaGreat.OscC
open Go.RowKit Base WideA WideB OscPlain OscA OscB
set_option linter.unusedVariables false
set_option linter.unusedSimpArgs false

theorem ask_any (h p ns : Int) (B b1 b2 : Nat) (W0 : World) (c1 : W0.cell? ⟨b1, 0, none⟩ = some (.int .i64 h)) (c2 : W0.cell? ⟨b1, 1, none⟩ = some (.int .i64 p)) (c3 : W0.cell? ⟨b2, 0, none⟩ = some (.int .i64 ns)) (hb1 : b1 < B) (hb2 : b2 < B) (hB0 : B ≤ W0.heap.size) :
    Asks B W0 139 #[.pointer (some ⟨b1, 0, none⟩), .pointer (some ⟨b2, 0, none⟩)] 0 1000000000000 (fun n => fits h p n ns) := by
  intro n w h0 h1 hw
  have d1 := keep hw c1 hb1
  have d2 := keep hw c2 hb1
  have d3 := keep hw c3 hb2
  obtain ⟨b, hb⟩ : ∃ b, fits h p n ns = b := ⟨_, rfl⟩
  have C := Lib.hid (fun w => fits_any h p n ns b w hb ⟨by omega, by omega⟩)
  show Calls Tryz.prog 139 #[.int .i64 n, .pointer (some ⟨b1, 0, none⟩), .pointer (some ⟨b2, 0, none⟩)] w fun e w' => e = .returned (.bool (fits h p n ns)) ∧ Below B w w'
  rw [hb]
  have l1 := lt_of_cell d1
  have hB : B ≤ w.heap.size := Nat.le_trans hB0 hw.size
  clear c1 c2 c3 hw hb
  go_enter Tryz.func139, Tryz.ntmps139
  go_wp2_with fail
  refine (C.out _).mono ?_
  rintro e w1 ⟨rfl, hb1⟩
  go_wp2_with fail
  go_ret
  exact ⟨rfl, hb1.mono hB⟩

theorem enters_ask (args : Array Value) (w : World) : (callFunc 139 args).run Tryz.prog w = .ok (.enter 139 args) w := by go_simp

theorem counts_any (h p ns : Int) (x e : Int) (w : World) (hx : Hid (cn h p ns = (x, e))) (hn : I64 ns) :
    Calls Tryz.prog 136 #[.agg #[.int .i64 h, .int .i64 p], .int .i64 ns] w fun e' w' => e' = .returned (.tuple #[.int .i64 x, .int .i64 e]) ∧ Below w.heap.size w w' := by
  have C := fun w => check_any h p w
  by_cases hb : bad h p
  · have e1 : chk h p = 2 := by unfold chk; rw [if_pos hb]
    simp only [e1] at C
    obtain ⟨rfl, rfl⟩ : x = 0 ∧ e = 2 := by have := hx.out; rw [cn, if_pos (.inl hb)] at this; simpa using this.symm
    have C := Lib.hid C
    clear hb e1
    go_enter Tryz.func136, Tryz.ntmps136
    go_wp2_with fail
    refine (C.out _).mono ?_
    rintro e1 w1 ⟨rfl, hb1⟩
    go_wp2_with fail
    go_ret2
    exact ⟨rfl, (((Below.refl _ _).alloc (Nat.le_refl _) _).alloc (by simp) _).trans (hb1.mono (by simp; omega))⟩
  · have e1 : chk h p = 0 := by unfold chk; rw [if_neg hb]
    simp only [e1] at C
    have C := Lib.hid C
    clear e1
    by_cases hr : ns < 0
    · obtain ⟨rfl, rfl⟩ : x = 0 ∧ e = 2 := by have := hx.out; rw [cn, if_pos (.inr hr)] at this; simpa using this.symm
      clear hb
      go_enter Tryz.func136, Tryz.ntmps136
      go_wp2_with fail
      refine (C.out _).mono ?_
      rintro e1 w1 ⟨rfl, hb1⟩
      have c3 := (show Cell _ (w.heap.size + 1) 0 (.int .i64 ns) from ⟨by go_simp, by go_simp⟩ : Cell ((w.alloc (Obj.cells #[Value.int IntKind.i64 h, Value.int IntKind.i64 p] 151)).alloc (Obj.cells #[Value.int IntKind.i64 ns] 3)) _ _ _).below hb1 (by simp)
      obtain ⟨c3, _⟩ := c3
      have hB : Below w.heap.size w w1 := (((Below.refl _ _).alloc (Nat.le_refl _) _).alloc (by simp) _).trans (hb1.mono (by simp; omega))
      have HB := Lib.hid hB
      clear hb1 hB
      go_wp2_with fail
      go_ret2
      exact ⟨rfl, HB.out⟩
    · have hr' : 0 ≤ ns := by omega
      obtain ⟨rfl, rfl⟩ : x = cnt h p ns ∧ e = 0 := by have := hx.out; rw [cn, if_neg (by intro h; rcases h with h | h; exact hb h; exact hr h)] at this; simpa using this.symm
      have HNB := Lib.hid hb
      clear hb hr
      go_enter Tryz.func136, Tryz.ntmps136
      go_wp2_with fail
      refine (C.out _).mono ?_
      rintro e1 w1 ⟨rfl, hb1⟩
      have c1 := (show Cell _ w.heap.size 0 (.int .i64 h) from ⟨by go_simp, by go_simp⟩ : Cell ((w.alloc (Obj.cells #[Value.int IntKind.i64 h, Value.int IntKind.i64 p] 151)).alloc (Obj.cells #[Value.int IntKind.i64 ns] 3)) _ _ _).below hb1 (by simp; omega)
      have c2 := (show Cell _ w.heap.size 1 (.int .i64 p) from ⟨by go_simp, by go_simp⟩ : Cell ((w.alloc (Obj.cells #[Value.int IntKind.i64 h, Value.int IntKind.i64 p] 151)).alloc (Obj.cells #[Value.int IntKind.i64 ns] 3)) _ _ _).below hb1 (by simp; omega)
      have c3 := (show Cell _ (w.heap.size + 1) 0 (.int .i64 ns) from ⟨by go_simp, by go_simp⟩ : Cell ((w.alloc (Obj.cells #[Value.int IntKind.i64 h, Value.int IntKind.i64 p] 151)).alloc (Obj.cells #[Value.int IntKind.i64 ns] 3)) _ _ _).below hb1 (by simp)
      obtain ⟨c1, _⟩ := c1
      obtain ⟨c2, _⟩ := c2
      obtain ⟨c3, _⟩ := c3
      have hz : w.heap.size + 1 < w1.heap.size := by have := hb1.size; simp at this; omega
      have hB : Below w.heap.size w w1 := (((Below.refl _ _).alloc (Nat.le_refl _) _).alloc (by simp) _).trans (hb1.mono (by simp; omega))
      have HB := Lib.hid hB
      have L := Lib.hid (last_any w1.heap.size w1 w1 139 #[.pointer (some ⟨w.heap.size, 0, none⟩), .pointer (some ⟨w.heap.size + 1, 0, none⟩)] 0 1000000000000 _ (ask_any h p ns w1.heap.size w.heap.size (w.heap.size + 1) w1 c1 c2 c3 (by omega) (by omega) (Nat.le_refl _)) (Below.refl _ _) enters_ask (by omega) (by omega) (by omega))
      clear hb1 hB c1 c2
      have hmf : ∀ (fn : Fn) (first cap : Array Value) (w : World), (Instr.makeFunc fn first cap).run Tryz.prog w = .ok (.func fn first cap) w := fun _ _ _ _ => rfl
      go_wp2_with fail
      refine L.out.mono ?_
      rintro e w2 ⟨⟨r, rfl, hr⟩, hb2⟩
      obtain rfl := last_cnt HNB.out hr' hn.2 hr
      clear hr
      go_wp2_with fail
      go_ret2
      exact ⟨rfl, HB.out.trans (hb2.mono (by omega))⟩

theorem countsr_any (h p ns : Int) (x e : Int) (w : World) (hx : Hid (cn h p ns = (x, e))) (hn : I64 ns) :
    Calls Tryz.prog 93 #[.agg #[.int .i64 h, .int .i64 p], .int .i64 ns] w fun e' w' => e' = .returned (.tuple #[.int .i64 x, .int .i64 e]) ∧ Below w.heap.size w w' := by
  have C := fun w => checkr_any h p w
  by_cases hb : bad h p
  · have e1 : chk h p = 2 := by unfold chk; rw [if_pos hb]
    simp only [e1] at C
    obtain ⟨rfl, rfl⟩ : x = 0 ∧ e = 2 := by have := hx.out; rw [cn, if_pos (.inl hb)] at this; simpa using this.symm
    have C := Lib.hid C
    clear hb e1
    go_enter Tryz.func93, Tryz.ntmps93
    go_wp2_with fail
    refine (C.out _).mono ?_
    rintro e1 w1 ⟨rfl, hb1⟩
    go_wp2_with fail
    go_ret2
    exact ⟨rfl, ((Below.refl _ _).alloc (Nat.le_refl _) _).trans (hb1.mono (by simp))⟩
  · have e1 : chk h p = 0 := by unfold chk; rw [if_neg hb]
    simp only [e1] at C
    have C := Lib.hid C
    clear e1
    by_cases hr : ns < 0
    · obtain ⟨rfl, rfl⟩ : x = 0 ∧ e = 2 := by have := hx.out; rw [cn, if_pos (.inr hr)] at this; simpa using this.symm
      clear hb
      go_enter Tryz.func93, Tryz.ntmps93
      go_wp2_with fail
      refine (C.out _).mono ?_
      rintro e1 w1 ⟨rfl, hb1⟩
      go_wp2_with fail
      go_ret2
      exact ⟨rfl, ((Below.refl _ _).alloc (Nat.le_refl _) _).trans (hb1.mono (by simp))⟩
    · have hr' : 0 ≤ ns := by omega
      obtain ⟨rfl, rfl⟩ : x = cnt h p ns ∧ e = 0 := by have := hx.out; rw [cn, if_neg (by intro h; rcases h with h | h; exact hb h; exact hr h)] at this; simpa using this.symm
      have hmc := md_cnt hb hr'
      obtain ⟨d1, d2, d3, d4, d5, d6⟩ := dd_bd hb
      have M := fun w => RefC.mdr_any ns (dd h p) 1000000000000000 false w hn.1 hn.2 (by omega) (by omega) (by omega) (by omega)
      obtain ⟨d, hd⟩ : ∃ d, dd h p = d := ⟨_, rfl⟩
      have W1 : wrap64 (h * (1000000 + p)) = d := by rw [show h * (1000000 + p) = dd h p from rfl, hd]; exact IntWalk.wrap64_in _ ⟨by omega, by omega⟩
      have W2 : IntKind.i64.wrap (h * (1000000 + p)) = d := by rw [show h * (1000000 + p) = dd h p from rfl, hd]; exact IntWalk.i64_in _ ⟨by omega, by omega⟩
      rw [hd] at M hmc
      obtain ⟨u, hu⟩ : ∃ u, (md ns d 1000000000000000 false).1 = u := ⟨_, rfl⟩
      obtain ⟨v, hv⟩ : ∃ v, (md ns d 1000000000000000 false).2 = v := ⟨_, rfl⟩
      simp only [hu, hv] at M hmc
      have M := Lib.hid M
      obtain ⟨c, hc⟩ : ∃ c, cnt h p ns = c := ⟨_, rfl⟩
      rw [hc] at hmc ⊢
      clear hc hd hu hv hb hr hx
      by_cases hv0 : v = 0
      · by_cases hu0 : 1000000000000 < u
        · obtain rfl : c = 1000000000000 := by rw [hmc, if_pos (.inr hu0)]
          subst hv0
          clear hmc
          go_enter Tryz.func93, Tryz.ntmps93
          go_wp2_with fail
          refine (C.out _).mono ?_
          rintro e1 w1 ⟨rfl, hb1⟩
          have c0 := (show Cell _ w.heap.size 0 (.int .i64 h) from ⟨by go_simp, by go_simp⟩ : Cell (w.alloc (Obj.cells #[Value.int IntKind.i64 h, Value.int IntKind.i64 p] 118)) _ _ _).below hb1 (by simp)
          have c1 := (show Cell _ w.heap.size 1 (.int .i64 p) from ⟨by go_simp, by go_simp⟩ : Cell (w.alloc (Obj.cells #[Value.int IntKind.i64 h, Value.int IntKind.i64 p] 118)) _ _ _).below hb1 (by simp)
          obtain ⟨c0, _⟩ := c0
          obtain ⟨c1, _⟩ := c1
          have hB : Below w.heap.size w w1 := ((Below.refl _ _).alloc (Nat.le_refl _) _).trans (hb1.mono (by simp))
          have HB := Lib.hid hB
          clear hb1 hB
          go_wp2_with fail
          refine (M.out _).mono ?_
          rintro e1 w2 ⟨rfl, hb2⟩
          go_wp2_with fail
          go_ret2
          exact ⟨rfl, HB.out.trans (hb2.mono HB.out.size)⟩
        · have hu1 : u ≤ 1000000000000 := by omega
          obtain rfl : c = u := by rw [hmc, if_neg (by intro h; rcases h with h | h; exact h hv0; exact hu0 h)]
          subst hv0
          clear hmc hu0
          go_enter Tryz.func93, Tryz.ntmps93
          go_wp2_with fail
          refine (C.out _).mono ?_
          rintro e1 w1 ⟨rfl, hb1⟩
          have c0 := (show Cell _ w.heap.size 0 (.int .i64 h) from ⟨by go_simp, by go_simp⟩ : Cell (w.alloc (Obj.cells #[Value.int IntKind.i64 h, Value.int IntKind.i64 p] 118)) _ _ _).below hb1 (by simp)
          have c1 := (show Cell _ w.heap.size 1 (.int .i64 p) from ⟨by go_simp, by go_simp⟩ : Cell (w.alloc (Obj.cells #[Value.int IntKind.i64 h, Value.int IntKind.i64 p] 118)) _ _ _).below hb1 (by simp)
          obtain ⟨c0, _⟩ := c0
          obtain ⟨c1, _⟩ := c1
          have hB : Below w.heap.size w w1 := ((Below.refl _ _).alloc (Nat.le_refl _) _).trans (hb1.mono (by simp))
          have HB := Lib.hid hB
          clear hb1 hB
          go_wp2_with fail
          refine (M.out _).mono ?_
          rintro e1 w2 ⟨rfl, hb2⟩
          go_wp2_with fail
          go_ret2
          exact ⟨rfl, HB.out.trans (hb2.mono HB.out.size)⟩
      · obtain rfl : c = 1000000000000 := by rw [hmc, if_pos (.inl hv0)]
        have hvb : (v != 0) = true := by simp [hv0]
        clear hmc hv0
        go_enter Tryz.func93, Tryz.ntmps93
        go_wp2_with fail
        refine (C.out _).mono ?_
        rintro e1 w1 ⟨rfl, hb1⟩
        have c0 := (show Cell _ w.heap.size 0 (.int .i64 h) from ⟨by go_simp, by go_simp⟩ : Cell (w.alloc (Obj.cells #[Value.int IntKind.i64 h, Value.int IntKind.i64 p] 118)) _ _ _).below hb1 (by simp)
        have c1 := (show Cell _ w.heap.size 1 (.int .i64 p) from ⟨by go_simp, by go_simp⟩ : Cell (w.alloc (Obj.cells #[Value.int IntKind.i64 h, Value.int IntKind.i64 p] 118)) _ _ _).below hb1 (by simp)
        obtain ⟨c0, _⟩ := c0
        obtain ⟨c1, _⟩ := c1
        have hB : Below w.heap.size w w1 := ((Below.refl _ _).alloc (Nat.le_refl _) _).trans (hb1.mono (by simp))
        have HB := Lib.hid hB
        clear hb1 hB
        go_wp2_with fail
        refine (M.out _).mono ?_
        rintro e1 w2 ⟨rfl, hb2⟩
        go_wp2_with fail
        go_ret2
        exact ⟨rfl, HB.out.trans (hb2.mono HB.out.size)⟩

end Go.Proofs.YtlafeijkpnpdeaaGreat.OscC

/- Walk of package osc: Safe. -/
namespace Go.Proofs.YtlafeijkpnpdeaaGreat.OscZ
open Go.RowKit Base WideA WideB OscPlain OscA OscB OscC
set_option linter.unusedVariables false
set_option linter.unusedSimpArgs false

def sf (h b ns : Int) : Int × Int := if b < 0 ∨ 100000 < b then (0, 2) else cn h (-b) ns

theorem safe_any (h b ns : Int) (x e : Int) (w : World) (hx : Hid (sf h b ns = (x, e))) (hb : I64 b) (hn : I64 ns) :
    Calls Tryz.prog 125 #[.int .i64 h, .int .i64 b, .int .i64 ns] w fun e' w' => e' = .returned (.tuple #[.int .i64 x, .int .i64 e]) ∧ Below w.heap.size w w' := by
  by_cases hr : b < 0 ∨ 100000 < b
  · obtain ⟨rfl, rfl⟩ : x = 0 ∧ e = 2 := by have := hx.out; rw [sf, if_pos hr] at this; simpa using this.symm
    rcases (show b < 0 ∨ (0 ≤ b ∧ 100000 < b) by omega) with k | ⟨k, k2⟩
    all_goals
      clear hr
      go_enter Tryz.func125, Tryz.ntmps125
      go_wp2_with fail
      go_ret2
      exact ⟨rfl, Below.refl _ _⟩
  · obtain ⟨k1, k2⟩ : 0 ≤ b ∧ b ≤ 100000 := by omega
    have hx' : cn h (-b) ns = (x, e) := by have := hx.out; rw [sf, if_neg hr] at this; exact this
    have C := Lib.hid (fun w => counts_any h (-b) ns x e w hx' hn)
    clear hr hx'
    go_enter Tryz.func125, Tryz.ntmps125
    go_wp2_with fail
    refine (C.out _).mono ?_
    rintro e1 w1 ⟨rfl, hb1⟩
    go_wp2_with fail
    go_ret2
    exact ⟨rfl, hb1⟩

end Go.Proofs.YtlafeijkpnpdeaaGreat.OscZ

/- The reference's Sum. -/
namespace Go.Proofs.YtlafeijkpnpdeaaGreat.RefS
open Go.RowKit WideA WideB WideS Base Plain
set_option linter.unusedVariables false
set_option linter.unusedSimpArgs false

set_option maxHeartbeats 1000000 in
theorem sumr_walk (b off n cap : Nat) (f : Nat → Int) (r1 r2 : Int) (w : World) (hr : Hid (sumR f n = (r1, r2))) (hn : n ≤ 9223372036854775807) (hb : b < w.heap.size)
    (hc : Hid (∀ i, i < n → w.cell? ⟨b, off + i, none⟩ = some (.int .i64 (f i)))) (hf : Hid (∀ i, i < n → -9223372036854775808 ≤ f i ∧ f i ≤ 9223372036854775807)) :
    Calls Tryz.prog 127 #[.slice (some ⟨b, off, none⟩) n cap] w fun e w' => e = .returned (.tuple #[.int .i64 r1, .int .i64 r2]) ∧ w = w' := by
  go_enter Tryz.func127, Tryz.ntmps127
  go_wp2
  go_loop [4, 5, 6] (fun s o i => ∃ (k : Nat) (sv : Int) (over : Bool), k ≤ n ∧ i = .int .i64 k ∧ s = .int .i64 sv ∧ o = .bool over ∧ Hid (SumAt f k sv over)) (fun _ _ i => n - (intOf i).toNat)
  case atStart => exact ⟨0, 0, false, Nat.zero_le _, rfl, rfl, rfl, SumAt.zero f⟩
  case round =>
    obtain ⟨k, s, over, hk, rfl, rfl, rfl, H⟩ := hrel
    have s0 := H.out.n0; have s1 := H.out.n1
    by_cases hlt : k < n
    · have hck := hc.out k hlt
      obtain ⟨f0, f1⟩ := hf.out k hlt
      by_cases hneg : f k < 0
      · obtain ⟨rfl, rfl⟩ : r1 = 0 ∧ r2 = 2 := by have h := SumAt.neg (f := f) hlt hneg; rw [hr.out] at h; simpa using h
        go_wp2
        go_ret2
        exact ⟨rfl, rfl⟩
      · cases over
        · by_cases hbig : 9223372036854775807 - s < f k
          · have hH := Lib.hid (H.out.burst (by omega) hbig)
            go_wp2
            go_round
            case rel => exact ⟨k + 1, s, true, by omega, by go_num, rfl, rfl, hH⟩
            case measure => simp [intOf]; omega
          · have hH := Lib.hid (H.out.add (by omega) (by omega))
            go_wp2
            go_round
            case rel => exact ⟨k + 1, s + f k, false, by omega, by go_num, rfl, rfl, hH⟩
            case measure => simp [intOf]; omega
        · have hH := Lib.hid (H.out.stay (by omega))
          go_wp2
          go_round
          case rel => exact ⟨k + 1, s, true, by omega, by go_num, rfl, rfl, hH⟩
          case measure => simp [intOf]; omega
    · obtain rfl : k = n := by omega
      cases over
      · obtain ⟨rfl, rfl⟩ : r1 = s ∧ r2 = 0 := by have h := H.out.done; rw [hr.out] at h; simpa using h
        go_wp2
        go_ret2
        exact ⟨rfl, rfl⟩
      · obtain ⟨rfl, rfl⟩ : r1 = 0 ∧ r2 = 6 := by have h := H.out.over; rw [hr.out] at h; simpa using h
        go_wp2
        go_ret2
        exact ⟨rfl, rfl⟩

theorem sumr_zero (a : Option Addr) (cap : Nat) (w : World) :
    Calls Tryz.prog 127 #[.slice a 0 cap] w fun e w' => e = .returned (.tuple #[.int .i64 0, .int .i64 0]) ∧ w = w' := by
  go_enter Tryz.func127, Tryz.ntmps127
  go_wp2
  refine wp_loop_rounds 1 ?_; rw [rounds_succ]
  go_wp2
  go_ret2
  exact ⟨rfl, rfl⟩

theorem sumr_any (a : Option Addr) (n cap : Nat) (f : Nat → Int) (w : World) (h : IntsIn w a n f) :
    Calls Tryz.prog 127 #[.slice a n cap] w fun e w' => e = .returned (.tuple #[.int .i64 (sumR f n).1, .int .i64 (sumR f n).2]) ∧ w = w' := by
  obtain ⟨hn, rfl | ⟨b, off, rfl, hb, hc⟩, hf⟩ := h
  · exact sumr_zero a cap w
  · exact sumr_walk b off n cap f _ _ w rfl hn hb hc hf

theorem IntsIn.below {w w1 : World} {a : Option Addr} {n : Nat} {f : Nat → Int} (h : IntsIn w a n f) (hb : Below w.heap.size w w1) : IntsIn w1 a n f := by
  obtain ⟨hn, h1, hf⟩ := h
  refine ⟨hn, ?_, hf⟩
  rcases h1 with h1 | ⟨b, off, e, hlt, hc⟩
  · exact .inl h1
  · exact .inr ⟨b, off, e, Nat.lt_of_lt_of_le hlt hb.size, fun i hi => keep hb (hc i hi) hlt⟩
theorem sumR_bd (f : Nat → Int) (n : Nat) : 0 ≤ (sumR f n).2 ∧ (sumR f n).2 ≤ 6 := by
  unfold sumR; split
  · simp
  · split <;> simp
end Go.Proofs.YtlafeijkpnpdeaaGreat.RefS

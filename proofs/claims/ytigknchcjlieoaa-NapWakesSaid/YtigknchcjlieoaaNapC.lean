/- Package nap: cost, Cost, and its reference. -/
import Derived.Test.YtigknchcjlieoaaNapB
namespace Go.Proofs.Ytigknchcjlieoaa.NapC
open Go.RowKit Base Kit Conf PowA PowB PowC PowR WideB LvlA OscPlain OscZ NapA NapB
set_option linter.unusedVariables false
set_option linter.unusedSimpArgs false

def aslN (p : PowC) (k : Nat) (now en : Int) : Int :=
  if (el p.sl 0 (cntN p k now en)).2 ≠ 0 ∨ roomN p k now en < (el p.sl 0 (cntN p k now en)).1 then roomN p k now en else (el p.sl 0 (cntN p k now en)).1
def costN (p : PowC) (k : Nat) (now en : Int) : Int := p.ch * (p.nf k 1 + p.nf k 2) + p.nf k 0 * aslN p k now en + p.id * (roomN p k now en - aslN p k now en)
def CostR (p : PowC) (t now en : Int) : Int × Int := if CntR p t now en < 1 ∨ 1099511627776 < en - now then (0, 2) else (costN p t.toNat now en, 0)
theorem mul_bd {q D M : Int} (q0 : 0 ≤ q) (q1 : q ≤ 1000000) (d0 : 0 ≤ D) (d1 : D ≤ M) : 0 ≤ q * D ∧ q * D ≤ 1000000 * M := by
  refine ⟨Int.mul_nonneg q0 d0, ?_⟩
  exact Int.le_trans (Int.mul_le_mul_of_nonneg_right q1 d0) (Int.mul_le_mul_of_nonneg_left d1 (by omega))
theorem md_bd (a b c : Int) (up : Bool) (hc : 1 ≤ c → 0 ≤ a → 0 ≤ b → True) : 0 ≤ (md a b c up).1 ∧ (md a b c up).1 ≤ 9223372036854775807 ∧ 0 ≤ (md a b c up).2 ∧ (md a b c up).2 ≤ 6 := by
  unfold md
  split
  · simp
  · rename_i h
    have h1 : 0 ≤ a := by omega
    have h2 : 0 ≤ b := by omega
    have h3 : 1 ≤ c := by omega
    have hp : 0 ≤ a * b := Int.mul_nonneg h1 h2
    have hq : 0 ≤ mdQ a b c up := by
      unfold mdQ; split
      · exact Int.ediv_nonneg (by omega) (by omega)
      · exact Int.ediv_nonneg (by omega) (by omega)
    split
    · exact ⟨hq, by assumption, by simp, by simp⟩
    · simp

theorem el_nn (h p n : Int) : 0 ≤ (el h p n).1 := by
  unfold el
  split
  · simp
  · exact (md_bd _ _ _ _ (fun _ _ _ => trivial)).1
theorem asl_bd {p : PowC} {k : Nat} {now en : Int} (h0 : 0 ≤ roomN p k now en) : 0 ≤ aslN p k now en ∧ aslN p k now en ≤ roomN p k now en := by
  have := el_nn p.sl 0 (cntN p k now en)
  unfold aslN
  split
  · omega
  · rename_i h
    have h2 : ¬ roomN p k now en < (el p.sl 0 (cntN p k now en)).1 := fun h' => h (.inr h')
    omega
theorem cntN_bd {p : PowC} {k : Nat} {now en : Int} (h : (powR p).1 = 0) : 0 ≤ cntN p k now en ∧ cntN p k now en ≤ 1000000000000 := by
  have b := rest_bd h
  unfold cntN
  split
  · omega
  · rename_i h'
    exact cnt_bd (slow_ok h (d := -p.pp) (by omega) (by omega)) (by omega)
theorem cnt_ge {p : PowC} {t now en : Int} (h : 1 ≤ CntR p t now en) : ∃ k : Nat, t = (k : Int) ∧ k < p.nn ∧ MayN p now en ∧ 0 ≤ roomN p k now en ∧ CntR p t now en = cntN p k now en := by
  unfold CntR at h ⊢
  by_cases c : MayN p now en ∧ 0 ≤ t ∧ t < p.nn
  · rw [if_pos c] at h ⊢
    refine ⟨t.toNat, by omega, by omega, c.1, ?_, rfl⟩
    unfold cntN at h
    split at h <;> omega
  · rw [if_neg c] at h; omega
theorem cost_bd {p : PowC} {k : Nat} {now en : Int} (may : MayN p now en) (hk : k < p.nn) (h0 : 0 ≤ roomN p k now en) (hl : en - now ≤ 1099511627776) : 0 ≤ costN p k now en ∧ costN p k now en ≤ 4000000000000000000 := by
  have nb := nap_bd may.1 hk
  have rb := room_bd may hk
  have ab := asl_bd h0
  have pb := rest_bd may.1
  have a := mul_bd pb.2.2.1.1 pb.2.2.1.2 (show 0 ≤ p.nf k 1 + p.nf k 2 by omega) (show _ ≤ 200000000 by omega)
  have b := mul_bd nb.1.1 nb.1.2 ab.1 (show _ ≤ 1099511627776 by omega)
  have c := mul_bd pb.2.1.1 pb.2.1.2 (show 0 ≤ roomN p k now en - aslN p k now en by omega) (show _ ≤ 1099511627776 by omega)
  unfold costN
  omega

set_option maxRecDepth 100000 in
set_option maxHeartbeats 2000000 in
theorem cost_any (p : PowC) (k : Nat) (now en : Int) (w : World) (ok : p.Ok w) (may : MayN p now en) (hk : k < p.nn) (h0 : 0 ≤ roomN p k now en) (hl : en - now ≤ 1099511627776) (r : Int) (hr : Hid (costN p k now en = r)) :
    Calls Try.prog 49 #[.agg #[.slice p.la p.ln p.lc, .slice p.na p.nn p.nc, .int .i64 p.sw, .int .i64 p.id, .int .i64 p.ch, .int .i64 p.qu, .int .i64 p.sl, .int .i64 p.pp], .int .i64 (k : Int), .int .i64 now, .int .i64 en] w fun e w' => e = .returned (.int .i64 r) ∧ Below w.heap.size w w' := by
  have hm2 := ok.nap.out.1
  have hr := hr.out
  have nb := nap_bd may.1 hk
  have rb := room_bd may hk
  have ab := asl_bd h0
  have pb := rest_bd may.1
  have cb := cntN_bd (k := k) (now := now) (en := en) may.1
  obtain ⟨R, hR⟩ : ∃ R, roomN p k now en = R := ⟨_, rfl⟩
  obtain ⟨c, hc⟩ : ∃ c, cntN p k now en = c := ⟨_, rfl⟩
  obtain ⟨⟨T, E⟩, hE⟩ : ∃ x, el p.sl 0 c = x := ⟨_, rfl⟩
  obtain ⟨a, ha⟩ : ∃ a, aslN p k now en = a := ⟨_, rfl⟩
  have e0 := el_nn p.sl 0 c
  unfold costN at hr
  rw [hR] at rb h0 ab
  rw [ha] at ab
  rw [hc] at cb
  rw [hE] at e0
  rw [hR, ha] at hr
  unfold aslN at ha
  rw [hc, hE, hR] at ha
  dsimp only at ha e0
  have C := fun w1 => counts_any p k now en w1 may hk c (Lib.hid hc)
  have D := fun w1 => OscA.elapsed_any p.sl 0 c T E w1 (Lib.hid hE) ⟨by omega, by omega⟩
  obtain ⟨b, off, ea, hbl, c0, c1, c2, i0, i1, i2⟩ := rows_at3 ok.nap k hk
  obtain ⟨-, m1, m2, m3⟩ := id may
  unfold roomN at hR
  clear hc hE may i0 i1 i2
  generalize p.nf k 0 = x0 at *
  generalize p.nf k 1 = x1 at *
  generalize p.nf k 2 = x2 at *
  obtain ⟨⟨n0, n1⟩, ⟨n2, n3⟩, ⟨n4, n5⟩⟩ := nb
  obtain ⟨-, ⟨d0, d1⟩, ⟨g0, g1⟩, -, ⟨pb1, pb2⟩, ⟨pb3, pb4⟩, -⟩ := pb
  have A0 := mul_bd g0 g1 (show 0 ≤ x1 + x2 by omega) (show _ ≤ 200000000 by omega)
  have B0 := mul_bd n0 n1 ab.1 (show _ ≤ 1099511627776 by omega)
  have D0 := mul_bd d0 d1 (show 0 ≤ R - a by omega) (show _ ≤ 1099511627776 by omega)
  have B := fun w1 => room_any x0 x1 x2 now en w1 m1 m2 m3 n2 n3 n4 n5
  rw [hR] at B
  rw [ea] at C ⊢
  have B := Lib.hid B
  have C := Lib.hid C
  have D := Lib.hid D
  have S := tw_in w #[.slice p.la p.ln p.lc, .slice (some ⟨b, off, none⟩) p.nn p.nc, .int .i64 p.sw, .int .i64 p.id, .int .i64 p.ch, .int .i64 p.qu, .int .i64 p.sl, .int .i64 p.pp] #[.int .i64 x0, .int .i64 x1, .int .i64 x2] 25 73
  by_cases hE0 : E = 0
  · subst hE0
    by_cases hT : R < T
    · obtain rfl : R = a := by rw [← ha, if_pos (.inr hT)]
      obtain ⟨PA, hA⟩ : ∃ z, p.ch * (x1 + x2) = z := ⟨_, rfl⟩
      obtain ⟨PB, hB⟩ : ∃ z, x0 * R = z := ⟨_, rfl⟩
      obtain ⟨PD, hD⟩ : ∃ z, p.id * (R - R) = z := ⟨_, rfl⟩
      rw [hA] at A0 hr
      rw [hB] at B0 hr
      rw [hD] at D0 hr
      have HR := Lib.hid hr
      have HA := Lib.hid hA
      have HB := Lib.hid hB
      have HD := Lib.hid hD
      clear hA hB hD hr ha hR ea
      try clear hE0
      go_enter Try.func49, Try.ntmps49
      go_wp2_with fail
      generalize (w.alloc (.cells #[.slice p.la p.ln p.lc, .slice (some ⟨b, off, none⟩) p.nn p.nc, .int .i64 p.sw, .int .i64 p.id, .int .i64 p.ch, .int .i64 p.qu, .int .i64 p.sl, .int .i64 p.pp] 25)).alloc (.cells #[.int .i64 x0, .int .i64 x1, .int .i64 x2] 73) = W at S ⊢
      refine (B.out _).mono ?_
      rintro e1 w5 ⟨rfl, k5⟩
      have S := tw_next S k5
      clear k5
      go_wp2_with fail
      have S := tw_next S (Below.refl _ _).drew
      have y1 := S.out.one.cell
      have y2 := S.out.two.cell
      go_region_held3 (fun w' => (∀ i, w'.cell? ⟨w.heap.size, i, none⟩ = (#[.slice p.la p.ln p.lc, .slice (some ⟨b, off, none⟩) p.nn p.nc, .int .i64 p.sw, .int .i64 p.id, .int .i64 p.ch, .int .i64 p.qu, .int .i64 p.sl, .int .i64 p.pp] : Array Value)[i]?) ∧ (∀ i, w'.cell? ⟨w.heap.size + 1, i, none⟩ = (#[.int .i64 x0, .int .i64 x1, .int .i64 x2] : Array Value)[i]?))
        (first
          | exact r6
          | exact r5
          | exact ⟨y1, y2⟩)
        (first
          | (go_at_call 54; refine (C.out _).mono ?_; rintro e1 w6 ⟨rfl, k6⟩; have S5 := tw_next S k6; have r5 := And.intro S5.out.one.cell S5.out.two.cell; clear k6)
          | (go_at_call 57; refine (D.out _).mono ?_; rintro e1 w6 ⟨rfl, k6⟩; have S6 := tw_next S5 k6; have r6 := And.intro S6.out.one.cell S6.out.two.cell; clear k6))
      clear y1 y2 r5
      obtain ⟨y1, y2⟩ := r6
      have hA := HA.out
      have hB := HB.out
      have hD := HD.out
      go_wp2_with fail
      go_ret
      refine ⟨Kit.ret_int ?_, S6.out.bel⟩
      have hr := HR.out
      try rw [Int.sub_self, Int.mul_zero] at hD
      first | exact hr | omega | (simp; omega)
    · obtain rfl : a = T := by rw [← ha, if_neg (by omega)]
      have hT : a ≤ R := by omega
      obtain ⟨PA, hA⟩ : ∃ z, p.ch * (x1 + x2) = z := ⟨_, rfl⟩
      obtain ⟨PB, hB⟩ : ∃ z, x0 * a = z := ⟨_, rfl⟩
      obtain ⟨PD, hD⟩ : ∃ z, p.id * (R - a) = z := ⟨_, rfl⟩
      rw [hA] at A0 hr
      rw [hB] at B0 hr
      rw [hD] at D0 hr
      have HR := Lib.hid hr
      have HA := Lib.hid hA
      have HB := Lib.hid hB
      have HD := Lib.hid hD
      clear hA hB hD hr ha hR ea
      try clear hE0
      go_enter Try.func49, Try.ntmps49
      go_wp2_with fail
      generalize (w.alloc (.cells #[.slice p.la p.ln p.lc, .slice (some ⟨b, off, none⟩) p.nn p.nc, .int .i64 p.sw, .int .i64 p.id, .int .i64 p.ch, .int .i64 p.qu, .int .i64 p.sl, .int .i64 p.pp] 25)).alloc (.cells #[.int .i64 x0, .int .i64 x1, .int .i64 x2] 73) = W at S ⊢
      refine (B.out _).mono ?_
      rintro e1 w5 ⟨rfl, k5⟩
      have S := tw_next S k5
      clear k5
      go_wp2_with fail
      have S := tw_next S (Below.refl _ _).drew
      have y1 := S.out.one.cell
      have y2 := S.out.two.cell
      go_region_held3 (fun w' => (∀ i, w'.cell? ⟨w.heap.size, i, none⟩ = (#[.slice p.la p.ln p.lc, .slice (some ⟨b, off, none⟩) p.nn p.nc, .int .i64 p.sw, .int .i64 p.id, .int .i64 p.ch, .int .i64 p.qu, .int .i64 p.sl, .int .i64 p.pp] : Array Value)[i]?) ∧ (∀ i, w'.cell? ⟨w.heap.size + 1, i, none⟩ = (#[.int .i64 x0, .int .i64 x1, .int .i64 x2] : Array Value)[i]?))
        (first
          | exact r6
          | exact r5
          | exact ⟨y1, y2⟩)
        (first
          | (go_at_call 54; refine (C.out _).mono ?_; rintro e1 w6 ⟨rfl, k6⟩; have S5 := tw_next S k6; have r5 := And.intro S5.out.one.cell S5.out.two.cell; clear k6)
          | (go_at_call 57; refine (D.out _).mono ?_; rintro e1 w6 ⟨rfl, k6⟩; have S6 := tw_next S5 k6; have r6 := And.intro S6.out.one.cell S6.out.two.cell; clear k6))
      clear y1 y2 r5
      obtain ⟨y1, y2⟩ := r6
      have hA := HA.out
      have hB := HB.out
      have hD := HD.out
      go_wp2_with fail
      go_ret
      refine ⟨Kit.ret_int ?_, S6.out.bel⟩
      have hr := HR.out
      try rw [Int.sub_self, Int.mul_zero] at hD
      first | exact hr | omega | (simp; omega)
  · obtain rfl : R = a := by rw [← ha, if_pos (.inl hE0)]
    have hE1 : (E != 0) = true := by simpa using hE0
    obtain ⟨PA, hA⟩ : ∃ z, p.ch * (x1 + x2) = z := ⟨_, rfl⟩
    obtain ⟨PB, hB⟩ : ∃ z, x0 * R = z := ⟨_, rfl⟩
    obtain ⟨PD, hD⟩ : ∃ z, p.id * (R - R) = z := ⟨_, rfl⟩
    rw [hA] at A0 hr
    rw [hB] at B0 hr
    rw [hD] at D0 hr
    have HR := Lib.hid hr
    have HA := Lib.hid hA
    have HB := Lib.hid hB
    have HD := Lib.hid hD
    clear hA hB hD hr ha hR ea
    try clear hE0
    go_enter Try.func49, Try.ntmps49
    go_wp2_with fail
    generalize (w.alloc (.cells #[.slice p.la p.ln p.lc, .slice (some ⟨b, off, none⟩) p.nn p.nc, .int .i64 p.sw, .int .i64 p.id, .int .i64 p.ch, .int .i64 p.qu, .int .i64 p.sl, .int .i64 p.pp] 25)).alloc (.cells #[.int .i64 x0, .int .i64 x1, .int .i64 x2] 73) = W at S ⊢
    refine (B.out _).mono ?_
    rintro e1 w5 ⟨rfl, k5⟩
    have S := tw_next S k5
    clear k5
    go_wp2_with fail
    have S := tw_next S (Below.refl _ _).drew
    have y1 := S.out.one.cell
    have y2 := S.out.two.cell
    go_region_held3 (fun w' => (∀ i, w'.cell? ⟨w.heap.size, i, none⟩ = (#[.slice p.la p.ln p.lc, .slice (some ⟨b, off, none⟩) p.nn p.nc, .int .i64 p.sw, .int .i64 p.id, .int .i64 p.ch, .int .i64 p.qu, .int .i64 p.sl, .int .i64 p.pp] : Array Value)[i]?) ∧ (∀ i, w'.cell? ⟨w.heap.size + 1, i, none⟩ = (#[.int .i64 x0, .int .i64 x1, .int .i64 x2] : Array Value)[i]?))
      (first
        | exact r6
        | exact r5
        | exact ⟨y1, y2⟩)
      (first
        | (go_at_call 54; refine (C.out _).mono ?_; rintro e1 w6 ⟨rfl, k6⟩; have S5 := tw_next S k6; have r5 := And.intro S5.out.one.cell S5.out.two.cell; clear k6)
        | (go_at_call 57; refine (D.out _).mono ?_; rintro e1 w6 ⟨rfl, k6⟩; have S6 := tw_next S5 k6; have r6 := And.intro S6.out.one.cell S6.out.two.cell; clear k6))
    clear y1 y2 r5
    obtain ⟨y1, y2⟩ := r6
    have hA := HA.out
    have hB := HB.out
    have hD := HD.out
    go_wp2_with fail
    go_ret
    refine ⟨Kit.ret_int ?_, S6.out.bel⟩
    have hr := HR.out
    try rw [Int.sub_self, Int.mul_zero] at hD
    first | exact hr | omega | (simp; omega)
end Go.Proofs.Ytigknchcjlieoaa.NapC

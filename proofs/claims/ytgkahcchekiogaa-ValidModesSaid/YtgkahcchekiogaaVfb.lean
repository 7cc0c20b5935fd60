/- valid.first over any closure: pools, numbers, regions, windows. -/
import Derived.Test.YtgkahcchekiogaaVfa
namespace Go.Proofs.Ytgkahcchekiogaa.Vfb
open Go.RowKit Base Kit Conf PowA Vfa
set_option linter.unusedVariables false
set_option linter.unusedSimpArgs false
set_option maxRecDepth 100000 in
set_option maxHeartbeats 2000000 in
theorem first_pool (a : Option Addr) (n c : Nat) (x0 : Nat → Int) (x1 : Nat → Int) (P : Nat → Bool) (h : FuncId) (caps : Array Value) (r : Int) (w : World) (hrow : Hid (∀ k, k < n → ∃ b off, a = some ⟨b, off, none⟩ ∧ b < w.heap.size ∧ w.cell? ⟨b, off + k * 2, none⟩ = some (.int .i64 (x0 k)) ∧ w.cell? ⟨b, off + k * 2 + 1, none⟩ = some (.int .i64 (x1 k)))) (hn : n ≤ 1000) (hen : ∀ args w, (callFunc h args).run Try.prog w = .ok (.enter h args) w)
    (hcl : Hid (∀ k wr, k < n → Below w.heap.size w wr → (∀ j, j < k → P j = true) → Calls Try.prog h (#[.agg #[.int .i64 (x0 k), .int .i64 (x1 k)], .agg #[.int .i64 (ahI x0 k), .int .i64 (ahI x1 k)]] ++ caps) wr fun e w' => e = .returned (.bool (P k)) ∧ Below wr.heap.size wr w')) (hr : Hid (frI P n = r)) :
    Calls Try.prog 163 #[.slice a n c, .func (.func h) #[] caps] w fun e w' => e = .returned (.int .i64 r) ∧ Below w.heap.size w w' := by
  go_enter Try.func163, Try.ntmps163
  go_wp2_with fail
  have B0 : Hid (Box (w.alloc (.cells #[.int .i64 0, .int .i64 0] 204)) w.heap.size #[.int .i64 (ahI x0 0), .int .i64 (ahI x1 0)] 204) := Lib.hid (Box.new w _ _)
  have HB0 : Hid (Below w.heap.size w (w.alloc (.cells #[.int .i64 0, .int .i64 0] 204))) := Lib.hid ((Below.refl w.heap.size w).alloc (Nat.le_refl _) _)
  generalize w.alloc (.cells #[.int .i64 0, .int .i64 0] 204) = W at B0 HB0 ⊢
  go_loopw [10] (fun i wr => ∃ k : Nat, k ≤ n ∧ i = .int .i64 k ∧ Hid (∀ j, j < k → P j = true) ∧ Hid (Below w.heap.size w wr) ∧ Hid (Box wr w.heap.size #[.int .i64 (ahI x0 k), .int .i64 (ahI x1 k)] 204)) (fun i _ => n - (intOf i).toNat)
  case atStart => exact ⟨0, by omega, rfl, Lib.hid (fun j hj => by omega), HB0, B0⟩
  case round =>
    clear B0 HB0
    obtain ⟨k, hk, rfl, HL, HB, B1⟩ := hrel
    by_cases hlt : k < n
    · obtain ⟨b, off, rfl, hbl, c0, c1⟩ := hrow.out k hlt
      have c0 := keep HB.out c0 hbl
      have c1 := keep HB.out c1 hbl
      obtain ⟨v, hv⟩ : ∃ v, P k = v := ⟨_, rfl⟩
      have HV := Lib.hid hv
      have C := hcl.out k _ hlt (HB.out.alloc HB.out.size (.cells #[.int .i64 (x0 k), .int .i64 (x1 k)] 204)) HL.out
      rw [hv] at C
      have C := Lib.hid C
      have bl := B1.out.lt
      have bc := (B1.out.alloc (.cells #[.int .i64 (x0 k), .int .i64 (x1 k)] 204)).cell
      have HS := Lib.hid (show (#[.int .i64 (ahI x0 (k + 1)), .int .i64 (ahI x1 (k + 1))] : Array Value) = #[.int .i64 (x0 k), .int .i64 (x1 k)] from rfl)
      clear hv
      generalize x0 k = y0 at *
      generalize ahI x0 k = z0 at *
      generalize x1 k = y1 at *
      generalize ahI x1 k = z1 at *
      have X := Lib.hid (Box.new wr #[.int .i64 (y0), .int .i64 (y1)] 204)
      cases v
      · go_wp2_with fail
        refine C.out.mono ?_
        rintro e1 w5 ⟨rfl, k5⟩
        have HB5 := Lib.hid (HB.out.trans (((Below.refl w.heap.size wr).alloc (by omega) _).trans (k5.mono (by simp; omega))))
        clear k5 bc
        go_wp2_with fail
        go_ret
        refine ⟨Kit.ret_int ?_, HB5.out⟩
        have e := hr.out
        unfold frI at e
        rw [fb_hit HL.out HV.out n hlt, if_pos hlt] at e
        exact e
      · go_wp2_with fail
        refine C.out.mono ?_
        rintro e1 w5 ⟨rfl, k5⟩
        have HB5 := Lib.hid (HB.out.trans (((Below.refl w.heap.size wr).alloc (by omega) _).trans (k5.mono (by simp; omega))))
        have X5 := Lib.hid (X.out.next k5)
        have B5 := Lib.hid ((B1.out.alloc (.cells #[.int .i64 (y0), .int .i64 (y1)] 204)).next k5)
        have xc := X5.out.cell
        have bc5 := B5.out.cell
        have bf5 := B5.out.frozen
        clear k5 bc
        go_wp2_with fail
        go_roundw
        case rel => exact ⟨k + 1, by omega, by go_num, Lib.hid (fun j hj => by
          by_cases e : j = k
          · subst e; exact HV.out
          · exact HL.out j (by omega)), Lib.hid ((HB5.out.setCell (by simp) _).setCell (by simp) _), by rw [HS.out]; exact Lib.hid ((B5.out.set 0 _).set 1 _)⟩
        case measure => simp [intOf]; omega
    · obtain rfl : k = n := by omega
      go_wp2_with fail
      go_ret
      refine ⟨Kit.ret_int ?_, HB.out⟩
      have e := hr.out
      unfold frI at e
      rw [fb_all k HL.out, if_neg (by omega)] at e
      exact e
set_option maxRecDepth 100000 in
set_option maxHeartbeats 2000000 in
theorem first_num (a : Option Addr) (n c : Nat) (x0 : Nat → Int) (P : Nat → Bool) (h : FuncId) (caps : Array Value) (r : Int) (w : World) (hrow : Hid (∀ k, k < n → ∃ b off, a = some ⟨b, off, none⟩ ∧ b < w.heap.size ∧ w.cell? ⟨b, off + k, none⟩ = some (.int .i64 (x0 k)))) (hn : n ≤ 1000) (hen : ∀ args w, (callFunc h args).run Try.prog w = .ok (.enter h args) w)
    (hcl : Hid (∀ k wr, k < n → Below w.heap.size w wr → (∀ j, j < k → P j = true) → Calls Try.prog h (#[.int .i64 (x0 k), .int .i64 (ahI x0 k)] ++ caps) wr fun e w' => e = .returned (.bool (P k)) ∧ Below wr.heap.size wr w')) (hr : Hid (frI P n = r)) :
    Calls Try.prog 142 #[.slice a n c, .func (.func h) #[] caps] w fun e w' => e = .returned (.int .i64 r) ∧ Below w.heap.size w w' := by
  go_enter Try.func142, Try.ntmps142
  go_wp2_with fail
  have HB0 := Lib.hid (Below.refl w.heap.size w)
  go_loopw [5, 10] (fun v i wr => ∃ k : Nat, k ≤ n ∧ i = .int .i64 k ∧ v = .int .i64 (ahI x0 k) ∧ Hid (∀ j, j < k → P j = true) ∧ Hid (Below w.heap.size w wr)) (fun _ i _ => n - (intOf i).toNat)
  case atStart => exact ⟨0, by omega, rfl, rfl, Lib.hid (fun j hj => by omega), HB0⟩
  case round =>
    clear HB0
    obtain ⟨k, hk, rfl, rfl, HL, HB⟩ := hrel
    by_cases hlt : k < n
    · obtain ⟨b, off, rfl, hbl, c0⟩ := hrow.out k hlt
      have c0 := keep HB.out c0 hbl
      obtain ⟨v, hv⟩ : ∃ v, P k = v := ⟨_, rfl⟩
      have HV := Lib.hid hv
      have C := hcl.out k _ hlt HB.out HL.out
      rw [hv] at C
      have C := Lib.hid C
      clear hv
      have HZ := Lib.hid (show ahI x0 (k + 1) = x0 k from rfl)
      generalize x0 k = y0 at *
      generalize ahI x0 k = z0 at *
      cases v
      · go_wp2_with fail
        refine C.out.mono ?_
        rintro e1 w5 ⟨rfl, k5⟩
        have HB5 := Lib.hid (HB.out.trans (k5.mono HB.out.size))
        clear k5
        go_wp2_with fail
        go_ret
        refine ⟨Kit.ret_int ?_, HB5.out⟩
        have e := hr.out
        unfold frI at e
        rw [fb_hit HL.out HV.out n hlt, if_pos hlt] at e
        exact e
      · go_wp2_with fail
        refine C.out.mono ?_
        rintro e1 w5 ⟨rfl, k5⟩
        have HB5 := Lib.hid (HB.out.trans (k5.mono HB.out.size))
        clear k5
        go_wp2_with fail
        go_roundw
        case rel => exact ⟨k + 1, by omega, by go_num, by rw [HZ.out], Lib.hid (fun j hj => by
          by_cases e : j = k
          · subst e; exact HV.out
          · exact HL.out j (by omega)), HB5⟩
        case measure => simp [intOf]; omega
    · obtain rfl : k = n := by omega
      go_wp2_with fail
      go_ret
      refine ⟨Kit.ret_int ?_, HB.out⟩
      have e := hr.out
      unfold frI at e
      rw [fb_all k HL.out, if_neg (by omega)] at e
      exact e
set_option maxRecDepth 100000 in
set_option maxHeartbeats 2000000 in
theorem first_reg (a : Option Addr) (n c : Nat) (x0 : Nat → Int) (x1 : Nat → Int) (x2 : Nat → Bool) (P : Nat → Bool) (h : FuncId) (caps : Array Value) (r : Int) (w : World) (hrow : Hid (∀ k, k < n → ∃ b off, a = some ⟨b, off, none⟩ ∧ b < w.heap.size ∧ w.cell? ⟨b, off + k * 3, none⟩ = some (.int .i64 (x0 k)) ∧ w.cell? ⟨b, off + k * 3 + 1, none⟩ = some (.int .i64 (x1 k)) ∧ w.cell? ⟨b, off + k * 3 + 2, none⟩ = some (.bool (x2 k)))) (hn : n ≤ 1000) (hen : ∀ args w, (callFunc h args).run Try.prog w = .ok (.enter h args) w)
    (hcl : Hid (∀ k wr, k < n → Below w.heap.size w wr → (∀ j, j < k → P j = true) → Calls Try.prog h (#[.agg #[.int .i64 (x0 k), .int .i64 (x1 k), .bool (x2 k)], .agg #[.int .i64 (ahI x0 k), .int .i64 (ahI x1 k), .bool (ahB x2 k)]] ++ caps) wr fun e w' => e = .returned (.bool (P k)) ∧ Below wr.heap.size wr w')) (hr : Hid (frI P n = r)) :
    Calls Try.prog 131 #[.slice a n c, .func (.func h) #[] caps] w fun e w' => e = .returned (.int .i64 r) ∧ Below w.heap.size w w' := by
  go_enter Try.func131, Try.ntmps131
  go_wp2_with fail
  have B0 : Hid (Box (w.alloc (.cells #[.int .i64 0, .int .i64 0, .bool false] 145)) w.heap.size #[.int .i64 (ahI x0 0), .int .i64 (ahI x1 0), .bool (ahB x2 0)] 145) := Lib.hid (Box.new w _ _)
  have HB0 : Hid (Below w.heap.size w (w.alloc (.cells #[.int .i64 0, .int .i64 0, .bool false] 145))) := Lib.hid ((Below.refl w.heap.size w).alloc (Nat.le_refl _) _)
  generalize w.alloc (.cells #[.int .i64 0, .int .i64 0, .bool false] 145) = W at B0 HB0 ⊢
  go_loopw [10] (fun i wr => ∃ k : Nat, k ≤ n ∧ i = .int .i64 k ∧ Hid (∀ j, j < k → P j = true) ∧ Hid (Below w.heap.size w wr) ∧ Hid (Box wr w.heap.size #[.int .i64 (ahI x0 k), .int .i64 (ahI x1 k), .bool (ahB x2 k)] 145)) (fun i _ => n - (intOf i).toNat)
  case atStart => exact ⟨0, by omega, rfl, Lib.hid (fun j hj => by omega), HB0, B0⟩
  case round =>
    clear B0 HB0
    obtain ⟨k, hk, rfl, HL, HB, B1⟩ := hrel
    by_cases hlt : k < n
    · obtain ⟨b, off, rfl, hbl, c0, c1, c2⟩ := hrow.out k hlt
      have c0 := keep HB.out c0 hbl
      have c1 := keep HB.out c1 hbl
      have c2 := keep HB.out c2 hbl
      obtain ⟨v, hv⟩ : ∃ v, P k = v := ⟨_, rfl⟩
      have HV := Lib.hid hv
      have C := hcl.out k _ hlt (HB.out.alloc HB.out.size (.cells #[.int .i64 (x0 k), .int .i64 (x1 k), .bool (x2 k)] 145)) HL.out
      rw [hv] at C
      have C := Lib.hid C
      have bl := B1.out.lt
      have bc := (B1.out.alloc (.cells #[.int .i64 (x0 k), .int .i64 (x1 k), .bool (x2 k)] 145)).cell
      have HS := Lib.hid (show (#[.int .i64 (ahI x0 (k + 1)), .int .i64 (ahI x1 (k + 1)), .bool (ahB x2 (k + 1))] : Array Value) = #[.int .i64 (x0 k), .int .i64 (x1 k), .bool (x2 k)] from rfl)
      clear hv
      generalize x0 k = y0 at *
      generalize ahI x0 k = z0 at *
      generalize x1 k = y1 at *
      generalize ahI x1 k = z1 at *
      generalize x2 k = y2 at *
      generalize ahB x2 k = z2 at *
      have X := Lib.hid (Box.new wr #[.int .i64 (y0), .int .i64 (y1), .bool (y2)] 145)
      cases v
      · go_wp2_with fail
        refine C.out.mono ?_
        rintro e1 w5 ⟨rfl, k5⟩
        have HB5 := Lib.hid (HB.out.trans (((Below.refl w.heap.size wr).alloc (by omega) _).trans (k5.mono (by simp; omega))))
        clear k5 bc
        go_wp2_with fail
        go_ret
        refine ⟨Kit.ret_int ?_, HB5.out⟩
        have e := hr.out
        unfold frI at e
        rw [fb_hit HL.out HV.out n hlt, if_pos hlt] at e
        exact e
      · go_wp2_with fail
        refine C.out.mono ?_
        rintro e1 w5 ⟨rfl, k5⟩
        have HB5 := Lib.hid (HB.out.trans (((Below.refl w.heap.size wr).alloc (by omega) _).trans (k5.mono (by simp; omega))))
        have X5 := Lib.hid (X.out.next k5)
        have B5 := Lib.hid ((B1.out.alloc (.cells #[.int .i64 (y0), .int .i64 (y1), .bool (y2)] 145)).next k5)
        have xc := X5.out.cell
        have bc5 := B5.out.cell
        have bf5 := B5.out.frozen
        clear k5 bc
        go_wp2_with fail
        go_roundw
        case rel => exact ⟨k + 1, by omega, by go_num, Lib.hid (fun j hj => by
          by_cases e : j = k
          · subst e; exact HV.out
          · exact HL.out j (by omega)), Lib.hid (((HB5.out.setCell (by simp) _).setCell (by simp) _).setCell (by simp) _), by rw [HS.out]; exact Lib.hid (((B5.out.set 0 _).set 1 _).set 2 _)⟩
        case measure => simp [intOf]; omega
    · obtain rfl : k = n := by omega
      go_wp2_with fail
      go_ret
      refine ⟨Kit.ret_int ?_, HB.out⟩
      have e := hr.out
      unfold frI at e
      rw [fb_all k HL.out, if_neg (by omega)] at e
      exact e
set_option maxRecDepth 100000 in
set_option maxHeartbeats 2000000 in
theorem first_win (a : Option Addr) (n c : Nat) (x0 : Nat → Int) (x1 : Nat → Int) (x2 : Nat → Int) (P : Nat → Bool) (h : FuncId) (caps : Array Value) (r : Int) (w : World) (hrow : Hid (∀ k, k < n → ∃ b off, a = some ⟨b, off, none⟩ ∧ b < w.heap.size ∧ w.cell? ⟨b, off + k * 3, none⟩ = some (.int .i64 (x0 k)) ∧ w.cell? ⟨b, off + k * 3 + 1, none⟩ = some (.int .i64 (x1 k)) ∧ w.cell? ⟨b, off + k * 3 + 2, none⟩ = some (.int .i64 (x2 k)))) (hn : n ≤ 1000) (hen : ∀ args w, (callFunc h args).run Try.prog w = .ok (.enter h args) w)
    (hcl : Hid (∀ k wr, k < n → Below w.heap.size w wr → (∀ j, j < k → P j = true) → Calls Try.prog h (#[.agg #[.int .i64 (x0 k), .int .i64 (x1 k), .int .i64 (x2 k)], .agg #[.int .i64 (ahI x0 k), .int .i64 (ahI x1 k), .int .i64 (ahI x2 k)]] ++ caps) wr fun e w' => e = .returned (.bool (P k)) ∧ Below wr.heap.size wr w')) (hr : Hid (frI P n = r)) :
    Calls Try.prog 99 #[.slice a n c, .func (.func h) #[] caps] w fun e w' => e = .returned (.int .i64 r) ∧ Below w.heap.size w w' := by
  go_enter Try.func99, Try.ntmps99
  go_wp2_with fail
  have B0 : Hid (Box (w.alloc (.cells #[.int .i64 0, .int .i64 0, .int .i64 0] 85)) w.heap.size #[.int .i64 (ahI x0 0), .int .i64 (ahI x1 0), .int .i64 (ahI x2 0)] 85) := Lib.hid (Box.new w _ _)
  have HB0 : Hid (Below w.heap.size w (w.alloc (.cells #[.int .i64 0, .int .i64 0, .int .i64 0] 85))) := Lib.hid ((Below.refl w.heap.size w).alloc (Nat.le_refl _) _)
  generalize w.alloc (.cells #[.int .i64 0, .int .i64 0, .int .i64 0] 85) = W at B0 HB0 ⊢
  go_loopw [10] (fun i wr => ∃ k : Nat, k ≤ n ∧ i = .int .i64 k ∧ Hid (∀ j, j < k → P j = true) ∧ Hid (Below w.heap.size w wr) ∧ Hid (Box wr w.heap.size #[.int .i64 (ahI x0 k), .int .i64 (ahI x1 k), .int .i64 (ahI x2 k)] 85)) (fun i _ => n - (intOf i).toNat)
  case atStart => exact ⟨0, by omega, rfl, Lib.hid (fun j hj => by omega), HB0, B0⟩
  case round =>
    clear B0 HB0
    obtain ⟨k, hk, rfl, HL, HB, B1⟩ := hrel
    by_cases hlt : k < n
    · obtain ⟨b, off, rfl, hbl, c0, c1, c2⟩ := hrow.out k hlt
      have c0 := keep HB.out c0 hbl
      have c1 := keep HB.out c1 hbl
      have c2 := keep HB.out c2 hbl
      obtain ⟨v, hv⟩ : ∃ v, P k = v := ⟨_, rfl⟩
      have HV := Lib.hid hv
      have C := hcl.out k _ hlt (HB.out.alloc HB.out.size (.cells #[.int .i64 (x0 k), .int .i64 (x1 k), .int .i64 (x2 k)] 85)) HL.out
      rw [hv] at C
      have C := Lib.hid C
      have bl := B1.out.lt
      have bc := (B1.out.alloc (.cells #[.int .i64 (x0 k), .int .i64 (x1 k), .int .i64 (x2 k)] 85)).cell
      have HS := Lib.hid (show (#[.int .i64 (ahI x0 (k + 1)), .int .i64 (ahI x1 (k + 1)), .int .i64 (ahI x2 (k + 1))] : Array Value) = #[.int .i64 (x0 k), .int .i64 (x1 k), .int .i64 (x2 k)] from rfl)
      clear hv
      generalize x0 k = y0 at *
      generalize ahI x0 k = z0 at *
      generalize x1 k = y1 at *
      generalize ahI x1 k = z1 at *
      generalize x2 k = y2 at *
      generalize ahI x2 k = z2 at *
      have X := Lib.hid (Box.new wr #[.int .i64 (y0), .int .i64 (y1), .int .i64 (y2)] 85)
      cases v
      · go_wp2_with fail
        refine C.out.mono ?_
        rintro e1 w5 ⟨rfl, k5⟩
        have HB5 := Lib.hid (HB.out.trans (((Below.refl w.heap.size wr).alloc (by omega) _).trans (k5.mono (by simp; omega))))
        clear k5 bc
        go_wp2_with fail
        go_ret
        refine ⟨Kit.ret_int ?_, HB5.out⟩
        have e := hr.out
        unfold frI at e
        rw [fb_hit HL.out HV.out n hlt, if_pos hlt] at e
        exact e
      · go_wp2_with fail
        refine C.out.mono ?_
        rintro e1 w5 ⟨rfl, k5⟩
        have HB5 := Lib.hid (HB.out.trans (((Below.refl w.heap.size wr).alloc (by omega) _).trans (k5.mono (by simp; omega))))
        have X5 := Lib.hid (X.out.next k5)
        have B5 := Lib.hid ((B1.out.alloc (.cells #[.int .i64 (y0), .int .i64 (y1), .int .i64 (y2)] 85)).next k5)
        have xc := X5.out.cell
        have bc5 := B5.out.cell
        have bf5 := B5.out.frozen
        clear k5 bc
        go_wp2_with fail
        go_roundw
        case rel => exact ⟨k + 1, by omega, by go_num, Lib.hid (fun j hj => by
          by_cases e : j = k
          · subst e; exact HV.out
          · exact HL.out j (by omega)), Lib.hid (((HB5.out.setCell (by simp) _).setCell (by simp) _).setCell (by simp) _), by rw [HS.out]; exact Lib.hid (((B5.out.set 0 _).set 1 _).set 2 _)⟩
        case measure => simp [intOf]; omega
    · obtain rfl : k = n := by omega
      go_wp2_with fail
      go_ret
      refine ⟨Kit.ret_int ?_, HB.out⟩
      have e := hr.out
      unfold frI at e
      rw [fb_all k HL.out, if_neg (by omega)] at e
      exact e
end Go.Proofs.Ytgkahcchekiogaa.Vfb

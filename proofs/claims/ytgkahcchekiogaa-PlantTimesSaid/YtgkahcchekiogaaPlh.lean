/- Walks of package plant: New; what works. -/
import Derived.Test.YtgkahcchekiogaaPlg
namespace Go.Proofs.Ytgkahcchekiogaa.Plh
open Go.RowKit Base Kit RefA Alt WideA WideB Plain MetA MetB MetC Conf Plb Plc Held Pld Ple Plf Plg
set_option linter.unusedVariables false
set_option linter.unusedSimpArgs false
attribute [local go_sem ↓] Go.wp_at_zero Go.wp_at_succ
def st0 (c : PowC) : PS := ⟨0, 0, 0, (c.ln : Int) - 1, nil⟩
theorem st0_ok (c : PowC) (n : Nat) (hn : n ≤ 8) : POk n c.ln (st0 c) := ⟨⟨by simp [st0], by simp [st0]⟩, ⟨by simp [st0], by simp [st0]⟩, ⟨by simp [st0], by simp [st0]⟩, ⟨by simp [st0]; omega, by simp [st0]; omega⟩, rfl, nil_ok n hn⟩
def PnPost (w0 w : World) (n : Nat) (c : PowC) (e : Ending) (w' : World) : Prop := ∃ b m g, e = .returned (.pointer (some ⟨b, 0, none⟩)) ∧ Below w.heap.size w w' ∧ w.heap.size ≤ b ∧ w.heap.size ≤ m ∧ w.heap.size ≤ g ∧ Hid (Pl w0 w' b m g n c (st0 c))
set_option maxRecDepth 100000 in
set_option maxHeartbeats 2000000 in
theorem new_any (w0 w : World) (c : PowC) (p : Int) (co : c.Ok w0) (hb : Hid (Below w0.heap.size w0 w)) :
    Calls Try.prog 15 #[.agg #[.slice c.la c.ln c.lc, .slice c.na c.nn c.nc, .int .i64 c.sw, .int .i64 c.id, .int .i64 c.ch, .int .i64 c.qu, .int .i64 c.sl, .int .i64 c.pp], .int .i64 p] w (PnPost w0 w (many p) c) := by
  have hln := co.lev.out.1
  have C := Lib.hid (fun w => MetC.new_any w p)
  have N8 := many_le p
  generalize many p = n at *
  go_enter Try.func15, Try.ntmps15
  go_wp2_with fail
  have BX := Lib.hid ((Box.new w #[.slice c.la c.ln c.lc, .slice c.na c.nn c.nc, .int .i64 c.sw, .int .i64 c.id, .int .i64 c.ch, .int .i64 c.qu, .int .i64 c.sl, .int .i64 c.pp] 25).drew)
  have HB := Lib.hid (((Below.refl w.heap.size w).alloc (Nat.le_refl _) (.cells #[.slice c.la c.ln c.lc, .slice c.na c.nn c.nc, .int .i64 c.sw, .int .i64 c.id, .int .i64 c.ch, .int .i64 c.qu, .int .i64 c.sl, .int .i64 c.pp] 25)).drew)
  have bx := BX.out.cell
  have WS : IntKind.i64.wrap ((c.ln : Int) - 1) = (c.ln : Int) - 1 := IntWalk.i64_in _ (by omega)
  refine wp_region_till (fun w' => (∀ i, w'.cell? ⟨w.heap.size, i, none⟩ = (#[.slice c.la c.ln c.lc, .slice c.na c.nn c.nc, .int .i64 c.sw, .int .i64 c.id, .int .i64 c.ch, .int .i64 c.qu, .int .i64 c.sl, .int .i64 c.pp] : Array Value)[i]?) ∧ True) (fun w' => True) 7 11 #[false, false, false, false, false, false, false, false, false, false, false] (by kernel_rfl) rfl rfl ⟨⟨bx, trivial⟩, trivial⟩ (fun hHeld => ?_)
  refine HeldT.wpTill_takeT false (i := 0) (v := ?_) rfl (by kernel_rfl) (by kernel_rfl) (by kernel_rfl) (fun _ _ _ h => h) (by kernel_rfl) (Or.inl ⟨by first | rfl | kernel_rfl, ?_⟩) hHeld (fun hHeld => ?_)
  rotate_left
  · (intro w' hSw; obtain ⟨⟨r1, r2⟩, r3⟩ := hSw; (try have r4 := r3 rfl); (try dsimp only at r1 r2 r4); clear r3; go_simp; try with_reducible rfl)
  try simp only [Act.put, List.setIfInBounds_toArray, List.set_cons_zero, List.set_cons_succ, List.getElem_toArray, List.getElem_cons_succ, List.getElem_cons_zero]
  refine HeldT.wpTill_takeT false (i := 1) (v := ?_) rfl (by kernel_rfl) (by kernel_rfl) (by kernel_rfl) (fun _ _ _ h => h) (by kernel_rfl) (Or.inl ⟨by first | rfl | kernel_rfl, ?_⟩) hHeld (fun hHeld => ?_)
  rotate_left
  · (intro w' hSw; obtain ⟨⟨r1, r2⟩, r3⟩ := hSw; (try have r4 := r3 rfl); (try dsimp only at r1 r2 r4); clear r3; go_simp; try with_reducible rfl)
  try simp only [Act.put, List.setIfInBounds_toArray, List.set_cons_zero, List.set_cons_succ, List.getElem_toArray, List.getElem_cons_succ, List.getElem_cons_zero]
  refine HeldT.wpTill_takeT false (i := 2) (v := ?_) rfl (by kernel_rfl) (by kernel_rfl) (by kernel_rfl) (fun _ _ _ h => h) (by kernel_rfl) (Or.inl ⟨by first | rfl | kernel_rfl, ?_⟩) hHeld (fun hHeld => ?_)
  rotate_left
  · (intro w' hSw; obtain ⟨⟨r1, r2⟩, r3⟩ := hSw; (try have r4 := r3 rfl); (try dsimp only at r1 r2 r4); clear r3; go_simp; try with_reducible rfl)
  try simp only [Act.put, List.setIfInBounds_toArray, List.set_cons_zero, List.set_cons_succ, List.getElem_toArray, List.getElem_cons_succ, List.getElem_cons_zero]
  refine HeldT.wpTill_takeT false (i := 3) (v := ?_) rfl (by kernel_rfl) (by kernel_rfl) (by kernel_rfl) (fun _ _ _ h => h) (by kernel_rfl) (Or.inl ⟨by first | rfl | kernel_rfl, ?_⟩) hHeld (fun hHeld => ?_)
  rotate_left
  · (intro w' hSw; obtain ⟨⟨r1, r2⟩, r3⟩ := hSw; (try have r4 := r3 rfl); (try dsimp only at r1 r2 r4); clear r3; go_simp; try with_reducible rfl)
  try simp only [Act.put, List.setIfInBounds_toArray, List.set_cons_zero, List.set_cons_succ, List.getElem_toArray, List.getElem_cons_succ, List.getElem_cons_zero]
  refine HeldT.wpTill_takeT false (i := 4) (v := ?_) rfl (by kernel_rfl) (by kernel_rfl) (by kernel_rfl) (fun _ _ _ h => h) (by kernel_rfl) (Or.inl ⟨by first | rfl | kernel_rfl, ?_⟩) hHeld (fun hHeld => ?_)
  rotate_left
  · (intro w' hSw; obtain ⟨⟨r1, r2⟩, r3⟩ := hSw; (try have r4 := r3 rfl); (try dsimp only at r1 r2 r4); clear r3; go_simp; try with_reducible rfl)
  try simp only [Act.put, List.setIfInBounds_toArray, List.set_cons_zero, List.set_cons_succ, List.getElem_toArray, List.getElem_cons_succ, List.getElem_cons_zero]
  refine HeldT.wpTill_takeT false (i := 5) (v := ?_) rfl (by kernel_rfl) (by kernel_rfl) (by kernel_rfl) (fun _ _ _ h => h) (by kernel_rfl) (Or.inl ⟨by first | rfl | kernel_rfl, ?_⟩) hHeld (fun hHeld => ?_)
  rotate_left
  · (intro w' hSw; obtain ⟨⟨r1, r2⟩, r3⟩ := hSw; (try have r4 := r3 rfl); (try dsimp only at r1 r2 r4); clear r3; go_simp; try with_reducible rfl)
  try simp only [Act.put, List.setIfInBounds_toArray, List.set_cons_zero, List.set_cons_succ, List.getElem_toArray, List.getElem_cons_succ, List.getElem_cons_zero]
  refine HeldT.wpTill_takeT false (i := 6) (v := ?_) rfl (by kernel_rfl) (by kernel_rfl) (by kernel_rfl) (fun _ _ _ h => h) (by kernel_rfl) (Or.inl ⟨by first | rfl | kernel_rfl, ?_⟩) hHeld (fun hHeld => ?_)
  rotate_left
  · (intro w' hSw; obtain ⟨⟨r1, r2⟩, r3⟩ := hSw; (try have r4 := r3 rfl); (try dsimp only at r1 r2 r4); clear r3; go_simp; try with_reducible rfl)
  try simp only [Act.put, List.setIfInBounds_toArray, List.set_cons_zero, List.set_cons_succ, List.getElem_toArray, List.getElem_cons_succ, List.getElem_cons_zero]
  refine wpTill_one (i := 7) (by kernel_rfl) rfl (fun K hK => ?_)
  rw [if_pos (by kernel_rfl)]
  go_simp
  refine (C.out _).mono ?_
  rintro e1 w2 ⟨m, g, rfl, hm, hg, hb2, hM⟩
  have HB2 := Lib.hid (below_next HB.out hb2)
  refine hK _ _ ⟨⟨(BX.out.next hb2).cell, trivial⟩, fun _ => trivial⟩ (fun hHeld => ?_)
  clear hK K bx
  refine HeldT.wpTill_takeT false (i := 8) (v := ?_) rfl (by kernel_rfl) (by kernel_rfl) (by kernel_rfl) (fun _ _ _ h => h) (by kernel_rfl) (Or.inl ⟨by first | rfl | kernel_rfl, ?_⟩) hHeld (fun hHeld => ?_)
  rotate_left
  · (intro w' hSw; obtain ⟨⟨r1, r2⟩, r3⟩ := hSw; (try have r4 := r3 rfl); (try dsimp only at r1 r2 r4); clear r3; go_simp; try with_reducible rfl)
  try simp only [Act.put, List.setIfInBounds_toArray, List.set_cons_zero, List.set_cons_succ, List.getElem_toArray, List.getElem_cons_succ, List.getElem_cons_zero]
  refine wpTill_one (i := 9) (by kernel_rfl) rfl (fun K hK => ?_)
  have bx2 := (BX.out.next hb2).cell
  have SZ := HB.out.size
  have SZ2 := hb2.size
  simp at SZ2 hm hg
  have FIN : Hid (Pl w0 (w2.alloc (.cells #[.int .i64 0, .int .i64 0, .int .i64 0, .int .i64 ((c.ln : Int) - 1), .slice c.la c.ln c.lc, .slice c.na c.nn c.nc, .int .i64 c.sw, .int .i64 c.id, .int .i64 c.ch, .int .i64 c.qu, .int .i64 c.sl, .int .i64 c.pp, .pointer (some ⟨m, 0, none⟩)] 43)) w2.heap.size m g n c (st0 c)) := by
    have h0 := hb.out.size
    exact Lib.hid ⟨(below_next hb.out HB2.out).alloc (Nat.le_trans h0 HB2.out.size) _, by omega, by omega, by omega, Box.new _ _ _, Lib.hid (hM.out.below ((Below.refl _ _).alloc (Nat.le_refl _) _)), st0_ok c n N8, co⟩
  go_simp
  refine hK _ _ ⟨⟨((BX.out.next hb2).alloc _).cell, trivial⟩, fun _ => trivial⟩ (fun hHeld => ?_)
  clear hK K bx2
  refine HeldT.wpTill_takeT false (i := 10) (v := ?_) rfl (by kernel_rfl) (by kernel_rfl) (by kernel_rfl) (fun _ _ _ h => h) (by kernel_rfl) (Or.inl ⟨by first | rfl | kernel_rfl, ?_⟩) hHeld (fun hHeld => ?_)
  rotate_left
  · (intro w' hSw; obtain ⟨⟨r1, r2⟩, r3⟩ := hSw; (try have r4 := r3 rfl); (try dsimp only at r1 r2 r4); clear r3; go_simp; try with_reducible rfl)
  try simp only [Act.put, List.setIfInBounds_toArray, List.set_cons_zero, List.set_cons_succ, List.getElem_toArray, List.getElem_cons_succ, List.getElem_cons_zero]
  refine wpTill_done (by kernel_rfl) ?_ 0
  clear hHeld WS
  go_wp2_with fail
  go_ret
  exact ⟨w2.heap.size, m, g, rfl, HB2.out.alloc HB2.out.size _, by omega, by omega, by omega, FIN⟩

/-- the platform that works -/
def lev0 : Nat → Nat → Int := fun k j => if k = 0 then (if j = 0 then 3 else 2) else (if j = 0 then 5 else 7)
def plainC (b : Nat) : PowC := ⟨some ⟨b, 0, none⟩, 2, 2, lev0, none, 0, 0, fun _ _ => 0, 10, 1, 3, 0, 1000, 0⟩
theorem run_plain (b : Nat) (n : Nat) (s : PS) (p cy : Int) : runP n (plainC b) s p cy = runP n (plainC 0) s p cy := rfl
theorem turn_plain (b : Nat) (n : Nat) (s : PS) (l : Int) : turnP n (plainC b) s l = turnP n (plainC 0) s l := rfl
theorem plain_any (w : World) : Calls Try.prog 57 #[] w fun e w' => ∃ b, e = .returned (.agg #[.slice (some ⟨b, 0, none⟩) 2 2, .slice none 0 0, .int .i64 10, .int .i64 1, .int .i64 3, .int .i64 0, .int .i64 1000, .int .i64 0]) ∧ Below w.heap.size w w' ∧ (plainC b).Ok w' := by
  have b1 := (Box.new (w.alloc (.cells #[.slice none 0 0, .slice none 0 0, .int .i64 0, .int .i64 0, .int .i64 0, .int .i64 0, .int .i64 0, .int .i64 0] 25)) #[.int .i64 3, .int .i64 2, .int .i64 5, .int .i64 7] 119)
  rw [World.size_alloc] at b1
  have B1 := Lib.hid b1
  have A1 := Lib.hid (((Below.refl w.heap.size w).alloc (Nat.le_refl _) (.cells #[.slice none 0 0, .slice none 0 0, .int .i64 0, .int .i64 0, .int .i64 0, .int .i64 0, .int .i64 0, .int .i64 0] 25)).alloc (by simp) (.cells #[.int .i64 3, .int .i64 2, .int .i64 5, .int .i64 7] 119))
  clear b1
  go_enter Try.func57, Try.ntmps57
  go_wp2_with fail
  refine bodyPost_ret (v := .agg #[.slice (some ⟨w.heap.size + 1, 0, none⟩) 2 2, .slice none 0 0, .int .i64 10, .int .i64 1, .int .i64 3, .int .i64 0, .int .i64 1000, .int .i64 0]) ?_ rfl ⟨w.heap.size + 1, rfl, ?_, ?_⟩
  · simp [results, Try.results57, go_sem]
  · exact ((Below.refl _ _).alloc (Nat.le_refl _) _).alloc (by simp) _
  · refine ⟨Lib.hid ⟨by simp [plainC], .inr ⟨w.heap.size + 1, 0, rfl, ?_, fun i hi j hj => ?_⟩, fun i hi j hj => ?_⟩, Lib.hid ⟨by simp [plainC], .inl rfl, fun i hi => by simp [plainC] at hi⟩, by simp [I64, plainC], by simp [I64, plainC], by simp [I64, plainC], by simp [I64, plainC], by simp [I64, plainC], by simp [I64, plainC]⟩
    · simp [World.setCell]
    · have hi : i = 0 ∨ i = 1 := by simp [plainC] at hi; omega
      have hj : j = 0 ∨ j = 1 := by omega
      rcases hi with rfl | rfl <;> rcases hj with rfl | rfl <;> simp [plainC, lev0]
    · have hi : i = 0 ∨ i = 1 := by simp [plainC] at hi; omega
      have hj : j = 0 ∨ j = 1 := by omega
      rcases hi with rfl | rfl <;> rcases hj with rfl | rfl <;> simp [I64, plainC, lev0]
theorem pl_spot {w0 w : World} {b m g n : Nat} {c : PowC} {s : PS} (h : Hid (Pl w0 w b m g n c s)) {t : Int} (ht : Hid (tot n s.m = t)) :
    Calls Try.prog 58 #[.pointer (some ⟨m, 0, none⟩)] w fun e w' => e = .returned (.int .i64 t) ∧ w = w' := by
  have := ht.out; subst this
  exact total_any w m g n n s.m h.out.met
def s1 : PS := (runP 1 (plainC 0) (st0 (plainC 0)) 0 3).2
def s2 : PS := (turnP 1 (plainC 0) s1 0).2
def s3 : PS := (runP 1 (plainC 0) s2 0 1).2
theorem works_s1 : (runP 1 (plainC 0) (st0 (plainC 0)) 0 3).1 = 0 ∧ s1.now = 600 := by decide +kernel
theorem works_s2 : (turnP 1 (plainC 0) s1 0).1 = 0 := by decide +kernel
theorem works_s3 : (runP 1 (plainC 0) s2 0 1).1 = 0 ∧ s3.now = 944 ∧ tot 1 s3.m = 4898 := by decide +kernel
set_option maxRecDepth 100000 in
set_option maxHeartbeats 1000000 in
theorem works_any (w : World) : Calls Try.prog 14 #[] w fun e w' => e = .returned (.bool true) ∧ Below w.heap.size w w' := by
  have C0 := Lib.hid (fun (v w' : World) (b : Nat) (co : (plainC b).Ok v) h => new_any v w' (plainC b) 1 co h)
  rw [show many 1 = 1 from by decide +kernel] at C0
  have C1 := Lib.hid (fun (v w' : World) (b x y z : Nat) (h : Hid (Pl v w' x y z 1 (plainC b) (st0 (plainC 0)))) => run_any h 0 3 ⟨by omega, by omega⟩ ⟨by omega, by omega⟩ 0 s1 (Lib.hid (by rw [run_plain]; exact Prod.ext works_s1.1 rfl)))
  have C2 := Lib.hid (fun (v w' : World) (b x y z : Nat) (h : Hid (Pl v w' x y z 1 (plainC b) s1)) => turn_any h 0 ⟨by omega, by omega⟩ 0 s2 (Lib.hid (by rw [turn_plain]; exact Prod.ext works_s2 rfl)))
  have C3 := Lib.hid (fun (v w' : World) (b x y z : Nat) (h : Hid (Pl v w' x y z 1 (plainC b) s2)) => run_any h 0 1 ⟨by omega, by omega⟩ ⟨by omega, by omega⟩ 0 s3 (Lib.hid (by rw [run_plain]; exact Prod.ext works_s3.1 rfl)))
  have N1 := Lib.hid works_s1.2
  have N3 := Lib.hid works_s3.2
  generalize s1 = s1 at *
  generalize s2 = s2 at *
  generalize s3 = s3 at *
  go_enter Try.func14, Try.ntmps14
  go_wp2_with fail
  refine (plain_any _).mono ?_
  rintro e1 w1 ⟨b, rfl, hb1, ok1⟩
  go_wp2_with fail
  refine (C0.out w1 w1 b ok1 (Lib.hid (Below.refl _ _))).mono ?_
  rintro e1 w2 ⟨x, y, z, rfl, hb2, hx, hy, hz, P⟩
  have HB := Lib.hid hb1
  have P : Hid (Pl w1 w2 x y z 1 (plainC b) (st0 (plainC 0))) := P
  clear ok1 hb1 hb2 hx hy hz C0
  go_wp2_with fail
  refine (C1.out _ _ _ _ _ _ P).mono ?_
  rintro e1 w3 ⟨rfl, -, P⟩
  clear C1
  go_wp2_with fail
  have CN := now_any P
  rw [N1.out] at CN
  have CN := Lib.hid CN
  refine CN.out.mono ?_
  rintro e1 w4 ⟨rfl, rfl⟩
  clear CN
  go_wp2_with fail
  refine (C2.out _ _ _ _ _ _ P).mono ?_
  rintro e1 w4 ⟨rfl, -, P⟩
  clear C2
  go_wp2_with fail
  refine (C3.out _ _ _ _ _ _ P).mono ?_
  rintro e1 w5 ⟨rfl, -, P⟩
  clear C3
  have CN := now_any P
  rw [N3.out.1] at CN
  have CN := Lib.hid CN
  have CT := Lib.hid (pl_spot P (Lib.hid N3.out.2))
  go_wp2_with fail
  refine CN.out.mono ?_
  rintro e1 w6 ⟨rfl, rfl⟩
  go_wp2_with fail
  refine (meter_any P).mono ?_
  rintro e1 w6 ⟨rfl, rfl⟩
  go_wp2_with fail
  refine (meter_any P).mono ?_
  rintro e1 w6 ⟨rfl, rfl⟩
  go_wp2_with fail
  refine CT.out.mono ?_
  rintro e1 w6 ⟨rfl, rfl⟩
  go_wp2_with fail
  go_ret
  exact ⟨rfl, below_next HB.out P.out.bel⟩
end Go.Proofs.Ytgkahcchekiogaa.Plh

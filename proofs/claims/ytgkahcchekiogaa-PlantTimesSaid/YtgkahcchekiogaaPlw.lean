/- Both platforms side by side. -/
import Derived.Test.YtgkahcchekiogaaPlv
namespace Go.Proofs.Ytgkahcchekiogaa.Plw
open Go.RowKit Base Kit RefA Alt WideA WideB RefC Plain MetA MetB MetC MetR MetQ Conf Plb Held Plr Cls Pls
set_option linter.unusedVariables false
set_option linter.unusedSimpArgs false
attribute [local go_sem ↓] Go.wp_at_zero Go.wp_at_succ
def RnPost (w0 w : World) (n : Nat) (c : PowC) (e : Ending) (w' : World) : Prop := ∃ b m q, e = .returned (.pointer (some ⟨b, 0, none⟩)) ∧ Below w.heap.size w w' ∧ w.heap.size ≤ q ∧ Hid (RPl w0 w' b m q n n c (Plh.st0 c))
set_option maxRecDepth 100000 in
set_option maxHeartbeats 2000000 in
theorem rnew_any (w0 w : World) (c : PowC) (p : Int) (co : c.Ok w0) (hb : Hid (Below w0.heap.size w0 w)) :
    Calls Try.prog 16 #[.agg #[.slice c.la c.ln c.lc, .slice c.na c.nn c.nc, .int .i64 c.sw, .int .i64 c.id, .int .i64 c.ch, .int .i64 c.qu, .int .i64 c.sl, .int .i64 c.pp], .int .i64 p] w (RnPost w0 w (many p) c) := by
  have hln := co.lev.out.1
  have C := Lib.hid (fun w => MetR.newr_any w p)
  have N8 := many_le p
  generalize many p = n at *
  go_enter Try.func16, Try.ntmps16
  go_wp2_with fail
  have BX := Lib.hid ((Box.new w #[.slice c.la c.ln c.lc, .slice c.na c.nn c.nc, .int .i64 c.sw, .int .i64 c.id, .int .i64 c.ch, .int .i64 c.qu, .int .i64 c.sl, .int .i64 c.pp] 25).drew)
  have HB := Lib.hid (((Below.refl w.heap.size w).alloc (Nat.le_refl _) (.cells #[.slice c.la c.ln c.lc, .slice c.na c.nn c.nc, .int .i64 c.sw, .int .i64 c.id, .int .i64 c.ch, .int .i64 c.qu, .int .i64 c.sl, .int .i64 c.pp] 25)).drew)
  have bx := BX.out.cell
  have WS : IntKind.i64.wrap ((c.ln : Int) - 1) = (c.ln : Int) - 1 := IntWalk.i64_in _ (by omega)
  refine wp_region_till (fun w' => (∀ i, w'.cell? ⟨w.heap.size, i, none⟩ = (#[.slice c.la c.ln c.lc, .slice c.na c.nn c.nc, .int .i64 c.sw, .int .i64 c.id, .int .i64 c.ch, .int .i64 c.qu, .int .i64 c.sl, .int .i64 c.pp] : Array Value)[i]?) ∧ True) (fun w' => True) 6 10 #[false, false, false, false, false, false, false, false, false, false] (by kernel_rfl) rfl rfl ⟨⟨bx, trivial⟩, trivial⟩ (fun hHeld => ?_)
  refine HeldT.wpTill_takeT false (i := 0) (v := ?_) rfl (by kernel_rfl) (by kernel_rfl) (by kernel_rfl) (fun _ _ _ h => h) (by kernel_rfl) (Or.inl ⟨by first | rfl | kernel_rfl, ?_⟩) hHeld (fun hHeld => ?_)
  rotate_left
  · (intro w' hSw; obtain ⟨⟨r1, r2⟩, r3⟩ := hSw; (try have r4 := r3 rfl); (try dsimp only at r1 r2 r4); clear r3; go_simp; try with_reducible rfl)
  try simp only [Act.put, List.setIfInBounds_toArray, List.set_cons_zero, List.set_cons_succ, List.getElem_toArray, List.getElem_cons_succ, List.getElem_cons_zero]
  refine HeldT.wpTill_takeT false (i := 1) (v := ?_) rfl (by kernel_rfl) (by kernel_rfl) (by kernel_rfl) (fun _ _ _ h => h) (by kernel_rfl) (Or.inl ⟨by first | rfl | kernel_rfl, ?_⟩) hHeld (fun hHeld => ?_)
  rotate_left
  · (intro w' hSw; obtain ⟨⟨r1, r2⟩, r3⟩ := hSw; (try have r4 := r3 rfl); (try dsimp only at r1 r2 r4); clear r3; go_simp; try with_reducible rfl)
  try simp only [Act.put, List.setIfInBounds_toArray, List.set_cons_zero, List.set_cons_succ, List.getElem_toArray, List.getElem_cons_succ, List.getElem_cons_zero]
  refine HeldT.wpTill_takeT false (i := 2) (v := ?_) rfl (by kernel_rfl) (by kernel_rfl) (by kernel_rfl) (fun _ _ _ h => h) (by kernel_rfl) (Or.inl ⟨by first | rfl | kernel_rfl, ?_⟩) hHeld (fun hHeld => ?_)
  rotate_left
  · (intro w' hSw; obtain ⟨⟨r1, r2⟩, r3⟩ := hSw; (try have r4 := r3 rfl); (try dsimp only at r1 r2 r4); clear r3; go_simp; try with_reducible rfl)
  try simp only [Act.put, List.setIfInBounds_toArray, List.set_cons_zero, List.set_cons_succ, List.getElem_toArray, List.getElem_cons_succ, List.getElem_cons_zero]
  refine HeldT.wpTill_takeT false (i := 3) (v := ?_) rfl (by kernel_rfl) (by kernel_rfl) (by kernel_rfl) (fun _ _ _ h => h) (by kernel_rfl) (Or.inl ⟨by first | rfl | kernel_rfl, ?_⟩) hHeld (fun hHeld => ?_)
  rotate_left
  · (intro w' hSw; obtain ⟨⟨r1, r2⟩, r3⟩ := hSw; (try have r4 := r3 rfl); (try dsimp only at r1 r2 r4); clear r3; go_simp; try with_reducible rfl)
  try simp only [Act.put, List.setIfInBounds_toArray, List.set_cons_zero, List.set_cons_succ, List.getElem_toArray, List.getElem_cons_succ, List.getElem_cons_zero]
  refine HeldT.wpTill_takeT false (i := 4) (v := ?_) rfl (by kernel_rfl) (by kernel_rfl) (by kernel_rfl) (fun _ _ _ h => h) (by kernel_rfl) (Or.inl ⟨by first | rfl | kernel_rfl, ?_⟩) hHeld (fun hHeld => ?_)
  rotate_left
  · (intro w' hSw; obtain ⟨⟨r1, r2⟩, r3⟩ := hSw; (try have r4 := r3 rfl); (try dsimp only at r1 r2 r4); clear r3; go_simp; try with_reducible rfl)
  try simp only [Act.put, List.setIfInBounds_toArray, List.set_cons_zero, List.set_cons_succ, List.getElem_toArray, List.getElem_cons_succ, List.getElem_cons_zero]
  refine HeldT.wpTill_takeT false (i := 5) (v := ?_) rfl (by kernel_rfl) (by kernel_rfl) (by kernel_rfl) (fun _ _ _ h => h) (by kernel_rfl) (Or.inl ⟨by first | rfl | kernel_rfl, ?_⟩) hHeld (fun hHeld => ?_)
  rotate_left
  · (intro w' hSw; obtain ⟨⟨r1, r2⟩, r3⟩ := hSw; (try have r4 := r3 rfl); (try dsimp only at r1 r2 r4); clear r3; go_simp; try with_reducible rfl)
  try simp only [Act.put, List.setIfInBounds_toArray, List.set_cons_zero, List.set_cons_succ, List.getElem_toArray, List.getElem_cons_succ, List.getElem_cons_zero]
  refine wpTill_one (i := 6) (by kernel_rfl) rfl (fun K hK => ?_)
  rw [if_pos (by kernel_rfl)]
  go_simp
  refine (C.out _).mono ?_
  rintro e1 w2 ⟨m, q, rfl, hm, hg, hb2, hM⟩
  have HB2 := Lib.hid (below_next HB.out hb2)
  refine hK _ _ ⟨⟨(BX.out.next hb2).cell, trivial⟩, fun _ => trivial⟩ (fun hHeld => ?_)
  clear hK K bx
  refine HeldT.wpTill_takeT false (i := 7) (v := ?_) rfl (by kernel_rfl) (by kernel_rfl) (by kernel_rfl) (fun _ _ _ h => h) (by kernel_rfl) (Or.inl ⟨by first | rfl | kernel_rfl, ?_⟩) hHeld (fun hHeld => ?_)
  rotate_left
  · (intro w' hSw; obtain ⟨⟨r1, r2⟩, r3⟩ := hSw; (try have r4 := r3 rfl); (try dsimp only at r1 r2 r4); clear r3; go_simp; try with_reducible rfl)
  try simp only [Act.put, List.setIfInBounds_toArray, List.set_cons_zero, List.set_cons_succ, List.getElem_toArray, List.getElem_cons_succ, List.getElem_cons_zero]
  refine wpTill_one (i := 8) (by kernel_rfl) rfl (fun K hK => ?_)
  have SZ := HB.out.size
  have SZ2 := hb2.size
  simp at SZ2 hm hg
  have h0 := hb.out.size
  have FIN : Hid (RPl w0 (w2.alloc (.cells #[.int .i64 0, .int .i64 0, .int .i64 0, .int .i64 ((c.ln : Int) - 1), .slice c.la c.ln c.lc, .slice c.na c.nn c.nc, .int .i64 c.sw, .int .i64 c.id, .int .i64 c.ch, .int .i64 c.qu, .int .i64 c.sl, .int .i64 c.pp, .pointer (some ⟨m, 0, none⟩)] 108)) w2.heap.size m q n n c (Plh.st0 c)) :=
    Lib.hid ⟨(below_next hb.out HB2.out).alloc (Nat.le_trans h0 HB2.out.size) _, by omega, by omega, by omega, Box.new _ _ _, Lib.hid (hM.out.below ((Below.refl _ _).alloc (Nat.le_refl _) _)), ⟨⟨by simp [Plh.st0], by simp [Plh.st0]⟩, ⟨by simp [Plh.st0], by simp [Plh.st0]⟩, ⟨by simp [Plh.st0], by simp [Plh.st0]⟩, ⟨by simp [Plh.st0]; omega, by simp [Plh.st0]; omega⟩, nil_ok n N8⟩, co⟩
  go_simp
  refine hK _ _ ⟨⟨((BX.out.next hb2).alloc _).cell, trivial⟩, fun _ => trivial⟩ (fun hHeld => ?_)
  clear hK K
  refine HeldT.wpTill_takeT false (i := 9) (v := ?_) rfl (by kernel_rfl) (by kernel_rfl) (by kernel_rfl) (fun _ _ _ h => h) (by kernel_rfl) (Or.inl ⟨by first | rfl | kernel_rfl, ?_⟩) hHeld (fun hHeld => ?_)
  rotate_left
  · (intro w' hSw; obtain ⟨⟨r1, r2⟩, r3⟩ := hSw; (try have r4 := r3 rfl); (try dsimp only at r1 r2 r4); clear r3; go_simp; try with_reducible rfl)
  try simp only [Act.put, List.setIfInBounds_toArray, List.set_cons_zero, List.set_cons_succ, List.getElem_toArray, List.getElem_cons_succ, List.getElem_cons_zero]
  refine wpTill_done (by kernel_rfl) ?_ 0
  clear hHeld WS
  go_wp2_with fail
  go_ret
  exact ⟨w2.heap.size, m, q, rfl, HB2.out.alloc HB2.out.size _, by omega, FIN⟩

/-- both -/
structure Pt (w0 w : World) (b m g B M q cap n : Nat) (c : PowC) (s r : PS) : Prop where
  p : Hid (Pl w0 w b m g n c s)
  r : Hid (RPl w0 w B M q cap n c r)
  gq : g ≠ q
theorem pt_next {w0 w w1 : World} {b m g B M q cap n : Nat} {c : PowC} {s r : PS} (h : Hid (Pt w0 w b m g B M q cap n c s r)) (k : Below w.heap.size w w1) : Hid (Pt w0 w1 b m g B M q cap n c s r) :=
  Lib.hid ⟨pl_next h.out.p k, rp_next h.out.r k, h.out.gq⟩
theorem pt_p {w0 w w1 : World} {b m g B M q cap n : Nat} {c : PowC} {s s' r : PS} (h : Hid (Pt w0 w b m g B M q cap n c s r)) (a : Alt (PX b m g) w w1) (p : Hid (Pl w0 w1 b m g n c s')) : Hid (Pt w0 w1 b m g B M q cap n c s' r) := by
  have P := h.out.p
  have R := h.out.r
  refine Lib.hid ⟨p, rp_alt R a (fun i hi => by have := P.out.hb; have := P.out.hm; have := P.out.hg; rcases hi with e | e | e <;> omega) (Ple.px_ne P R.out.box (by decide) (by decide) (by decide)) (Ple.px_ne P R.out.met.out.box (by decide) (by decide) (by decide)) (fun e => ?_), h.out.gq⟩
  rcases e with e | e | e
  · exact own_ne R.out.met.out.own P.out.box (by decide) e
  · exact own_ne R.out.met.out.own P.out.met.out.box (by decide) e
  · exact h.out.gq e.symm
theorem pt_r {w0 w w1 : World} {b m g B M q cap q' cap' n : Nat} {c : PowC} {s r r' : PS} (h : Hid (Pt w0 w b m g B M q cap n c s r)) (x : RP w0 w w1 B M q n c r' q' cap') : Hid (Pt w0 w1 b m g B M q' cap' n c s r') := by
  have P := h.out.p
  have R := h.out.r
  have a := x.alt
  have hlt := (P.out.met.out.own.lt g rfl).2
  refine Lib.hid ⟨pl_alt P a (fun i hi => by have := R.out.hb; have := R.out.hm; rcases hi with e | e <;> omega) (Plv.rx_ne R P.out.box (by decide) (by decide)) (Plv.rx_ne R P.out.met.out.box (by decide) (by decide)) (fun e => ?_), x.pl, ?_⟩
  · rcases e with e | e
    · exact own_ne P.out.met.out.own R.out.box (by decide) e
    · exact own_ne P.out.met.out.own R.out.met.out.box (by decide) e
  · have := h.out.gq; have := x.hq; omega
/-- both, and a block of an act -/
structure Pa (w0 w : World) (b m g B M q cap n a : Nat) (c : PowC) (s r : PS) (x0 x1 x2 x3 : Int) : Prop where
  t : Hid (Pt w0 w b m g B M q cap n c s r)
  a : Box w a #[.int .i64 x0, .int .i64 x1, .int .i64 x2, .int .i64 x3] 36
theorem pa_next {w0 w w1 : World} {b m g B M q cap n a : Nat} {c : PowC} {s r : PS} {x0 x1 x2 x3 : Int} (h : Hid (Pa w0 w b m g B M q cap n a c s r x0 x1 x2 x3)) (k : Below w.heap.size w w1) : Hid (Pa w0 w1 b m g B M q cap n a c s r x0 x1 x2 x3) :=
  Lib.hid ⟨pt_next h.out.t k, h.out.a.next k⟩
theorem pa_p {w0 w w1 : World} {b m g B M q cap n a : Nat} {c : PowC} {s s' r : PS} {x0 x1 x2 x3 : Int} (h : Hid (Pa w0 w b m g B M q cap n a c s r x0 x1 x2 x3)) (k : Alt (PX b m g) w w1) (p : Hid (Pl w0 w1 b m g n c s')) : Hid (Pa w0 w1 b m g B M q cap n a c s' r x0 x1 x2 x3) :=
  Lib.hid ⟨pt_p h.out.t k p, box_alt h.out.a k (Ple.px_ne h.out.t.out.p h.out.a (by decide) (by decide) (by decide))⟩
theorem pa_r {w0 w w1 : World} {b m g B M q cap q' cap' n a : Nat} {c : PowC} {s r r' : PS} {x0 x1 x2 x3 : Int} (h : Hid (Pa w0 w b m g B M q cap n a c s r x0 x1 x2 x3)) (x : RP w0 w w1 B M q n c r' q' cap') : Hid (Pa w0 w1 b m g B M q' cap' n a c s r' x0 x1 x2 x3) :=
  Lib.hid ⟨pt_r h.out.t x, box_alt h.out.a x.alt (Plv.rx_ne h.out.t.out.r h.out.a (by decide) (by decide))⟩

def DnPost (w0 w : World) (b m g B M q n : Nat) (c : PowC) (s : PS) (e : Ending) (w' : World) : Prop := ∃ (v : Bool) (s' r' : PS) (q' cap' : Nat), e = .returned (.bool v) ∧ s.now ≤ s'.now ∧ Hid (Pt w0 w' b m g B M q' cap' n c s' r')
set_option maxRecDepth 100000 in
set_option maxHeartbeats 4000000 in
theorem done_any {w0 w : World} {b m g B M q cap n : Nat} {c : PowC} {s r : PS} (h : Hid (Pt w0 w b m g B M q cap n c s r)) (x0 x1 x2 x3 : Int) (i0 : I64 x0) (i1 : I64 x1) (i2 : I64 x2) (i3 : I64 x3) :
    Calls Try.prog 18 #[.pointer (some ⟨b, 0, none⟩), .pointer (some ⟨B, 0, none⟩), .agg #[.int .i64 x0, .int .i64 x1, .int .i64 x2, .int .i64 x3]] w (DnPost w0 w b m g B M q n c s) := by
  have S : Hid (Pa w0 (w.alloc (.cells #[.int .i64 x0, .int .i64 x1, .int .i64 x2, .int .i64 x3] 36)) b m g B M q cap n w.heap.size c s r x0 x1 x2 x3) := Lib.hid ⟨pt_next h ((Below.refl _ _).alloc (Nat.le_refl _) _), Box.new _ _ _⟩
  have bc := S.out.a.cell
  have OK := h.out.p.out.ok
  cases h0 : x0 == 0
  case true =>
    have G := Lib.hid (run_ok (c := c) OK x1 x2).2
    generalize hz : runP n c s x1 x2 = z at G
    have HZ := Lib.hid hz
    clear hz
    go_enter Try.func18, Try.ntmps18
    go_wp2_with fail
    generalize w.alloc (.cells #[.int .i64 x0, .int .i64 x1, .int .i64 x2, .int .i64 x3] 36) = w1 at *
    generalize w.heap.size = ab at *
    have S := pa_next S (Below.refl _ _).drew
    refine wp_region_till (fun w' => (∀ i, w'.cell? ⟨ab, i, none⟩ = (#[.int .i64 x0, .int .i64 x1, .int .i64 x2, .int .i64 x3] : Array Value)[i]?) ∧ True) (fun w' => True) 5 14 #[false, false, false, false, false, false, false, false, false, false, false, false, false, false] (by kernel_rfl) rfl rfl ⟨⟨S.out.a.cell, trivial⟩, trivial⟩ (fun hHeld => ?_)
    refine HeldT.wpTill_takeT false (i := 0) (v := ?_) rfl (by kernel_rfl) (by kernel_rfl) (by kernel_rfl) (fun _ _ _ h => h) (by kernel_rfl) (Or.inl ⟨by first | rfl | kernel_rfl, ?_⟩) hHeld (fun hHeld => ?_)
    rotate_left
    · (intro w' hSw; obtain ⟨⟨r1, r2⟩, r3⟩ := hSw; (try have r4 := r3 rfl); (try dsimp only at r1 r2 r4); clear r3; go_simp; try with_reducible rfl)
    try simp only [Act.put, List.setIfInBounds_toArray, List.set_cons_zero, List.set_cons_succ, List.getElem_toArray, List.getElem_cons_succ, List.getElem_cons_zero]
    refine HeldT.wpTill_takeT false (i := 1) (v := ?_) rfl (by kernel_rfl) (by kernel_rfl) (by kernel_rfl) (fun _ _ _ h => h) (by kernel_rfl) (Or.inl ⟨by first | rfl | kernel_rfl, ?_⟩) hHeld (fun hHeld => ?_)
    rotate_left
    · (intro w' hSw; obtain ⟨⟨r1, r2⟩, r3⟩ := hSw; (try have r4 := r3 rfl); (try dsimp only at r1 r2 r4); clear r3; go_simp; try with_reducible rfl)
    try simp only [Act.put, List.setIfInBounds_toArray, List.set_cons_zero, List.set_cons_succ, List.getElem_toArray, List.getElem_cons_succ, List.getElem_cons_zero]
    refine HeldT.wpTill_takeT false (i := 2) (v := ?_) rfl (by kernel_rfl) (by kernel_rfl) (by kernel_rfl) (fun _ _ _ h => h) (by kernel_rfl) (Or.inl ⟨by first | rfl | kernel_rfl, ?_⟩) hHeld (fun hHeld => ?_)
    rotate_left
    · (intro w' hSw; obtain ⟨⟨r1, r2⟩, r3⟩ := hSw; (try have r4 := r3 rfl); (try dsimp only at r1 r2 r4); clear r3; go_simp; try with_reducible rfl)
    try simp only [Act.put, List.setIfInBounds_toArray, List.set_cons_zero, List.set_cons_succ, List.getElem_toArray, List.getElem_cons_succ, List.getElem_cons_zero]
    refine HeldT.wpTill_takeT false (i := 3) (v := ?_) rfl (by kernel_rfl) (by kernel_rfl) (by kernel_rfl) (fun _ _ _ h => h) (by kernel_rfl) (Or.inl ⟨by first | rfl | kernel_rfl, ?_⟩) hHeld (fun hHeld => ?_)
    rotate_left
    · (intro w' hSw; obtain ⟨⟨r1, r2⟩, r3⟩ := hSw; (try have r4 := r3 rfl); (try dsimp only at r1 r2 r4); clear r3; go_simp; try with_reducible rfl)
    try simp only [Act.put, List.setIfInBounds_toArray, List.set_cons_zero, List.set_cons_succ, List.getElem_toArray, List.getElem_cons_succ, List.getElem_cons_zero]
    refine HeldT.wpTill_takeT false (i := 4) (v := ?_) rfl (by kernel_rfl) (by kernel_rfl) (by kernel_rfl) (fun _ _ _ h => h) (by kernel_rfl) (Or.inl ⟨by first | rfl | kernel_rfl, ?_⟩) hHeld (fun hHeld => ?_)
    rotate_left
    · (intro w' hSw; obtain ⟨⟨r1, r2⟩, r3⟩ := hSw; (try have r4 := r3 rfl); (try dsimp only at r1 r2 r4); clear r3; go_simp; try with_reducible rfl)
    try simp only [Act.put, List.setIfInBounds_toArray, List.set_cons_zero, List.set_cons_succ, List.getElem_toArray, List.getElem_cons_succ, List.getElem_cons_zero]
    refine HeldT.wpTill_takeT false (i := 6) (v := ?_) rfl (by kernel_rfl) (by kernel_rfl) (by kernel_rfl) (fun _ _ _ h => h) (by kernel_rfl) (Or.inl ⟨by first | rfl | kernel_rfl, ?_⟩) hHeld (fun hHeld => ?_)
    rotate_left
    · (intro w' hSw; obtain ⟨⟨r1, r2⟩, r3⟩ := hSw; (try have r4 := r3 rfl); (try dsimp only at r1 r2 r4); clear r3; go_simp; try with_reducible rfl)
    try simp only [Act.put, List.setIfInBounds_toArray, List.set_cons_zero, List.set_cons_succ, List.getElem_toArray, List.getElem_cons_succ, List.getElem_cons_zero]
    refine HeldT.wpTill_takeT false (i := 7) (v := ?_) rfl (by kernel_rfl) (by kernel_rfl) (by kernel_rfl) (fun _ _ _ h => h) (by kernel_rfl) (Or.inl ⟨by first | rfl | kernel_rfl, ?_⟩) hHeld (fun hHeld => ?_)
    rotate_left
    · (intro w' hSw; obtain ⟨⟨r1, r2⟩, r3⟩ := hSw; (try have r4 := r3 rfl); (try dsimp only at r1 r2 r4); clear r3; go_simp; try with_reducible rfl)
    try simp only [Act.put, List.setIfInBounds_toArray, List.set_cons_zero, List.set_cons_succ, List.getElem_toArray, List.getElem_cons_succ, List.getElem_cons_zero]
    refine HeldT.wpTill_takeT false (i := 8) (v := ?_) rfl (by kernel_rfl) (by kernel_rfl) (by kernel_rfl) (fun _ _ _ h => h) (by kernel_rfl) (Or.inl ⟨by first | rfl | kernel_rfl, ?_⟩) hHeld (fun hHeld => ?_)
    rotate_left
    · (intro w' hSw; obtain ⟨⟨r1, r2⟩, r3⟩ := hSw; (try have r4 := r3 rfl); (try dsimp only at r1 r2 r4); clear r3; go_simp; try with_reducible rfl)
    try simp only [Act.put, List.setIfInBounds_toArray, List.set_cons_zero, List.set_cons_succ, List.getElem_toArray, List.getElem_cons_succ, List.getElem_cons_zero]
    refine HeldT.wpTill_takeT false (i := 9) (v := ?_) rfl (by kernel_rfl) (by kernel_rfl) (by kernel_rfl) (fun _ _ _ h => h) (by kernel_rfl) (Or.inl ⟨by first | rfl | kernel_rfl, ?_⟩) hHeld (fun hHeld => ?_)
    rotate_left
    · (intro w' hSw; obtain ⟨⟨r1, r2⟩, r3⟩ := hSw; (try have r4 := r3 rfl); (try dsimp only at r1 r2 r4); clear r3; go_simp; try with_reducible rfl)
    try simp only [Act.put, List.setIfInBounds_toArray, List.set_cons_zero, List.set_cons_succ, List.getElem_toArray, List.getElem_cons_succ, List.getElem_cons_zero]
    refine HeldT.wpTill_takeT false (i := 10) (v := ?_) rfl (by kernel_rfl) (by kernel_rfl) (by kernel_rfl) (fun _ _ _ h => h) (by kernel_rfl) (Or.inl ⟨by first | rfl | kernel_rfl, ?_⟩) hHeld (fun hHeld => ?_)
    rotate_left
    · (intro w' hSw; obtain ⟨⟨r1, r2⟩, r3⟩ := hSw; (try have r4 := r3 rfl); (try dsimp only at r1 r2 r4); clear r3; go_simp; try with_reducible rfl)
    try simp only [Act.put, List.setIfInBounds_toArray, List.set_cons_zero, List.set_cons_succ, List.getElem_toArray, List.getElem_cons_succ, List.getElem_cons_zero]
    refine wpTill_one (i := 5) (by kernel_rfl) rfl (fun K hK => ?_)
    rw [if_pos (by kernel_rfl)]
    go_simp
    refine (Plg.run_any S.out.t.out.p x1 x2 i1 i2 z.1 z.2 HZ).mono ?_
    rintro e1 w2 ⟨rfl, a2, P2⟩
    have S := pa_p S a2 P2
    clear a2 P2
    refine hK _ _ ⟨⟨S.out.a.cell, trivial⟩, fun _ => trivial⟩ (fun hHeld => ?_)
    clear hK K
    refine wpTill_one (i := 11) (by kernel_rfl) rfl (fun K hK => ?_)
    rw [if_pos (by kernel_rfl)]
    go_simp
    refine (Plt.rrun_any S.out.t.out.r x1 x2 i1 i2).mono ?_
    rintro e1 w3 ⟨z, r', q', cap', rfl, R3⟩
    have S := pa_r S R3
    clear R3
    refine hK _ _ ⟨⟨S.out.a.cell, trivial⟩, fun _ => trivial⟩ (fun hHeld => ?_)
    clear hK K
    refine HeldT.wpTill_takeT false (i := 12) (v := ?_) rfl (by kernel_rfl) (by kernel_rfl) (by kernel_rfl) (fun _ _ _ h => h) (by kernel_rfl) (Or.inl ⟨by first | rfl | kernel_rfl, ?_⟩) hHeld (fun hHeld => ?_)
    rotate_left
    · (intro w' hSw; obtain ⟨⟨r1, r2⟩, r3⟩ := hSw; (try have r4 := r3 rfl); (try dsimp only at r1 r2 r4); clear r3; go_simp; try with_reducible rfl)
    try simp only [Act.put, List.setIfInBounds_toArray, List.set_cons_zero, List.set_cons_succ, List.getElem_toArray, List.getElem_cons_succ, List.getElem_cons_zero]
    refine HeldT.wpTill_takeT false (i := 13) (v := ?_) rfl (by kernel_rfl) (by kernel_rfl) (by kernel_rfl) (fun _ _ _ h => h) (by kernel_rfl) (Or.inl ⟨by first | rfl | kernel_rfl, ?_⟩) hHeld (fun hHeld => ?_)
    rotate_left
    · (intro w' hSw; obtain ⟨⟨r1, r2⟩, r3⟩ := hSw; (try have r4 := r3 rfl); (try dsimp only at r1 r2 r4); clear r3; go_simp; try with_reducible rfl)
    try simp only [Act.put, List.setIfInBounds_toArray, List.set_cons_zero, List.set_cons_succ, List.getElem_toArray, List.getElem_cons_succ, List.getElem_cons_zero]
    refine wpTill_done (by kernel_rfl) ?_ 0
    clear hHeld bc
    go_wp2_with fail
    go_ret
    exact ⟨_, _, _, _, _, rfl, G.out, S.out.t⟩
  cases h1 : x0 == 1
  case true =>
    have G := Lib.hid (turn_ok (c := c) OK x1).2
    generalize hz : turnP n c s x1 = z at G
    have HZ := Lib.hid hz
    clear hz
    go_enter Try.func18, Try.ntmps18
    go_wp2_with fail
    generalize w.alloc (.cells #[.int .i64 x0, .int .i64 x1, .int .i64 x2, .int .i64 x3] 36) = w1 at *
    generalize w.heap.size = ab at *
    have S := pa_next S (Below.refl _ _).drew
    refine wp_region_till (fun w' => (∀ i, w'.cell? ⟨ab, i, none⟩ = (#[.int .i64 x0, .int .i64 x1, .int .i64 x2, .int .i64 x3] : Array Value)[i]?) ∧ True) (fun w' => True) 3 10 #[false, false, false, false, false, false, false, false, false, false] (by kernel_rfl) rfl rfl ⟨⟨S.out.a.cell, trivial⟩, trivial⟩ (fun hHeld => ?_)
    refine HeldT.wpTill_takeT false (i := 0) (v := ?_) rfl (by kernel_rfl) (by kernel_rfl) (by kernel_rfl) (fun _ _ _ h => h) (by kernel_rfl) (Or.inl ⟨by first | rfl | kernel_rfl, ?_⟩) hHeld (fun hHeld => ?_)
    rotate_left
    · (intro w' hSw; obtain ⟨⟨r1, r2⟩, r3⟩ := hSw; (try have r4 := r3 rfl); (try dsimp only at r1 r2 r4); clear r3; go_simp; try with_reducible rfl)
    try simp only [Act.put, List.setIfInBounds_toArray, List.set_cons_zero, List.set_cons_succ, List.getElem_toArray, List.getElem_cons_succ, List.getElem_cons_zero]
    refine HeldT.wpTill_takeT false (i := 1) (v := ?_) rfl (by kernel_rfl) (by kernel_rfl) (by kernel_rfl) (fun _ _ _ h => h) (by kernel_rfl) (Or.inl ⟨by first | rfl | kernel_rfl, ?_⟩) hHeld (fun hHeld => ?_)
    rotate_left
    · (intro w' hSw; obtain ⟨⟨r1, r2⟩, r3⟩ := hSw; (try have r4 := r3 rfl); (try dsimp only at r1 r2 r4); clear r3; go_simp; try with_reducible rfl)
    try simp only [Act.put, List.setIfInBounds_toArray, List.set_cons_zero, List.set_cons_succ, List.getElem_toArray, List.getElem_cons_succ, List.getElem_cons_zero]
    refine HeldT.wpTill_takeT false (i := 2) (v := ?_) rfl (by kernel_rfl) (by kernel_rfl) (by kernel_rfl) (fun _ _ _ h => h) (by kernel_rfl) (Or.inl ⟨by first | rfl | kernel_rfl, ?_⟩) hHeld (fun hHeld => ?_)
    rotate_left
    · (intro w' hSw; obtain ⟨⟨r1, r2⟩, r3⟩ := hSw; (try have r4 := r3 rfl); (try dsimp only at r1 r2 r4); clear r3; go_simp; try with_reducible rfl)
    try simp only [Act.put, List.setIfInBounds_toArray, List.set_cons_zero, List.set_cons_succ, List.getElem_toArray, List.getElem_cons_succ, List.getElem_cons_zero]
    refine HeldT.wpTill_takeT false (i := 4) (v := ?_) rfl (by kernel_rfl) (by kernel_rfl) (by kernel_rfl) (fun _ _ _ h => h) (by kernel_rfl) (Or.inl ⟨by first | rfl | kernel_rfl, ?_⟩) hHeld (fun hHeld => ?_)
    rotate_left
    · (intro w' hSw; obtain ⟨⟨r1, r2⟩, r3⟩ := hSw; (try have r4 := r3 rfl); (try dsimp only at r1 r2 r4); clear r3; go_simp; try with_reducible rfl)
    try simp only [Act.put, List.setIfInBounds_toArray, List.set_cons_zero, List.set_cons_succ, List.getElem_toArray, List.getElem_cons_succ, List.getElem_cons_zero]
    refine HeldT.wpTill_takeT false (i := 5) (v := ?_) rfl (by kernel_rfl) (by kernel_rfl) (by kernel_rfl) (fun _ _ _ h => h) (by kernel_rfl) (Or.inl ⟨by first | rfl | kernel_rfl, ?_⟩) hHeld (fun hHeld => ?_)
    rotate_left
    · (intro w' hSw; obtain ⟨⟨r1, r2⟩, r3⟩ := hSw; (try have r4 := r3 rfl); (try dsimp only at r1 r2 r4); clear r3; go_simp; try with_reducible rfl)
    try simp only [Act.put, List.setIfInBounds_toArray, List.set_cons_zero, List.set_cons_succ, List.getElem_toArray, List.getElem_cons_succ, List.getElem_cons_zero]
    refine HeldT.wpTill_takeT false (i := 6) (v := ?_) rfl (by kernel_rfl) (by kernel_rfl) (by kernel_rfl) (fun _ _ _ h => h) (by kernel_rfl) (Or.inl ⟨by first | rfl | kernel_rfl, ?_⟩) hHeld (fun hHeld => ?_)
    rotate_left
    · (intro w' hSw; obtain ⟨⟨r1, r2⟩, r3⟩ := hSw; (try have r4 := r3 rfl); (try dsimp only at r1 r2 r4); clear r3; go_simp; try with_reducible rfl)
    try simp only [Act.put, List.setIfInBounds_toArray, List.set_cons_zero, List.set_cons_succ, List.getElem_toArray, List.getElem_cons_succ, List.getElem_cons_zero]
    refine wpTill_one (i := 3) (by kernel_rfl) rfl (fun K hK => ?_)
    rw [if_pos (by kernel_rfl)]
    go_simp
    refine (Ple.turn_any S.out.t.out.p x1 i1 z.1 z.2 HZ).mono ?_
    rintro e1 w2 ⟨rfl, a2, P2⟩
    have S := pa_p S a2 P2
    clear a2 P2
    refine hK _ _ ⟨⟨S.out.a.cell, trivial⟩, fun _ => trivial⟩ (fun hHeld => ?_)
    clear hK K
    refine wpTill_one (i := 7) (by kernel_rfl) rfl (fun K hK => ?_)
    rw [if_pos (by kernel_rfl)]
    go_simp
    refine (Plu.rturn_any S.out.t.out.r x1 i1).mono ?_
    rintro e1 w3 ⟨z, r', q', cap', rfl, R3⟩
    have S := pa_r S R3
    clear R3
    refine hK _ _ ⟨⟨S.out.a.cell, trivial⟩, fun _ => trivial⟩ (fun hHeld => ?_)
    clear hK K
    refine HeldT.wpTill_takeT false (i := 8) (v := ?_) rfl (by kernel_rfl) (by kernel_rfl) (by kernel_rfl) (fun _ _ _ h => h) (by kernel_rfl) (Or.inl ⟨by first | rfl | kernel_rfl, ?_⟩) hHeld (fun hHeld => ?_)
    rotate_left
    · (intro w' hSw; obtain ⟨⟨r1, r2⟩, r3⟩ := hSw; (try have r4 := r3 rfl); (try dsimp only at r1 r2 r4); clear r3; go_simp; try with_reducible rfl)
    try simp only [Act.put, List.setIfInBounds_toArray, List.set_cons_zero, List.set_cons_succ, List.getElem_toArray, List.getElem_cons_succ, List.getElem_cons_zero]
    refine HeldT.wpTill_takeT false (i := 9) (v := ?_) rfl (by kernel_rfl) (by kernel_rfl) (by kernel_rfl) (fun _ _ _ h => h) (by kernel_rfl) (Or.inl ⟨by first | rfl | kernel_rfl, ?_⟩) hHeld (fun hHeld => ?_)
    rotate_left
    · (intro w' hSw; obtain ⟨⟨r1, r2⟩, r3⟩ := hSw; (try have r4 := r3 rfl); (try dsimp only at r1 r2 r4); clear r3; go_simp; try with_reducible rfl)
    try simp only [Act.put, List.setIfInBounds_toArray, List.set_cons_zero, List.set_cons_succ, List.getElem_toArray, List.getElem_cons_succ, List.getElem_cons_zero]
    refine wpTill_done (by kernel_rfl) ?_ 0
    clear hHeld bc
    go_wp2_with fail
    go_ret
    exact ⟨_, _, _, _, _, rfl, G.out, S.out.t⟩
  cases h2 : x0 == 2
  case true =>
    have G := Lib.hid (idle_ok (c := c) OK x1).2
    generalize hz : idleP n c s x1 = z at G
    have HZ := Lib.hid hz
    clear hz
    go_enter Try.func18, Try.ntmps18
    go_wp2_with fail
    generalize w.alloc (.cells #[.int .i64 x0, .int .i64 x1, .int .i64 x2, .int .i64 x3] 36) = w1 at *
    generalize w.heap.size = ab at *
    have S := pa_next S (Below.refl _ _).drew
    refine wp_region_till (fun w' => (∀ i, w'.cell? ⟨ab, i, none⟩ = (#[.int .i64 x0, .int .i64 x1, .int .i64 x2, .int .i64 x3] : Array Value)[i]?) ∧ True) (fun w' => True) 3 10 #[false, false, false, false, false, false, false, false, false, false] (by kernel_rfl) rfl rfl ⟨⟨S.out.a.cell, trivial⟩, trivial⟩ (fun hHeld => ?_)
    refine HeldT.wpTill_takeT false (i := 0) (v := ?_) rfl (by kernel_rfl) (by kernel_rfl) (by kernel_rfl) (fun _ _ _ h => h) (by kernel_rfl) (Or.inl ⟨by first | rfl | kernel_rfl, ?_⟩) hHeld (fun hHeld => ?_)
    rotate_left
    · (intro w' hSw; obtain ⟨⟨r1, r2⟩, r3⟩ := hSw; (try have r4 := r3 rfl); (try dsimp only at r1 r2 r4); clear r3; go_simp; try with_reducible rfl)
    try simp only [Act.put, List.setIfInBounds_toArray, List.set_cons_zero, List.set_cons_succ, List.getElem_toArray, List.getElem_cons_succ, List.getElem_cons_zero]
    refine HeldT.wpTill_takeT false (i := 1) (v := ?_) rfl (by kernel_rfl) (by kernel_rfl) (by kernel_rfl) (fun _ _ _ h => h) (by kernel_rfl) (Or.inl ⟨by first | rfl | kernel_rfl, ?_⟩) hHeld (fun hHeld => ?_)
    rotate_left
    · (intro w' hSw; obtain ⟨⟨r1, r2⟩, r3⟩ := hSw; (try have r4 := r3 rfl); (try dsimp only at r1 r2 r4); clear r3; go_simp; try with_reducible rfl)
    try simp only [Act.put, List.setIfInBounds_toArray, List.set_cons_zero, List.set_cons_succ, List.getElem_toArray, List.getElem_cons_succ, List.getElem_cons_zero]
    refine HeldT.wpTill_takeT false (i := 2) (v := ?_) rfl (by kernel_rfl) (by kernel_rfl) (by kernel_rfl) (fun _ _ _ h => h) (by kernel_rfl) (Or.inl ⟨by first | rfl | kernel_rfl, ?_⟩) hHeld (fun hHeld => ?_)
    rotate_left
    · (intro w' hSw; obtain ⟨⟨r1, r2⟩, r3⟩ := hSw; (try have r4 := r3 rfl); (try dsimp only at r1 r2 r4); clear r3; go_simp; try with_reducible rfl)
    try simp only [Act.put, List.setIfInBounds_toArray, List.set_cons_zero, List.set_cons_succ, List.getElem_toArray, List.getElem_cons_succ, List.getElem_cons_zero]
    refine HeldT.wpTill_takeT false (i := 4) (v := ?_) rfl (by kernel_rfl) (by kernel_rfl) (by kernel_rfl) (fun _ _ _ h => h) (by kernel_rfl) (Or.inl ⟨by first | rfl | kernel_rfl, ?_⟩) hHeld (fun hHeld => ?_)
    rotate_left
    · (intro w' hSw; obtain ⟨⟨r1, r2⟩, r3⟩ := hSw; (try have r4 := r3 rfl); (try dsimp only at r1 r2 r4); clear r3; go_simp; try with_reducible rfl)
    try simp only [Act.put, List.setIfInBounds_toArray, List.set_cons_zero, List.set_cons_succ, List.getElem_toArray, List.getElem_cons_succ, List.getElem_cons_zero]
    refine HeldT.wpTill_takeT false (i := 5) (v := ?_) rfl (by kernel_rfl) (by kernel_rfl) (by kernel_rfl) (fun _ _ _ h => h) (by kernel_rfl) (Or.inl ⟨by first | rfl | kernel_rfl, ?_⟩) hHeld (fun hHeld => ?_)
    rotate_left
    · (intro w' hSw; obtain ⟨⟨r1, r2⟩, r3⟩ := hSw; (try have r4 := r3 rfl); (try dsimp only at r1 r2 r4); clear r3; go_simp; try with_reducible rfl)
    try simp only [Act.put, List.setIfInBounds_toArray, List.set_cons_zero, List.set_cons_succ, List.getElem_toArray, List.getElem_cons_succ, List.getElem_cons_zero]
    refine HeldT.wpTill_takeT false (i := 6) (v := ?_) rfl (by kernel_rfl) (by kernel_rfl) (by kernel_rfl) (fun _ _ _ h => h) (by kernel_rfl) (Or.inl ⟨by first | rfl | kernel_rfl, ?_⟩) hHeld (fun hHeld => ?_)
    rotate_left
    · (intro w' hSw; obtain ⟨⟨r1, r2⟩, r3⟩ := hSw; (try have r4 := r3 rfl); (try dsimp only at r1 r2 r4); clear r3; go_simp; try with_reducible rfl)
    try simp only [Act.put, List.setIfInBounds_toArray, List.set_cons_zero, List.set_cons_succ, List.getElem_toArray, List.getElem_cons_succ, List.getElem_cons_zero]
    refine wpTill_one (i := 3) (by kernel_rfl) rfl (fun K hK => ?_)
    rw [if_pos (by kernel_rfl)]
    go_simp
    refine (Plf.idle_any S.out.t.out.p x1 i1 z.1 z.2 HZ).mono ?_
    rintro e1 w2 ⟨rfl, a2, P2⟩
    have S := pa_p S a2 P2
    clear a2 P2
    refine hK _ _ ⟨⟨S.out.a.cell, trivial⟩, fun _ => trivial⟩ (fun hHeld => ?_)
    clear hK K
    refine wpTill_one (i := 7) (by kernel_rfl) rfl (fun K hK => ?_)
    rw [if_pos (by kernel_rfl)]
    go_simp
    refine (Plu.ridle_any S.out.t.out.r x1 i1).mono ?_
    rintro e1 w3 ⟨z, r', q', cap', rfl, R3⟩
    have S := pa_r S R3
    clear R3
    refine hK _ _ ⟨⟨S.out.a.cell, trivial⟩, fun _ => trivial⟩ (fun hHeld => ?_)
    clear hK K
    refine HeldT.wpTill_takeT false (i := 8) (v := ?_) rfl (by kernel_rfl) (by kernel_rfl) (by kernel_rfl) (fun _ _ _ h => h) (by kernel_rfl) (Or.inl ⟨by first | rfl | kernel_rfl, ?_⟩) hHeld (fun hHeld => ?_)
    rotate_left
    · (intro w' hSw; obtain ⟨⟨r1, r2⟩, r3⟩ := hSw; (try have r4 := r3 rfl); (try dsimp only at r1 r2 r4); clear r3; go_simp; try with_reducible rfl)
    try simp only [Act.put, List.setIfInBounds_toArray, List.set_cons_zero, List.set_cons_succ, List.getElem_toArray, List.getElem_cons_succ, List.getElem_cons_zero]
    refine HeldT.wpTill_takeT false (i := 9) (v := ?_) rfl (by kernel_rfl) (by kernel_rfl) (by kernel_rfl) (fun _ _ _ h => h) (by kernel_rfl) (Or.inl ⟨by first | rfl | kernel_rfl, ?_⟩) hHeld (fun hHeld => ?_)
    rotate_left
    · (intro w' hSw; obtain ⟨⟨r1, r2⟩, r3⟩ := hSw; (try have r4 := r3 rfl); (try dsimp only at r1 r2 r4); clear r3; go_simp; try with_reducible rfl)
    try simp only [Act.put, List.setIfInBounds_toArray, List.set_cons_zero, List.set_cons_succ, List.getElem_toArray, List.getElem_cons_succ, List.getElem_cons_zero]
    refine wpTill_done (by kernel_rfl) ?_ 0
    clear hHeld bc
    go_wp2_with fail
    go_ret
    exact ⟨_, _, _, _, _, rfl, G.out, S.out.t⟩
  cases h3 : x0 == 3
  case true =>
    have G := Lib.hid (nap_ok (c := c) OK x1 x2 x3).2
    generalize hz : napP n c s x1 x2 x3 = z at G
    have HZ := Lib.hid hz
    clear hz
    go_enter Try.func18, Try.ntmps18
    go_wp2_with fail
    generalize w.alloc (.cells #[.int .i64 x0, .int .i64 x1, .int .i64 x2, .int .i64 x3] 36) = w1 at *
    generalize w.heap.size = ab at *
    have S := pa_next S (Below.refl _ _).drew
    refine wp_region_till (fun w' => (∀ i, w'.cell? ⟨ab, i, none⟩ = (#[.int .i64 x0, .int .i64 x1, .int .i64 x2, .int .i64 x3] : Array Value)[i]?) ∧ True) (fun w' => True) 7 18 #[false, false, false, false, false, false, false, false, false, false, false, false, false, false, false, false, false, false] (by kernel_rfl) rfl rfl ⟨⟨S.out.a.cell, trivial⟩, trivial⟩ (fun hHeld => ?_)
    refine HeldT.wpTill_takeT false (i := 0) (v := ?_) rfl (by kernel_rfl) (by kernel_rfl) (by kernel_rfl) (fun _ _ _ h => h) (by kernel_rfl) (Or.inl ⟨by first | rfl | kernel_rfl, ?_⟩) hHeld (fun hHeld => ?_)
    rotate_left
    · (intro w' hSw; obtain ⟨⟨r1, r2⟩, r3⟩ := hSw; (try have r4 := r3 rfl); (try dsimp only at r1 r2 r4); clear r3; go_simp; try with_reducible rfl)
    try simp only [Act.put, List.setIfInBounds_toArray, List.set_cons_zero, List.set_cons_succ, List.getElem_toArray, List.getElem_cons_succ, List.getElem_cons_zero]
    refine HeldT.wpTill_takeT false (i := 1) (v := ?_) rfl (by kernel_rfl) (by kernel_rfl) (by kernel_rfl) (fun _ _ _ h => h) (by kernel_rfl) (Or.inl ⟨by first | rfl | kernel_rfl, ?_⟩) hHeld (fun hHeld => ?_)
    rotate_left
    · (intro w' hSw; obtain ⟨⟨r1, r2⟩, r3⟩ := hSw; (try have r4 := r3 rfl); (try dsimp only at r1 r2 r4); clear r3; go_simp; try with_reducible rfl)
    try simp only [Act.put, List.setIfInBounds_toArray, List.set_cons_zero, List.set_cons_succ, List.getElem_toArray, List.getElem_cons_succ, List.getElem_cons_zero]
    refine HeldT.wpTill_takeT false (i := 2) (v := ?_) rfl (by kernel_rfl) (by kernel_rfl) (by kernel_rfl) (fun _ _ _ h => h) (by kernel_rfl) (Or.inl ⟨by first | rfl | kernel_rfl, ?_⟩) hHeld (fun hHeld => ?_)
    rotate_left
    · (intro w' hSw; obtain ⟨⟨r1, r2⟩, r3⟩ := hSw; (try have r4 := r3 rfl); (try dsimp only at r1 r2 r4); clear r3; go_simp; try with_reducible rfl)
    try simp only [Act.put, List.setIfInBounds_toArray, List.set_cons_zero, List.set_cons_succ, List.getElem_toArray, List.getElem_cons_succ, List.getElem_cons_zero]
    refine HeldT.wpTill_takeT false (i := 3) (v := ?_) rfl (by kernel_rfl) (by kernel_rfl) (by kernel_rfl) (fun _ _ _ h => h) (by kernel_rfl) (Or.inl ⟨by first | rfl | kernel_rfl, ?_⟩) hHeld (fun hHeld => ?_)
    rotate_left
    · (intro w' hSw; obtain ⟨⟨r1, r2⟩, r3⟩ := hSw; (try have r4 := r3 rfl); (try dsimp only at r1 r2 r4); clear r3; go_simp; try with_reducible rfl)
    try simp only [Act.put, List.setIfInBounds_toArray, List.set_cons_zero, List.set_cons_succ, List.getElem_toArray, List.getElem_cons_succ, List.getElem_cons_zero]
    refine HeldT.wpTill_takeT false (i := 4) (v := ?_) rfl (by kernel_rfl) (by kernel_rfl) (by kernel_rfl) (fun _ _ _ h => h) (by kernel_rfl) (Or.inl ⟨by first | rfl | kernel_rfl, ?_⟩) hHeld (fun hHeld => ?_)
    rotate_left
    · (intro w' hSw; obtain ⟨⟨r1, r2⟩, r3⟩ := hSw; (try have r4 := r3 rfl); (try dsimp only at r1 r2 r4); clear r3; go_simp; try with_reducible rfl)
    try simp only [Act.put, List.setIfInBounds_toArray, List.set_cons_zero, List.set_cons_succ, List.getElem_toArray, List.getElem_cons_succ, List.getElem_cons_zero]
    refine HeldT.wpTill_takeT false (i := 5) (v := ?_) rfl (by kernel_rfl) (by kernel_rfl) (by kernel_rfl) (fun _ _ _ h => h) (by kernel_rfl) (Or.inl ⟨by first | rfl | kernel_rfl, ?_⟩) hHeld (fun hHeld => ?_)
    rotate_left
    · (intro w' hSw; obtain ⟨⟨r1, r2⟩, r3⟩ := hSw; (try have r4 := r3 rfl); (try dsimp only at r1 r2 r4); clear r3; go_simp; try with_reducible rfl)
    try simp only [Act.put, List.setIfInBounds_toArray, List.set_cons_zero, List.set_cons_succ, List.getElem_toArray, List.getElem_cons_succ, List.getElem_cons_zero]
    refine HeldT.wpTill_takeT false (i := 6) (v := ?_) rfl (by kernel_rfl) (by kernel_rfl) (by kernel_rfl) (fun _ _ _ h => h) (by kernel_rfl) (Or.inl ⟨by first | rfl | kernel_rfl, ?_⟩) hHeld (fun hHeld => ?_)
    rotate_left
    · (intro w' hSw; obtain ⟨⟨r1, r2⟩, r3⟩ := hSw; (try have r4 := r3 rfl); (try dsimp only at r1 r2 r4); clear r3; go_simp; try with_reducible rfl)
    try simp only [Act.put, List.setIfInBounds_toArray, List.set_cons_zero, List.set_cons_succ, List.getElem_toArray, List.getElem_cons_succ, List.getElem_cons_zero]
    refine HeldT.wpTill_takeT false (i := 8) (v := ?_) rfl (by kernel_rfl) (by kernel_rfl) (by kernel_rfl) (fun _ _ _ h => h) (by kernel_rfl) (Or.inl ⟨by first | rfl | kernel_rfl, ?_⟩) hHeld (fun hHeld => ?_)
    rotate_left
    · (intro w' hSw; obtain ⟨⟨r1, r2⟩, r3⟩ := hSw; (try have r4 := r3 rfl); (try dsimp only at r1 r2 r4); clear r3; go_simp; try with_reducible rfl)
    try simp only [Act.put, List.setIfInBounds_toArray, List.set_cons_zero, List.set_cons_succ, List.getElem_toArray, List.getElem_cons_succ, List.getElem_cons_zero]
    refine HeldT.wpTill_takeT false (i := 9) (v := ?_) rfl (by kernel_rfl) (by kernel_rfl) (by kernel_rfl) (fun _ _ _ h => h) (by kernel_rfl) (Or.inl ⟨by first | rfl | kernel_rfl, ?_⟩) hHeld (fun hHeld => ?_)
    rotate_left
    · (intro w' hSw; obtain ⟨⟨r1, r2⟩, r3⟩ := hSw; (try have r4 := r3 rfl); (try dsimp only at r1 r2 r4); clear r3; go_simp; try with_reducible rfl)
    try simp only [Act.put, List.setIfInBounds_toArray, List.set_cons_zero, List.set_cons_succ, List.getElem_toArray, List.getElem_cons_succ, List.getElem_cons_zero]
    refine HeldT.wpTill_takeT false (i := 10) (v := ?_) rfl (by kernel_rfl) (by kernel_rfl) (by kernel_rfl) (fun _ _ _ h => h) (by kernel_rfl) (Or.inl ⟨by first | rfl | kernel_rfl, ?_⟩) hHeld (fun hHeld => ?_)
    rotate_left
    · (intro w' hSw; obtain ⟨⟨r1, r2⟩, r3⟩ := hSw; (try have r4 := r3 rfl); (try dsimp only at r1 r2 r4); clear r3; go_simp; try with_reducible rfl)
    try simp only [Act.put, List.setIfInBounds_toArray, List.set_cons_zero, List.set_cons_succ, List.getElem_toArray, List.getElem_cons_succ, List.getElem_cons_zero]
    refine HeldT.wpTill_takeT false (i := 11) (v := ?_) rfl (by kernel_rfl) (by kernel_rfl) (by kernel_rfl) (fun _ _ _ h => h) (by kernel_rfl) (Or.inl ⟨by first | rfl | kernel_rfl, ?_⟩) hHeld (fun hHeld => ?_)
    rotate_left
    · (intro w' hSw; obtain ⟨⟨r1, r2⟩, r3⟩ := hSw; (try have r4 := r3 rfl); (try dsimp only at r1 r2 r4); clear r3; go_simp; try with_reducible rfl)
    try simp only [Act.put, List.setIfInBounds_toArray, List.set_cons_zero, List.set_cons_succ, List.getElem_toArray, List.getElem_cons_succ, List.getElem_cons_zero]
    refine HeldT.wpTill_takeT false (i := 12) (v := ?_) rfl (by kernel_rfl) (by kernel_rfl) (by kernel_rfl) (fun _ _ _ h => h) (by kernel_rfl) (Or.inl ⟨by first | rfl | kernel_rfl, ?_⟩) hHeld (fun hHeld => ?_)
    rotate_left
    · (intro w' hSw; obtain ⟨⟨r1, r2⟩, r3⟩ := hSw; (try have r4 := r3 rfl); (try dsimp only at r1 r2 r4); clear r3; go_simp; try with_reducible rfl)
    try simp only [Act.put, List.setIfInBounds_toArray, List.set_cons_zero, List.set_cons_succ, List.getElem_toArray, List.getElem_cons_succ, List.getElem_cons_zero]
    refine HeldT.wpTill_takeT false (i := 13) (v := ?_) rfl (by kernel_rfl) (by kernel_rfl) (by kernel_rfl) (fun _ _ _ h => h) (by kernel_rfl) (Or.inl ⟨by first | rfl | kernel_rfl, ?_⟩) hHeld (fun hHeld => ?_)
    rotate_left
    · (intro w' hSw; obtain ⟨⟨r1, r2⟩, r3⟩ := hSw; (try have r4 := r3 rfl); (try dsimp only at r1 r2 r4); clear r3; go_simp; try with_reducible rfl)
    try simp only [Act.put, List.setIfInBounds_toArray, List.set_cons_zero, List.set_cons_succ, List.getElem_toArray, List.getElem_cons_succ, List.getElem_cons_zero]
    refine HeldT.wpTill_takeT false (i := 14) (v := ?_) rfl (by kernel_rfl) (by kernel_rfl) (by kernel_rfl) (fun _ _ _ h => h) (by kernel_rfl) (Or.inl ⟨by first | rfl | kernel_rfl, ?_⟩) hHeld (fun hHeld => ?_)
    rotate_left
    · (intro w' hSw; obtain ⟨⟨r1, r2⟩, r3⟩ := hSw; (try have r4 := r3 rfl); (try dsimp only at r1 r2 r4); clear r3; go_simp; try with_reducible rfl)
    try simp only [Act.put, List.setIfInBounds_toArray, List.set_cons_zero, List.set_cons_succ, List.getElem_toArray, List.getElem_cons_succ, List.getElem_cons_zero]
    refine wpTill_one (i := 7) (by kernel_rfl) rfl (fun K hK => ?_)
    rw [if_pos (by kernel_rfl)]
    go_simp
    refine (Plf.nap_any S.out.t.out.p x1 x2 x3 i2 i3 z.1 z.2 HZ).mono ?_
    rintro e1 w2 ⟨rfl, a2, P2⟩
    have S := pa_p S a2 P2
    clear a2 P2
    refine hK _ _ ⟨⟨S.out.a.cell, trivial⟩, fun _ => trivial⟩ (fun hHeld => ?_)
    clear hK K
    refine wpTill_one (i := 15) (by kernel_rfl) rfl (fun K hK => ?_)
    rw [if_pos (by kernel_rfl)]
    go_simp
    refine (Plv.rnap_any S.out.t.out.r x1 x2 x3 i2 i3).mono ?_
    rintro e1 w3 ⟨z, r', q', cap', rfl, R3⟩
    have S := pa_r S R3
    clear R3
    refine hK _ _ ⟨⟨S.out.a.cell, trivial⟩, fun _ => trivial⟩ (fun hHeld => ?_)
    clear hK K
    refine HeldT.wpTill_takeT false (i := 16) (v := ?_) rfl (by kernel_rfl) (by kernel_rfl) (by kernel_rfl) (fun _ _ _ h => h) (by kernel_rfl) (Or.inl ⟨by first | rfl | kernel_rfl, ?_⟩) hHeld (fun hHeld => ?_)
    rotate_left
    · (intro w' hSw; obtain ⟨⟨r1, r2⟩, r3⟩ := hSw; (try have r4 := r3 rfl); (try dsimp only at r1 r2 r4); clear r3; go_simp; try with_reducible rfl)
    try simp only [Act.put, List.setIfInBounds_toArray, List.set_cons_zero, List.set_cons_succ, List.getElem_toArray, List.getElem_cons_succ, List.getElem_cons_zero]
    refine HeldT.wpTill_takeT false (i := 17) (v := ?_) rfl (by kernel_rfl) (by kernel_rfl) (by kernel_rfl) (fun _ _ _ h => h) (by kernel_rfl) (Or.inl ⟨by first | rfl | kernel_rfl, ?_⟩) hHeld (fun hHeld => ?_)
    rotate_left
    · (intro w' hSw; obtain ⟨⟨r1, r2⟩, r3⟩ := hSw; (try have r4 := r3 rfl); (try dsimp only at r1 r2 r4); clear r3; go_simp; try with_reducible rfl)
    try simp only [Act.put, List.setIfInBounds_toArray, List.set_cons_zero, List.set_cons_succ, List.getElem_toArray, List.getElem_cons_succ, List.getElem_cons_zero]
    refine wpTill_done (by kernel_rfl) ?_ 0
    clear hHeld bc
    go_wp2_with fail
    go_ret
    exact ⟨_, _, _, _, _, rfl, G.out, S.out.t⟩
  cases h4 : x0 == 4
  case true =>
    go_enter Try.func18, Try.ntmps18
    go_wp2_with fail
    generalize w.alloc (.cells #[.int .i64 x0, .int .i64 x1, .int .i64 x2, .int .i64 x3] 36) = w1 at *
    generalize w.heap.size = ab at *
    refine (sync_any S.out.t.out.p).mono ?_
    rintro e1 w2 ⟨rfl, a2, P2⟩
    have S := pa_p S a2 P2
    clear a2 P2 bc
    go_wp2_with fail
    refine (rsync_any S.out.t.out.r).mono ?_
    rintro e1 w3 ⟨rfl, a3, P3⟩
    have S := pa_r S ⟨a3, .inl rfl, P3⟩
    clear a3 P3
    go_wp2_with fail
    go_ret
    exact ⟨_, _, _, _, _, rfl, (show s.now ≤ (syncP s).now from Int.le_refl _), S.out.t⟩
  generalize hz : whenP c s x2 = z
  have HZ := Lib.hid hz
  clear hz
  go_enter Try.func18, Try.ntmps18
  go_wp2_with fail
  generalize w.alloc (.cells #[.int .i64 x0, .int .i64 x1, .int .i64 x2, .int .i64 x3] 36) = w1 at *
  generalize w.heap.size = ab at *
  refine (Plc.when_any S.out.t.out.p x2 z.1 z.2 i2 (Lib.hid HZ.out)).mono ?_
  rintro e1 w2 ⟨rfl, hb2⟩
  have S := pa_next S hb2
  clear hb2 bc
  have bc := S.out.a.cell
  go_wp2_with fail
  refine (Pls.rwhen_any S.out.t.out.r x2 i2).mono ?_
  rintro e1 w3 ⟨z1, z2, rfl, -, hb3⟩
  have S := pa_next S hb3
  clear hb3 bc
  generalize z.1 = y1
  generalize z.2 = y2
  cases h5 : y1 == z1
  · go_wp2_with fail
    go_ret
    exact ⟨_, _, _, _, _, rfl, Int.le_refl _, S.out.t⟩
  · go_wp2_with fail
    go_ret
    exact ⟨_, _, _, _, _, rfl, Int.le_refl _, S.out.t⟩
end Go.Proofs.Ytgkahcchekiogaa.Plw

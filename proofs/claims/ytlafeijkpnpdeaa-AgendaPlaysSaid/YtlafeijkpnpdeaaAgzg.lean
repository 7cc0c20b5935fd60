/- law03: done. -/
import Derived.Test.YtlafeijkpnpdeaaAgzf
namespace Go.Proofs.Ytlafeijkpnpdeaa.Agzg
open Go.RowKit Go.Shelf Base Kit RefA Alt Held Agp Aga Agb Agc Agd Age Agf Agg Agh Agi Agj Agn Agt Agu Agv Agw Agze Agzf
set_option linter.unusedVariables false
set_option linter.unusedSimpArgs false
attribute [local go_sem ↓] Go.wp_at_zero Go.wp_at_succ
/-- what is there behind an act -/
def DoPost (w0 : World) (ab rb : Nat) (l most : Int) (e : Ending) (w' : World) : Prop := e = .returned (.bool true) ∧ ∃ S' l', Hid (Pl w0 w' ab rb S' l' S' l' most) ∧ 0 ≤ l' ∧ l' ≤ l + 1
theorem xb_new (w : World) (x0 x1 x2 : Int) : Hid (Xb (w.alloc (.cells #[.int .i64 x0, .int .i64 x1, .int .i64 x2] 42)) w.heap.size x0 x1 x2) := Lib.hid ⟨Box.new _ _ _⟩
theorem row_drew {w : World} {B n : Nat} {T : TypeId} {v : Value} {xs : List Value} (h : w.ownsRow B T 3 v n xs) : w.drew.ownsRow B T 3 v n xs := own_below h ((Below.refl _ _).drew)
set_option maxRecDepth 100000 in
set_option maxHeartbeats 1000000 in
theorem done0 (w0 : World) (ab rb : Nat) (S : List E) (l most x1 x2 : Int) (w : World) (H0 : Hid (Pl w0 w ab rb S l S l most)) (hm2 : most ≤ 1000) (l0 : 0 ≤ l) (l1 : l ≤ 100000) :
    Calls Try.prog 12 #[.pointer (some ⟨ab, 0, none⟩), .pointer (some ⟨rb, 0, none⟩), .agg #[.int .i64 0, .int .i64 x1, .int .i64 x2]] w (DoPost w0 ab rb l most) := by
  have X := xb_new w 0 x1 x2
  have H := pl_next H0 ((Below.refl _ w).alloc (Nat.le_refl _) (.cells #[.int .i64 0, .int .i64 x1, .int .i64 x2] 42))
  clear H0
  have xc := X.out.box.cell
  go_enter Try.func12, Try.ntmps12
  by_cases hf : (S.length : Int) < most
  · have hf1 := Lib.hid hf
    clear hf
    have PA := Lib.hid (fun w' (h : Hid (Pl w0 w' ab rb S l S l most)) (X : Hid (Xb w' w.heap.size 0 x1 x2)) => AddP x1 x2 h X hf1.out hm2 l0 (by omega))
    have PR := Lib.hid (fun w' (h : Hid (Pl w0 w' ab rb (ins (x1, l + 1, x2) S) (l + 1) S l most)) (X : Hid (Xb w' w.heap.size 0 x1 x2)) => RAddP x1 x2 h X hf1.out hm2 l0 (by omega))
    go_wp2_with fail
    refine (PA.out _ H X).mono ?_
    rintro e w1 ⟨rfl, H1, X1⟩
    have xc := X1.out.box.cell
    go_wp2_with fail
    refine (PR.out _ H1 X1).mono ?_
    rintro e w2 ⟨rfl, H2, X2⟩
    go_wp2_with fail
    go_ret
    exact ⟨rfl, _, _, H2, by omega, Int.le_refl _⟩
  · have hf1 : Hid (most ≤ (S.length : Int)) := Lib.hid (by omega)
    clear hf
    have PA := Lib.hid (fun w' (h : Hid (Pl w0 w' ab rb S l S l most)) (X : Hid (Xb w' w.heap.size 0 x1 x2)) => AddF x1 x2 h X hf1.out)
    have PR := Lib.hid (fun w' (h : Hid (Pl w0 w' ab rb S l S l most)) (X : Hid (Xb w' w.heap.size 0 x1 x2)) => RAddF x1 x2 h X hf1.out)
    go_wp2_with fail
    refine (PA.out _ H X).mono ?_
    rintro e w1 ⟨rfl, H1, X1⟩
    have xc := X1.out.box.cell
    go_wp2_with fail
    refine (PR.out _ H1 X1).mono ?_
    rintro e w2 ⟨rfl, H2, X2⟩
    go_wp2_with fail
    go_ret
    exact ⟨rfl, _, _, H2, l0, by omega⟩
set_option maxRecDepth 100000 in
set_option maxHeartbeats 1000000 in
theorem done1 (w0 : World) (ab rb : Nat) (S : List E) (l most x1 x2 : Int) (w : World) (H0 : Hid (Pl w0 w ab rb S l S l most)) (hm2 : most ≤ 1000) (l0 : 0 ≤ l) (l1 : l ≤ 100000) :
    Calls Try.prog 12 #[.pointer (some ⟨ab, 0, none⟩), .pointer (some ⟨rb, 0, none⟩), .agg #[.int .i64 1, .int .i64 x1, .int .i64 x2]] w (DoPost w0 ab rb l most) := by
  have X := xb_new w 1 x1 x2
  have H := pl_next H0 ((Below.refl _ w).alloc (Nat.le_refl _) (.cells #[.int .i64 1, .int .i64 x1, .int .i64 x2] 42))
  clear H0
  have xc := X.out.box.cell
  go_enter Try.func12, Try.ntmps12
  obtain ⟨b, hb⟩ : ∃ b, has x1 S = b := ⟨_, rfl⟩
  have PA := Lib.hid (fun w' (h : Hid (Pl w0 w' ab rb S l S l most)) (X : Hid (Xb w' w.heap.size 1 x1 x2)) => DropP x1 h X)
  have PR := Lib.hid (fun w' (h : Hid (Pl w0 w' ab rb (del x1 S) l S l most)) (X : Hid (Xb w' w.heap.size 1 x1 x2)) => RDropP x1 h X)
  rw [hb] at PA PR
  clear hb
  go_wp2_with fail
  generalize w.alloc (.cells #[.int .i64 1, .int .i64 x1, .int .i64 x2] 42) = W at *
  have H := pl_next H ((Below.refl _ W).drew)
  have X : Hid (Xb W.drew w.heap.size 1 x1 x2) := Lib.hid ⟨X.out.box.drew⟩
  refine wp_region_till (fun w' => (∀ i, w'.cell? ⟨w.heap.size, i, none⟩ = (#[.int .i64 1, .int .i64 x1, .int .i64 x2] : Array Value)[i]?) ∧ True) (fun _ => True) 7 10 #[false, false, false, false, false, false, false, false, false, false] (by kernel_rfl) rfl rfl ⟨⟨X.out.box.cell, trivial⟩, trivial⟩ (fun hHeld => ?_)
  generalize W.drew = W2 at *
  clear xc
  refine HeldT.wpTill_takeT false (i := 0) (v := ?_) rfl (by kernel_rfl) (by kernel_rfl) (by kernel_rfl) (fun _ _ _ h => h) (by kernel_rfl) (Or.inl ⟨by first | rfl | kernel_rfl, ?_⟩) hHeld (fun hHeld => ?_)
  rotate_left
  · (intro w' hSw; obtain ⟨⟨r1, r2⟩, r3⟩ := hSw; (try have r4 := r3 rfl); (try dsimp only at r1 r2 r4); clear r3; go_simp; try with_reducible rfl)
  try simp only [Act.put, List.setIfInBounds_toArray, List.set_cons_zero, List.set_cons_succ, List.getElem_toArray, List.getElem_cons_succ, List.getElem_cons_zero]
  refine HeldT.wpTill_takeT false (i := 1) (v := ?_) rfl (by kernel_rfl) (by kernel_rfl) (by kernel_rfl) (fun _ _ _ h => h) (by kernel_rfl) (Or.inl ⟨by first | rfl | kernel_rfl, ?_⟩) hHeld (fun hHeld => ?_)
  rotate_left
  · (intro w' hSw; obtain ⟨⟨r1, r2⟩, r3⟩ := hSw; (try have r4 := r3 rfl); (try dsimp only at r1 r2 r4); clear r3; go_simp; try with_reducible rfl)
  try simp only [Act.put, List.setIfInBounds_toArray, List.set_cons_zero, List.set_cons_succ, List.getElem_toArray, List.getElem_cons_succ, List.getElem_cons_zero]
  refine HeldT.wpTill_takeT false (i := 2) (v := ?_) rfl (by kernel_rfl) (by kernel_rfl) (by kernel_rfl) (fun _ _ _ h => h) (by kernel_rfl) (Or.inl ⟨by first | rfl | kernel_rfl, ?_⟩) hHeld (fun hHeld => ?_)
  rotate_left
  · (intro w' hSw; obtain ⟨⟨r1, r2⟩, r3⟩ := hSw; (try have r4 := r3 rfl); (try dsimp only at r1 r2 r4); clear r3; go_simp; try with_reducible rfl)
  try simp only [Act.put, List.setIfInBounds_toArray, List.set_cons_zero, List.set_cons_succ, List.getElem_toArray, List.getElem_cons_succ, List.getElem_cons_zero]
  refine HeldT.wpTill_takeT false (i := 4) (v := ?_) rfl (by kernel_rfl) (by kernel_rfl) (by kernel_rfl) (fun _ _ _ h => h) (by kernel_rfl) (Or.inl ⟨by first | rfl | kernel_rfl, ?_⟩) hHeld (fun hHeld => ?_)
  rotate_left
  · (intro w' hSw; obtain ⟨⟨r1, r2⟩, r3⟩ := hSw; (try have r4 := r3 rfl); (try dsimp only at r1 r2 r4); clear r3; go_simp; try with_reducible rfl)
  try simp only [Act.put, List.setIfInBounds_toArray, List.set_cons_zero, List.set_cons_succ, List.getElem_toArray, List.getElem_cons_succ, List.getElem_cons_zero]
  refine HeldT.wpTill_takeT false (i := 5) (v := ?_) rfl (by kernel_rfl) (by kernel_rfl) (by kernel_rfl) (fun _ _ _ h => h) (by kernel_rfl) (Or.inl ⟨by first | rfl | kernel_rfl, ?_⟩) hHeld (fun hHeld => ?_)
  rotate_left
  · (intro w' hSw; obtain ⟨⟨r1, r2⟩, r3⟩ := hSw; (try have r4 := r3 rfl); (try dsimp only at r1 r2 r4); clear r3; go_simp; try with_reducible rfl)
  try simp only [Act.put, List.setIfInBounds_toArray, List.set_cons_zero, List.set_cons_succ, List.getElem_toArray, List.getElem_cons_succ, List.getElem_cons_zero]
  refine HeldT.wpTill_takeT false (i := 6) (v := ?_) rfl (by kernel_rfl) (by kernel_rfl) (by kernel_rfl) (fun _ _ _ h => h) (by kernel_rfl) (Or.inl ⟨by first | rfl | kernel_rfl, ?_⟩) hHeld (fun hHeld => ?_)
  rotate_left
  · (intro w' hSw; obtain ⟨⟨r1, r2⟩, r3⟩ := hSw; (try have r4 := r3 rfl); (try dsimp only at r1 r2 r4); clear r3; go_simp; try with_reducible rfl)
  try simp only [Act.put, List.setIfInBounds_toArray, List.set_cons_zero, List.set_cons_succ, List.getElem_toArray, List.getElem_cons_succ, List.getElem_cons_zero]
  refine wpTill_one (i := 3) (by kernel_rfl) rfl (fun K hK => ?_)
  rw [if_pos (by kernel_rfl)]
  go_simp
  refine (PA.out _ H X).mono ?_
  rintro e w7 ⟨rfl, H1, X1⟩
  refine hK _ _ ⟨⟨X1.out.box.cell, trivial⟩, fun _ => trivial⟩ (fun hHeld => ?_)
  clear hK K
  try simp only [Act.put, List.setIfInBounds_toArray, List.set_cons_zero, List.set_cons_succ, List.getElem_toArray, List.getElem_cons_succ, List.getElem_cons_zero]
  refine wpTill_one (i := 7) (by kernel_rfl) rfl (fun K hK => ?_)
  rw [if_pos (by kernel_rfl)]
  go_simp
  refine (PR.out _ H1 X1).mono ?_
  rintro e w8 ⟨rfl, H2, X2⟩
  refine hK _ _ ⟨⟨X2.out.box.cell, trivial⟩, fun _ => trivial⟩ (fun hHeld => ?_)
  clear hK K
  try simp only [Act.put, List.setIfInBounds_toArray, List.set_cons_zero, List.set_cons_succ, List.getElem_toArray, List.getElem_cons_succ, List.getElem_cons_zero]
  refine HeldT.wpTill_takeT false (i := 8) (v := ?_) rfl (by kernel_rfl) (by kernel_rfl) (by kernel_rfl) (fun _ _ _ h => h) (by kernel_rfl) (Or.inl ⟨by first | rfl | kernel_rfl, ?_⟩) hHeld (fun hHeld => ?_)
  rotate_left
  · (intro w' hSw; obtain ⟨⟨r1, r2⟩, r3⟩ := hSw; (try have r4 := r3 rfl); (try dsimp only at r1 r2 r4); clear r3; go_simp; try with_reducible rfl)
  try simp only [Act.put, List.setIfInBounds_toArray, List.set_cons_zero, List.set_cons_succ, List.getElem_toArray, List.getElem_cons_succ, List.getElem_cons_zero]
  refine HeldT.wpTill_takeT false (i := 9) (v := ?_) rfl (by kernel_rfl) (by kernel_rfl) (by kernel_rfl) (fun _ _ _ h => h) (by kernel_rfl) (Or.inl ⟨by first | rfl | kernel_rfl, ?_⟩) hHeld (fun hHeld => ?_)
  rotate_left
  · (intro w' hSw; obtain ⟨⟨r1, r2⟩, r3⟩ := hSw; (try have r4 := r3 rfl); (try dsimp only at r1 r2 r4); clear r3; go_simp; try with_reducible rfl)
  try simp only [Act.put, List.setIfInBounds_toArray, List.set_cons_zero, List.set_cons_succ, List.getElem_toArray, List.getElem_cons_succ, List.getElem_cons_zero]
  refine wpTill_done (by kernel_rfl) ?_ 0
  clear hHeld
  go_wp2_with fail
  go_ret
  exact ⟨by simp, _, _, H2, l0, by omega⟩
set_option maxRecDepth 100000 in
set_option maxHeartbeats 1000000 in
theorem done2 (w0 : World) (ab rb : Nat) (S : List E) (l most x0 x1 x2 : Int) (w : World) (h0 : x0 ≠ 0) (h1 : x0 ≠ 1) (H0 : Hid (Pl w0 w ab rb S l S l most)) (hm2 : most ≤ 1000) (l0 : 0 ≤ l) (l1 : l ≤ 100000) :
    Calls Try.prog 12 #[.pointer (some ⟨ab, 0, none⟩), .pointer (some ⟨rb, 0, none⟩), .agg #[.int .i64 x0, .int .i64 x1, .int .i64 x2]] w (DoPost w0 ab rb l most) := by
  have X := xb_new w x0 x1 x2
  have H := pl_next H0 ((Below.refl _ w).alloc (Nat.le_refl _) (.cells #[.int .i64 x0, .int .i64 x1, .int .i64 x2] 42))
  have hl : (dueS x1 S).length ≤ 1000 := by
    obtain ⟨v, hv⟩ := H0.out.wk
    exact len_due x1 (wk_len hv)
  clear H0
  have xc := X.out.box.cell
  go_enter Try.func12, Try.ntmps12
  have PA := Lib.hid (fun w' (h : Hid (Pl w0 w' ab rb S l S l most)) (X : Hid (Xb w' w.heap.size x0 x1 x2)) => DueP x1 h X)
  have PR := Lib.hid (fun w' (h : Hid (Pl w0 w' ab rb (rstS x1 S) l S l most)) (X : Hid (Xb w' w.heap.size x0 x1 x2)) {B : Nat} {u : Value} {M : List E} (R : Hid (w'.ownsRow B 33 3 u M.length (encE M))) => RDueP x1 h X R)
  go_wp2_with fail
  generalize w.alloc (.cells #[.int .i64 x0, .int .i64 x1, .int .i64 x2] 42) = W at *
  have H := pl_next H ((Below.refl _ W).drew)
  have X : Hid (Xb W.drew w.heap.size x0 x1 x2) := Lib.hid ⟨X.out.box.drew⟩
  refine wp_region_till (fun w' => (∀ i, w'.cell? ⟨w.heap.size, i, none⟩ = (#[.int .i64 x0, .int .i64 x1, .int .i64 x2] : Array Value)[i]?) ∧ True) (fun _ => True) 8 10 #[false, false, false, false, false, false, false, false, false, false] (by kernel_rfl) rfl rfl ⟨⟨X.out.box.cell, trivial⟩, trivial⟩ (fun hHeld => ?_)
  generalize W.drew = W2 at *
  clear xc
  refine HeldT.wpTill_takeT false (i := 0) (v := ?_) rfl (by kernel_rfl) (by kernel_rfl) (by kernel_rfl) (fun _ _ _ h => h) (by kernel_rfl) (Or.inl ⟨by first | rfl | kernel_rfl, ?_⟩) hHeld (fun hHeld => ?_)
  rotate_left
  · (intro w' hSw; obtain ⟨⟨r1, r2⟩, r3⟩ := hSw; (try have r4 := r3 rfl); (try dsimp only at r1 r2 r4); clear r3; go_simp; try with_reducible rfl)
  try simp only [Act.put, List.setIfInBounds_toArray, List.set_cons_zero, List.set_cons_succ, List.getElem_toArray, List.getElem_cons_succ, List.getElem_cons_zero]
  refine HeldT.wpTill_takeT false (i := 1) (v := ?_) rfl (by kernel_rfl) (by kernel_rfl) (by kernel_rfl) (fun _ _ _ h => h) (by kernel_rfl) (Or.inl ⟨by first | rfl | kernel_rfl, ?_⟩) hHeld (fun hHeld => ?_)
  rotate_left
  · (intro w' hSw; obtain ⟨⟨r1, r2⟩, r3⟩ := hSw; (try have r4 := r3 rfl); (try dsimp only at r1 r2 r4); clear r3; go_simp; try with_reducible rfl)
  try simp only [Act.put, List.setIfInBounds_toArray, List.set_cons_zero, List.set_cons_succ, List.getElem_toArray, List.getElem_cons_succ, List.getElem_cons_zero]
  refine HeldT.wpTill_takeT false (i := 2) (v := ?_) rfl (by kernel_rfl) (by kernel_rfl) (by kernel_rfl) (fun _ _ _ h => h) (by kernel_rfl) (Or.inl ⟨by first | rfl | kernel_rfl, ?_⟩) hHeld (fun hHeld => ?_)
  rotate_left
  · (intro w' hSw; obtain ⟨⟨r1, r2⟩, r3⟩ := hSw; (try have r4 := r3 rfl); (try dsimp only at r1 r2 r4); clear r3; go_simp; try with_reducible rfl)
  try simp only [Act.put, List.setIfInBounds_toArray, List.set_cons_zero, List.set_cons_succ, List.getElem_toArray, List.getElem_cons_succ, List.getElem_cons_zero]
  refine HeldT.wpTill_takeT false (i := 4) (v := ?_) rfl (by kernel_rfl) (by kernel_rfl) (by kernel_rfl) (fun _ _ _ h => h) (by kernel_rfl) (Or.inl ⟨by first | rfl | kernel_rfl, ?_⟩) hHeld (fun hHeld => ?_)
  rotate_left
  · (intro w' hSw; obtain ⟨⟨r1, r2⟩, r3⟩ := hSw; (try have r4 := r3 rfl); (try dsimp only at r1 r2 r4); clear r3; go_simp; try with_reducible rfl)
  try simp only [Act.put, List.setIfInBounds_toArray, List.set_cons_zero, List.set_cons_succ, List.getElem_toArray, List.getElem_cons_succ, List.getElem_cons_zero]
  refine HeldT.wpTill_takeT false (i := 5) (v := ?_) rfl (by kernel_rfl) (by kernel_rfl) (by kernel_rfl) (fun _ _ _ h => h) (by kernel_rfl) (Or.inl ⟨by first | rfl | kernel_rfl, ?_⟩) hHeld (fun hHeld => ?_)
  rotate_left
  · (intro w' hSw; obtain ⟨⟨r1, r2⟩, r3⟩ := hSw; (try have r4 := r3 rfl); (try dsimp only at r1 r2 r4); clear r3; go_simp; try with_reducible rfl)
  try simp only [Act.put, List.setIfInBounds_toArray, List.set_cons_zero, List.set_cons_succ, List.getElem_toArray, List.getElem_cons_succ, List.getElem_cons_zero]
  refine HeldT.wpTill_takeT false (i := 6) (v := ?_) rfl (by kernel_rfl) (by kernel_rfl) (by kernel_rfl) (fun _ _ _ h => h) (by kernel_rfl) (Or.inl ⟨by first | rfl | kernel_rfl, ?_⟩) hHeld (fun hHeld => ?_)
  rotate_left
  · (intro w' hSw; obtain ⟨⟨r1, r2⟩, r3⟩ := hSw; (try have r4 := r3 rfl); (try dsimp only at r1 r2 r4); clear r3; go_simp; try with_reducible rfl)
  try simp only [Act.put, List.setIfInBounds_toArray, List.set_cons_zero, List.set_cons_succ, List.getElem_toArray, List.getElem_cons_succ, List.getElem_cons_zero]
  refine wpTill_one (i := 3) (by kernel_rfl) rfl (fun K hK => ?_)
  rw [if_pos (by kernel_rfl)]
  go_simp
  refine (PA.out _ H X).mono ?_
  rintro e w7 ⟨u, rfl, H1, X1, R1⟩
  refine hK _ _ ⟨⟨X1.out.box.cell, trivial⟩, fun _ => trivial⟩ (fun hHeld => ?_)
  clear hK K
  try simp only [Act.put, List.setIfInBounds_toArray, List.set_cons_zero, List.set_cons_succ, List.getElem_toArray, List.getElem_cons_succ, List.getElem_cons_zero]
  refine wpTill_one (i := 7) (by kernel_rfl) rfl (fun K hK => ?_)
  rw [if_pos (by kernel_rfl)]
  go_simp
  refine (PR.out _ H1 X1 R1).mono ?_
  rintro e w8 ⟨v, rfl, H2, X2, R2, R3⟩
  refine hK _ _ ⟨⟨X2.out.box.cell, trivial⟩, fun _ => trivial⟩ (fun hHeld => ?_)
  clear hK K
  try simp only [Act.put, List.setIfInBounds_toArray, List.set_cons_zero, List.set_cons_succ, List.getElem_toArray, List.getElem_cons_succ, List.getElem_cons_zero]
  refine wpTill_one (i := 8) (by kernel_rfl) rfl (fun K hK => ?_)
  rw [if_pos (by kernel_rfl)]
  go_simp
  refine (same_any _ _ u v _ _ R3 R2 hl).mono ?_
  rintro e w9 ⟨rfl, k9⟩
  have X9 : Hid (Xb w9 w.heap.size x0 x1 x2) := Lib.hid ⟨X2.out.box.next k9⟩
  have H9 := pl_next H2 k9
  refine hK _ _ ⟨⟨X9.out.box.cell, trivial⟩, fun _ => trivial⟩ (fun hHeld => ?_)
  clear hK K
  try simp only [Act.put, List.setIfInBounds_toArray, List.set_cons_zero, List.set_cons_succ, List.getElem_toArray, List.getElem_cons_succ, List.getElem_cons_zero]
  refine HeldT.wpTill_takeT false (i := 9) (v := ?_) rfl (by kernel_rfl) (by kernel_rfl) (by kernel_rfl) (fun _ _ _ h => h) (by kernel_rfl) (Or.inl ⟨by first | rfl | kernel_rfl, ?_⟩) hHeld (fun hHeld => ?_)
  rotate_left
  · (intro w' hSw; obtain ⟨⟨r1, r2⟩, r3⟩ := hSw; (try have r4 := r3 rfl); (try dsimp only at r1 r2 r4); clear r3; go_simp; try with_reducible rfl)
  try simp only [Act.put, List.setIfInBounds_toArray, List.set_cons_zero, List.set_cons_succ, List.getElem_toArray, List.getElem_cons_succ, List.getElem_cons_zero]
  refine wpTill_done (by kernel_rfl) ?_ 0
  clear hHeld
  go_wp2_with fail
  go_ret
  exact ⟨rfl, _, _, H9, l0, by omega⟩
theorem done_any (w0 : World) (ab rb : Nat) (S : List E) (l most x0 x1 x2 : Int) (w : World) (H0 : Hid (Pl w0 w ab rb S l S l most)) (hm2 : most ≤ 1000) (l0 : 0 ≤ l) (l1 : l ≤ 100000) :
    Calls Try.prog 12 #[.pointer (some ⟨ab, 0, none⟩), .pointer (some ⟨rb, 0, none⟩), .agg #[.int .i64 x0, .int .i64 x1, .int .i64 x2]] w (DoPost w0 ab rb l most) := by
  by_cases h0 : x0 = 0
  · subst h0; exact done0 w0 ab rb S l most x1 x2 w H0 hm2 l0 l1
  · by_cases h1 : x0 = 1
    · subst h1; exact done1 w0 ab rb S l most x1 x2 w H0 hm2 l0 l1
    · exact done2 w0 ab rb S l most x0 x1 x2 w h0 h1 H0 hm2 l0 l1
end Go.Proofs.Ytlafeijkpnpdeaa.Agzg

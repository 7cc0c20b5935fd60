/- The law AgendaPlays. -/
import Derived.Test.YtlafeijkpnpdeaaOpen
import Derived.Test.YtlafeijkpnpdeaaAgzg
namespace Go.Proofs.Ytlafeijkpnpdeaa.Agzh
open Go.RowKit Go.Shelf Base Kit RefA Alt Held Agp Aga Agb Agc Agd Age Agf Agg Agh Agi Agj Agn Agt Agu Agv Agw Agzd Agze Agzf Agzg
set_option linter.unusedVariables false
set_option linter.unusedSimpArgs false
attribute [local go_sem ↓] Go.wp_at_zero Go.wp_at_succ
variable {w0 w : World} {ab rb : Nat} {S T : List E} {l m most : Int}
theorem nxt_inv {L S : List E} {last : Int} (v : Inv L S last) : nxt L = nxt S := by
  unfold nxt
  have e := inv_len v
  by_cases h : L.length = 0
  · rw [if_pos h, if_pos (by omega)]
  · rw [if_neg h, if_neg (by omega)]
    have := inv_head v (by omega)
    rw [this]
    rfl
theorem LenP (h : Hid (Pl w0 w ab rb S l T m most)) : Calls Try.prog 11 #[.pointer (some ⟨ab, 0, none⟩)] w fun e w' => e = .returned (.int .i64 (S.length : Int)) ∧ w = w' := by
  obtain ⟨v, hv⟩ := h.out.wk
  exact LenW hv
theorem NextP (h : Hid (Pl w0 w ab rb S l T m most)) (x : Int) (b : Bool) (hr : Hid (nxt S = (x, b))) : Calls Try.prog 13 #[.pointer (some ⟨ab, 0, none⟩)] w fun e w' => e = .returned (.tuple #[.int .i64 x, .bool b]) ∧ w = w' := by
  obtain ⟨v, hv⟩ := h.out.wk
  obtain ⟨L, a, i⟩ := hv.out.ag
  exact Next_any ab v L l most x b w a (Lib.hid ((nxt_inv i).trans hr.out))
theorem AllP (h : Hid (Pl w0 w ab rb S l T m most)) : Calls Try.prog 15 #[.pointer (some ⟨ab, 0, none⟩)] w (AllPost w S) := by
  obtain ⟨v, hv⟩ := h.out.wk
  obtain ⟨L, a, i⟩ := hv.out.ag
  exact all_live ab v L S l most w a (Lib.hid i)
/-- the reference's box -/
theorem pl_ref (h : Hid (Pl w0 w ab rb S l T m most)) : ∃ b c, (∀ i, w.cell? ⟨rb, i, none⟩ = (#[.slice b T.length c, .int .i64 m, .int .i64 most] : Array Value)[i]?) ∧ Hid (Rf w rb (.slice b T.length c) T m most) ∧ T.length ≤ 1000 := by
  obtain ⟨u, hu⟩ := h.out.rf
  obtain ⟨b, c, rfl⟩ := own_val hu.out.own
  exact ⟨b, c, hu.out.box.cell, hu, hu.out.len⟩
theorem pl_new (w0 w : World) (ab : Nat) (q : Int) (hb : Hid (Below w0.heap.size w0 w)) (hw : Hid (Wk w0.heap.size w ab (.slice none 0 0) [] 0 q)) :
    Hid (Pl w0 (w.alloc (.cells #[.slice none 0 0, .int .i64 0, .int .i64 q] 39)) ab w.heap.size [] 0 [] 0 q) := by
  have k := (Below.refl w.heap.size w).alloc (Nat.le_refl _) (.cells #[.slice none 0 0, .int .i64 0, .int .i64 q] 39)
  exact Lib.hid ⟨below_next hb.out k, ⟨_, wk_next hw k⟩, ⟨.slice none 0 0, Lib.hid ⟨Box.new _ _ _, World.ownsRow_nil _ _ _ _, by simp⟩⟩, hb.out.size⟩
theorem till_mono {P : Program} {ops : Array Oper} {Q : Exit → Act → World → Prop} {md : Region.Mode} {A A' B : World → Prop} {b : Nat} (h : ∀ w, A' w → A w) : ∀ n (listed : Array Bool) (a : Act) (w : World), wpTill P md ops Q A' B b n listed a w → wpTill P md ops Q A B b n listed a w
  | 0, _, _, _, H => H
  | n + 1, _, _, _, H => ⟨H.1, fun i hi => wpOp_mono (fun a' w' h' => ⟨⟨h _ h'.1.1, h'.1.2⟩, till_mono h n _ _ _ h'.2⟩) (H.2 i hi)⟩
set_option maxRecDepth 100000 in
set_option maxHeartbeats 2000000 in
theorem plays_law (mo : Int) (a : Option Addr) (n cap : Nat) (f : Nat → Nat → Int) (w : World) (hm : 0 ≤ mo ∧ mo ≤ 255) (hin : Hid (Open.RowsIn w a n 3 f)) :
    Calls Try.prog 4 #[.int .u8 mo, .slice a n cap] w fun e w' => e = .returned (.bool true) ∧ Below w.heap.size w w' := by
  have hnn := hin.out.1
  obtain ⟨q, hq⟩ : ∃ q, mo % 20 = q := ⟨_, rfl⟩
  have hq2 : 0 ≤ q ∧ q ≤ 19 := by omega
  go_enter Try.func4, Try.ntmps4
  go_wp2_with fail
  refine (NewW q w w.heap.size (Nat.le_refl _)).mono ?_
  rintro e w1 ⟨rfl, H1, k1⟩
  replace k1 := Lib.hid k1
  go_wp2_with fail
  have P := pl_new w w1 w.heap.size q k1 H1
  obtain ⟨ab, hab⟩ : ∃ ab, w.heap.size = ab := ⟨_, rfl⟩
  have hab2 := Lib.hid hab
  generalize w1.alloc (.cells #[.slice none 0 0, .int .i64 0, .int .i64 q] 39) = W1 at *
  generalize w1.heap.size = rb at *
  clear H1 k1 hab hm hq
  refine (works_any _).mono ?_
  rintro e w2 ⟨rfl, k2⟩
  replace P := pl_next P k2
  clear k2
  go_wp2_with fail
  go_loopw [7] (fun i wr => ∃ k : Nat, k ≤ n ∧ k ≤ 100 ∧ i = .int .i64 k ∧ ∃ S l, Hid (Pl w wr w.heap.size rb S l S l q) ∧ 0 ≤ l ∧ l ≤ (k : Int)) (fun i _ => 100 - (intOf i).toNat)
  case atStart => exact ⟨0, by omega, by omega, rfl, [], 0, P, by omega, by omega⟩
  case round =>
    clear P
    obtain ⟨k, hk, hk1, rfl, S, l, H, l0, l1⟩ := hrel
    by_cases hlt : k < n
    · by_cases h100 : k < 100
      · obtain ⟨b, off, rfl, hb, c0, c1, c2, -, -, -⟩ := rows_at3 hin k hlt
        generalize f k 0 = x0 at *
        generalize f k 1 = x1 at *
        generalize f k 2 = x2 at *
        have CC : Hid (∀ w', Below w.heap.size w w' → w'.cell? ⟨b, off + k * 3, none⟩ = some (.int .i64 x0) ∧ w'.cell? ⟨b, off + k * 3 + 1, none⟩ = some (.int .i64 x1) ∧ w'.cell? ⟨b, off + k * 3 + 2, none⟩ = some (.int .i64 x2)) := Lib.hid (fun w' h => ⟨(h.cell (p := ⟨b, off + k * 3, none⟩) hb).trans c0, (h.cell (p := ⟨b, off + k * 3 + 1, none⟩) hb).trans c1, (h.cell (p := ⟨b, off + k * 3 + 2, none⟩) hb).trans c2⟩)
        have D := Lib.hid (fun w' (h : Hid (Pl w w' w.heap.size rb S l S l q)) => done_any w w.heap.size rb S l q x0 x1 x2 w' h (by omega) l0 (by omega))
        clear c0 c1 c2
        have HD := pl_next H ((Below.refl _ wr).drew)
        have bd := CC.out _ HD.out.bel
        have b0 := bd.1
        have b1 := bd.2.1
        have b2 := bd.2.2
        clear H
        go_wp2_with fail
        refine wp_region_till (fun w' => (w'.cell? ⟨b, off + k * 3, none⟩ = some (.int .i64 x0) ∧ w'.cell? ⟨b, off + k * 3 + 1, none⟩ = some (.int .i64 x1) ∧ w'.cell? ⟨b, off + k * 3 + 2, none⟩ = some (.int .i64 x2)) ∧ True) (fun _ => True) 10 18 #[false, false, false, false, false, false, false, false, false, false, false, false, false, false, false, false, false, false] (by kernel_rfl) rfl rfl ⟨⟨bd, trivial⟩, trivial⟩ (fun hHeld => ?_)
        generalize wr.drew = W2 at *
        clear b0 b1 b2
        refine HeldT.wpTill_takeT false (i := 0) (v := ?_) rfl (by kernel_rfl) (by kernel_rfl) (by kernel_rfl) (fun _ _ _ h => h) (by kernel_rfl) (Or.inl ⟨by first | rfl | kernel_rfl, ?_⟩) hHeld (fun hHeld => ?_)
        rotate_left
        · (intro w' hSw; obtain ⟨⟨⟨r1, r2, r3⟩, r4⟩, r5⟩ := hSw; (try dsimp only at r1 r2 r3 r4); clear r5; go_simp; try with_reducible rfl)
        try simp only [Act.put, List.setIfInBounds_toArray, List.set_cons_zero, List.set_cons_succ, List.getElem_toArray, List.getElem_cons_succ, List.getElem_cons_zero]
        refine HeldT.wpTill_takeT false (i := 1) (v := ?_) rfl (by kernel_rfl) (by kernel_rfl) (by kernel_rfl) (fun _ _ _ h => h) (by kernel_rfl) (Or.inl ⟨by first | rfl | kernel_rfl, ?_⟩) hHeld (fun hHeld => ?_)
        rotate_left
        · (intro w' hSw; obtain ⟨⟨⟨r1, r2, r3⟩, r4⟩, r5⟩ := hSw; (try dsimp only at r1 r2 r3 r4); clear r5; go_simp; try with_reducible rfl)
        try simp only [Act.put, List.setIfInBounds_toArray, List.set_cons_zero, List.set_cons_succ, List.getElem_toArray, List.getElem_cons_succ, List.getElem_cons_zero]
        refine HeldT.wpTill_takeT false (i := 2) (v := ?_) rfl (by kernel_rfl) (by kernel_rfl) (by kernel_rfl) (fun _ _ _ h => h) (by kernel_rfl) (Or.inl ⟨by first | rfl | kernel_rfl, ?_⟩) hHeld (fun hHeld => ?_)
        rotate_left
        · (intro w' hSw; obtain ⟨⟨⟨r1, r2, r3⟩, r4⟩, r5⟩ := hSw; (try dsimp only at r1 r2 r3 r4); clear r5; go_simp; try with_reducible rfl)
        try simp only [Act.put, List.setIfInBounds_toArray, List.set_cons_zero, List.set_cons_succ, List.getElem_toArray, List.getElem_cons_succ, List.getElem_cons_zero]
        refine HeldT.wpTill_takeT false (i := 3) (v := ?_) rfl (by kernel_rfl) (by kernel_rfl) (by kernel_rfl) (fun _ _ _ h => h) (by kernel_rfl) (Or.inl ⟨by first | rfl | kernel_rfl, ?_⟩) hHeld (fun hHeld => ?_)
        rotate_left
        · (intro w' hSw; obtain ⟨⟨⟨r1, r2, r3⟩, r4⟩, r5⟩ := hSw; (try dsimp only at r1 r2 r3 r4); clear r5; go_simp; try with_reducible rfl)
        try simp only [Act.put, List.setIfInBounds_toArray, List.set_cons_zero, List.set_cons_succ, List.getElem_toArray, List.getElem_cons_succ, List.getElem_cons_zero]
        refine HeldT.wpTill_takeT false (i := 4) (v := ?_) rfl (by kernel_rfl) (by kernel_rfl) (by kernel_rfl) (fun _ _ _ h => h) (by kernel_rfl) (Or.inl ⟨by first | rfl | kernel_rfl, ?_⟩) hHeld (fun hHeld => ?_)
        rotate_left
        · (intro w' hSw; obtain ⟨⟨⟨r1, r2, r3⟩, r4⟩, r5⟩ := hSw; (try dsimp only at r1 r2 r3 r4); clear r5; go_simp; try with_reducible rfl)
        try simp only [Act.put, List.setIfInBounds_toArray, List.set_cons_zero, List.set_cons_succ, List.getElem_toArray, List.getElem_cons_succ, List.getElem_cons_zero]
        refine HeldT.wpTill_takeT false (i := 5) (v := ?_) rfl (by kernel_rfl) (by kernel_rfl) (by kernel_rfl) (fun _ _ _ h => h) (by kernel_rfl) (Or.inl ⟨by first | rfl | kernel_rfl, ?_⟩) hHeld (fun hHeld => ?_)
        rotate_left
        · (intro w' hSw; obtain ⟨⟨⟨r1, r2, r3⟩, r4⟩, r5⟩ := hSw; (try dsimp only at r1 r2 r3 r4); clear r5; go_simp; try with_reducible rfl)
        try simp only [Act.put, List.setIfInBounds_toArray, List.set_cons_zero, List.set_cons_succ, List.getElem_toArray, List.getElem_cons_succ, List.getElem_cons_zero]
        refine wpTill_one (i := 6) (by kernel_rfl) rfl (fun K hK => ?_)
        rw [if_pos (by kernel_rfl)]
        go_simp
        refine (D.out _ HD).mono ?_
        rintro e1 w5 ⟨rfl, S5, l5, H5, p0, p1⟩
        have r5 := CC.out _ H5.out.bel
        obtain ⟨b5, c5, rc, RF, hl⟩ := pl_ref H5
        refine hK _ _ ⟨⟨r5, trivial⟩, fun _ => trivial⟩ (fun hHeld => ?_)
        clear hK K hHeld
        try simp only [Act.put, List.setIfInBounds_toArray, List.set_cons_zero, List.set_cons_succ, List.getElem_toArray, List.getElem_cons_succ, List.getElem_cons_zero]
        refine till_mono (A' := fun w' => (w'.cell? ⟨b, off + k * 3, none⟩ = some (.int .i64 x0) ∧ w'.cell? ⟨b, off + k * 3 + 1, none⟩ = some (.int .i64 x1) ∧ w'.cell? ⟨b, off + k * 3 + 2, none⟩ = some (.int .i64 x2)) ∧ (∀ i, w'.cell? ⟨rb, i, none⟩ = (#[.slice b5 S5.length c5, .int .i64 l5, .int .i64 q] : Array Value)[i]?)) (fun w h => ⟨h.1, trivial⟩) _ _ _ _ ?_
        have hHeld : Till (fun w' => (w'.cell? ⟨b, off + k * 3, none⟩ = some (.int .i64 x0) ∧ w'.cell? ⟨b, off + k * 3 + 1, none⟩ = some (.int .i64 x1) ∧ w'.cell? ⟨b, off + k * 3 + 2, none⟩ = some (.int .i64 x2)) ∧ (∀ i, w'.cell? ⟨rb, i, none⟩ = (#[.slice b5 S5.length c5, .int .i64 l5, .int .i64 q] : Array Value)[i]?)) (fun _ => True) 10 #[true, true, true, true, true, true, true, false, false, false, false, false, false, false, false, false, false, false] w5 := ⟨⟨r5, rc⟩, fun _ => trivial⟩
        refine HeldT.wpTill_takeT false (i := 7) (v := ?_) rfl (by kernel_rfl) (by kernel_rfl) (by kernel_rfl) (fun _ _ _ h => h) (by kernel_rfl) (Or.inl ⟨by first | rfl | kernel_rfl, ?_⟩) hHeld (fun hHeld => ?_)
        rotate_left
        · (intro w' hSw; obtain ⟨⟨⟨r1, r2, r3⟩, r4⟩, r5⟩ := hSw; (try dsimp only at r1 r2 r3 r4); clear r5; go_simp; try with_reducible rfl)
        try simp only [Act.put, List.setIfInBounds_toArray, List.set_cons_zero, List.set_cons_succ, List.getElem_toArray, List.getElem_cons_succ, List.getElem_cons_zero]
        refine HeldT.wpTill_takeT false (i := 8) (v := ?_) rfl (by kernel_rfl) (by kernel_rfl) (by kernel_rfl) (fun _ _ _ h => h) (by kernel_rfl) (Or.inl ⟨by first | rfl | kernel_rfl, ?_⟩) hHeld (fun hHeld => ?_)
        rotate_left
        · (intro w' hSw; obtain ⟨⟨⟨r1, r2, r3⟩, r4⟩, r5⟩ := hSw; (try dsimp only at r1 r2 r3 r4); clear r5; go_simp; try with_reducible rfl)
        try simp only [Act.put, List.setIfInBounds_toArray, List.set_cons_zero, List.set_cons_succ, List.getElem_toArray, List.getElem_cons_succ, List.getElem_cons_zero]
        refine HeldT.wpTill_takeT false (i := 9) (v := ?_) rfl (by kernel_rfl) (by kernel_rfl) (by kernel_rfl) (fun _ _ _ h => h) (by kernel_rfl) (Or.inl ⟨by first | rfl | kernel_rfl, ?_⟩) hHeld (fun hHeld => ?_)
        rotate_left
        · (intro w' hSw; obtain ⟨⟨⟨r1, r2, r3⟩, r4⟩, r5⟩ := hSw; (try dsimp only at r1 r2 r3 r4); clear r5; go_simp; try with_reducible rfl)
        try simp only [Act.put, List.setIfInBounds_toArray, List.set_cons_zero, List.set_cons_succ, List.getElem_toArray, List.getElem_cons_succ, List.getElem_cons_zero]
        refine HeldT.wpTill_takeT false (i := 11) (v := ?_) rfl (by kernel_rfl) (by kernel_rfl) (by kernel_rfl) (fun _ _ _ h => h) (by kernel_rfl) (Or.inl ⟨by first | rfl | kernel_rfl, ?_⟩) hHeld (fun hHeld => ?_)
        rotate_left
        · (intro w' hSw; obtain ⟨⟨⟨r1, r2, r3⟩, r4⟩, r5⟩ := hSw; (try dsimp only at r1 r2 r3 r4); clear r5; go_simp; try with_reducible rfl)
        try simp only [Act.put, List.setIfInBounds_toArray, List.set_cons_zero, List.set_cons_succ, List.getElem_toArray, List.getElem_cons_succ, List.getElem_cons_zero]
        refine HeldT.wpTill_takeT false (i := 12) (v := ?_) rfl (by kernel_rfl) (by kernel_rfl) (by kernel_rfl) (fun _ _ _ h => h) (by kernel_rfl) (Or.inl ⟨by first | rfl | kernel_rfl, ?_⟩) hHeld (fun hHeld => ?_)
        rotate_left
        · (intro w' hSw; obtain ⟨⟨⟨r1, r2, r3⟩, r4⟩, r5⟩ := hSw; (try dsimp only at r1 r2 r3 r4); clear r5; go_simp; try with_reducible rfl)
        try simp only [Act.put, List.setIfInBounds_toArray, List.set_cons_zero, List.set_cons_succ, List.getElem_toArray, List.getElem_cons_succ, List.getElem_cons_zero]
        refine HeldT.wpTill_takeT false (i := 13) (v := ?_) rfl (by kernel_rfl) (by kernel_rfl) (by kernel_rfl) (fun _ _ _ h => h) (by kernel_rfl) (Or.inl ⟨by first | rfl | kernel_rfl, ?_⟩) hHeld (fun hHeld => ?_)
        rotate_left
        · (intro w' hSw; obtain ⟨⟨⟨r1, r2, r3⟩, r4⟩, r5⟩ := hSw; (try dsimp only at r1 r2 r3 r4); clear r5; go_simp; try with_reducible rfl)
        try simp only [Act.put, List.setIfInBounds_toArray, List.set_cons_zero, List.set_cons_succ, List.getElem_toArray, List.getElem_cons_succ, List.getElem_cons_zero]
        refine HeldT.wpTill_takeT false (i := 14) (v := ?_) rfl (by kernel_rfl) (by kernel_rfl) (by kernel_rfl) (fun _ _ _ h => h) (by kernel_rfl) (Or.inl ⟨by first | rfl | kernel_rfl, ?_⟩) hHeld (fun hHeld => ?_)
        rotate_left
        · (intro w' hSw; obtain ⟨⟨⟨r1, r2, r3⟩, r4⟩, r5⟩ := hSw; (try dsimp only at r1 r2 r3 r4); clear r5; go_simp; try with_reducible rfl)
        try simp only [Act.put, List.setIfInBounds_toArray, List.set_cons_zero, List.set_cons_succ, List.getElem_toArray, List.getElem_cons_succ, List.getElem_cons_zero]
        refine HeldT.wpTill_takeT false (i := 15) (v := ?_) rfl (by kernel_rfl) (by kernel_rfl) (by kernel_rfl) (fun _ _ _ h => h) (by kernel_rfl) (Or.inl ⟨by first | rfl | kernel_rfl, ?_⟩) hHeld (fun hHeld => ?_)
        rotate_left
        · (intro w' hSw; obtain ⟨⟨⟨r1, r2, r3⟩, r4⟩, r5⟩ := hSw; (try dsimp only at r1 r2 r3 r4); clear r5; go_simp; try with_reducible rfl)
        try simp only [Act.put, List.setIfInBounds_toArray, List.set_cons_zero, List.set_cons_succ, List.getElem_toArray, List.getElem_cons_succ, List.getElem_cons_zero]
        refine wpTill_one (i := 10) (by kernel_rfl) rfl (fun K hK => ?_)
        rw [if_pos (by kernel_rfl)]
        go_simp
        refine (LenP H5).mono ?_
        rintro e1 w6 ⟨rfl, e9⟩
        cases e9
        refine hK _ _ ⟨⟨r5, rc⟩, fun _ => trivial⟩ (fun hHeld => ?_)
        clear hK K
        try simp only [Act.put, List.setIfInBounds_toArray, List.set_cons_zero, List.set_cons_succ, List.getElem_toArray, List.getElem_cons_succ, List.getElem_cons_zero]
        refine HeldT.wpTill_takeT false (i := 16) (v := ?_) rfl (by kernel_rfl) (by kernel_rfl) (by kernel_rfl) (fun _ _ _ h => h) (by kernel_rfl) (Or.inl ⟨by first | rfl | kernel_rfl, ?_⟩) hHeld (fun hHeld => ?_)
        rotate_left
        · (intro w' hSw; obtain ⟨⟨⟨r1, r2, r3⟩, r4⟩, r5⟩ := hSw; (try dsimp only at r1 r2 r3 r4); clear r5; go_simp; try with_reducible rfl)
        try simp only [Act.put, List.setIfInBounds_toArray, List.set_cons_zero, List.set_cons_succ, List.getElem_toArray, List.getElem_cons_succ, List.getElem_cons_zero]
        refine HeldT.wpTill_takeT false (i := 17) (v := ?_) rfl (by kernel_rfl) (by kernel_rfl) (by kernel_rfl) (fun _ _ _ h => h) (by kernel_rfl) (Or.inl ⟨by first | rfl | kernel_rfl, ?_⟩) hHeld (fun hHeld => ?_)
        rotate_left
        · (intro w' hSw; obtain ⟨⟨⟨r1, r2, r3⟩, r4⟩, r5⟩ := hSw; (try dsimp only at r1 r2 r3 r4); clear r5; go_simp; try with_reducible rfl)
        try simp only [Act.put, List.setIfInBounds_toArray, List.set_cons_zero, List.set_cons_succ, List.getElem_toArray, List.getElem_cons_succ, List.getElem_cons_zero]
        refine wpTill_done (by kernel_rfl) ?_ 0
        clear hHeld
        all_goals
          clear r5 bd HD D CC
          obtain ⟨⟨x, bb⟩, hx⟩ : ∃ z, nxt S5 = z := ⟨_, rfl⟩
          have N := Lib.hid (NextP H5 x bb (Lib.hid hx))
          unfold nxt at hx
          by_cases hz : S5.length = 0
          · rw [if_pos hz, Prod.mk.injEq] at hx
            obtain ⟨rfl, hx2⟩ := hx
            subst hx2
            rw [hz] at rc
            clear hz RF
            go_wp2_with fail
            refine N.out.mono ?_
            rintro e w6 ⟨rfl, e9⟩
            cases e9
            go_wp2_with fail
            go_roundw
            case rel => exact ⟨k + 1, by omega, by omega, by simp, S5, l5, H5, p0, by omega⟩
            case measure => simp [intOf]; omega
          · rw [if_neg hz, Prod.mk.injEq] at hx
            obtain ⟨hx1, hx2⟩ := hx
            subst hx2
            obtain ⟨⟨y0, y1, y2⟩, hy⟩ : ∃ y, at_ S5 0 = y := ⟨_, rfl⟩
            rw [hy] at hx1
            dsimp only at hx1
            subst hx1
            obtain ⟨g, e5, -, hg, d0, -, -⟩ := rent RF 0 (by omega) (Lib.hid hy)
            subst e5
            rw [Nat.zero_mul] at d0
            clear hy RF
            have hp : 0 < S5.length := by omega
            clear hz
            generalize S5.length = n5 at *
            have hp2 : (0 : Int) < (n5 : Int) := by omega
            go_wp2_with fail
            refine N.out.mono ?_
            rintro e w6 ⟨rfl, e9⟩
            cases e9
            go_wp2_with fail
            go_roundw
            case rel => exact ⟨k + 1, by omega, by omega, by simp, S5, l5, H5, p0, by omega⟩
            case measure => simp [intOf]; omega
      · obtain rfl : k = 100 := by omega
        obtain ⟨b, c, rc, RF, hl⟩ := pl_ref H
        clear hin
        go_wp2_with fail
        replace H := pl_next H ((Below.refl _ wr).drew)
        replace RF := rf_next RF ((Below.refl _ wr).drew)
        refine wp_region_till (fun w' => (∀ i, w'.cell? ⟨rb, i, none⟩ = (#[.slice b S.length c, .int .i64 l, .int .i64 q] : Array Value)[i]?) ∧ True) (fun _ => True) 6 8 #[false, false, false, false, false, false, false, false] (by kernel_rfl) rfl rfl ⟨⟨RF.out.box.cell, trivial⟩, trivial⟩ (fun hHeld => ?_)
        generalize wr.drew = W2 at *
        clear rc
        refine HeldT.wpTill_takeT false (i := 0) (v := ?_) rfl (by kernel_rfl) (by kernel_rfl) (by kernel_rfl) (fun _ _ _ h => h) (by kernel_rfl) (Or.inl ⟨by first | rfl | kernel_rfl, ?_⟩) hHeld (fun hHeld => ?_)
        rotate_left
        · (intro w' hSw; obtain ⟨⟨r1, r2⟩, r3⟩ := hSw; (try have r4 := r3 rfl); (try dsimp only at r1 r2 r4); clear r3; go_simp; try with_reducible rfl)
        try simp only [Act.put, List.setIfInBounds_toArray, List.set_cons_zero, List.set_cons_succ, List.getElem_toArray, List.getElem_cons_succ, List.getElem_cons_zero]
        refine HeldT.wpTill_takeT false (i := 2) (v := ?_) rfl (by kernel_rfl) (by kernel_rfl) (by kernel_rfl) (fun _ _ _ h => h) (by kernel_rfl) (Or.inl ⟨by first | rfl | kernel_rfl, ?_⟩) hHeld (fun hHeld => ?_)
        rotate_left
        · (intro w' hSw; obtain ⟨⟨r1, r2⟩, r3⟩ := hSw; (try have r4 := r3 rfl); (try dsimp only at r1 r2 r4); clear r3; go_simp; try with_reducible rfl)
        try simp only [Act.put, List.setIfInBounds_toArray, List.set_cons_zero, List.set_cons_succ, List.getElem_toArray, List.getElem_cons_succ, List.getElem_cons_zero]
        refine HeldT.wpTill_takeT false (i := 3) (v := ?_) rfl (by kernel_rfl) (by kernel_rfl) (by kernel_rfl) (fun _ _ _ h => h) (by kernel_rfl) (Or.inl ⟨by first | rfl | kernel_rfl, ?_⟩) hHeld (fun hHeld => ?_)
        rotate_left
        · (intro w' hSw; obtain ⟨⟨r1, r2⟩, r3⟩ := hSw; (try have r4 := r3 rfl); (try dsimp only at r1 r2 r4); clear r3; go_simp; try with_reducible rfl)
        try simp only [Act.put, List.setIfInBounds_toArray, List.set_cons_zero, List.set_cons_succ, List.getElem_toArray, List.getElem_cons_succ, List.getElem_cons_zero]
        refine HeldT.wpTill_takeT false (i := 4) (v := ?_) rfl (by kernel_rfl) (by kernel_rfl) (by kernel_rfl) (fun _ _ _ h => h) (by kernel_rfl) (Or.inl ⟨by first | rfl | kernel_rfl, ?_⟩) hHeld (fun hHeld => ?_)
        rotate_left
        · (intro w' hSw; obtain ⟨⟨r1, r2⟩, r3⟩ := hSw; (try have r4 := r3 rfl); (try dsimp only at r1 r2 r4); clear r3; go_simp; try with_reducible rfl)
        try simp only [Act.put, List.setIfInBounds_toArray, List.set_cons_zero, List.set_cons_succ, List.getElem_toArray, List.getElem_cons_succ, List.getElem_cons_zero]
        refine HeldT.wpTill_takeT false (i := 5) (v := ?_) rfl (by kernel_rfl) (by kernel_rfl) (by kernel_rfl) (fun _ _ _ h => h) (by kernel_rfl) (Or.inl ⟨by first | rfl | kernel_rfl, ?_⟩) hHeld (fun hHeld => ?_)
        rotate_left
        · (intro w' hSw; obtain ⟨⟨r1, r2⟩, r3⟩ := hSw; (try have r4 := r3 rfl); (try dsimp only at r1 r2 r4); clear r3; go_simp; try with_reducible rfl)
        try simp only [Act.put, List.setIfInBounds_toArray, List.set_cons_zero, List.set_cons_succ, List.getElem_toArray, List.getElem_cons_succ, List.getElem_cons_zero]
        refine wpTill_one (i := 1) (by kernel_rfl) rfl (fun K hK => ?_)
        rw [if_pos (by kernel_rfl)]
        go_simp
        refine (AllP H).mono ?_
        rintro e w7 ⟨v7, rfl, o7, k7⟩
        have R7 := Lib.hid o7
        have RF7 := rf_next RF k7
        have H7 := pl_next H k7
        clear o7 k7
        refine hK _ _ ⟨⟨RF7.out.box.cell, trivial⟩, fun _ => trivial⟩ (fun hHeld => ?_)
        clear hK K
        try simp only [Act.put, List.setIfInBounds_toArray, List.set_cons_zero, List.set_cons_succ, List.getElem_toArray, List.getElem_cons_succ, List.getElem_cons_zero]
        refine wpTill_one (i := 6) (by kernel_rfl) rfl (fun K hK => ?_)
        rw [if_pos (by kernel_rfl)]
        go_simp
        refine (same_any _ _ v7 (.slice b S.length c) S _ R7 (Lib.hid RF7.out.own) hl).mono ?_
        rintro e w9 ⟨rfl, k9⟩
        have RF9 := rf_next RF7 k9
        have H9 := pl_next H7 k9
        refine hK _ _ ⟨⟨RF9.out.box.cell, trivial⟩, fun _ => trivial⟩ (fun hHeld => ?_)
        clear hK K
        try simp only [Act.put, List.setIfInBounds_toArray, List.set_cons_zero, List.set_cons_succ, List.getElem_toArray, List.getElem_cons_succ, List.getElem_cons_zero]
        refine HeldT.wpTill_takeT false (i := 7) (v := ?_) rfl (by kernel_rfl) (by kernel_rfl) (by kernel_rfl) (fun _ _ _ h => h) (by kernel_rfl) (Or.inl ⟨by first | rfl | kernel_rfl, ?_⟩) hHeld (fun hHeld => ?_)
        rotate_left
        · (intro w' hSw; obtain ⟨⟨r1, r2⟩, r3⟩ := hSw; (try have r4 := r3 rfl); (try dsimp only at r1 r2 r4); clear r3; go_simp; try with_reducible rfl)
        try simp only [Act.put, List.setIfInBounds_toArray, List.set_cons_zero, List.set_cons_succ, List.getElem_toArray, List.getElem_cons_succ, List.getElem_cons_zero]
        refine wpTill_done (by kernel_rfl) ?_ 0
        clear hHeld
        go_wp2_with fail
        go_ret
        exact ⟨rfl, H9.out.bel⟩
    · obtain rfl : k = n := by omega
      obtain ⟨b, c, rc, RF, hl⟩ := pl_ref H
      clear hin
      go_wp2_with fail
      replace H := pl_next H ((Below.refl _ wr).drew)
      replace RF := rf_next RF ((Below.refl _ wr).drew)
      refine wp_region_till (fun w' => (∀ i, w'.cell? ⟨rb, i, none⟩ = (#[.slice b S.length c, .int .i64 l, .int .i64 q] : Array Value)[i]?) ∧ True) (fun _ => True) 6 8 #[false, false, false, false, false, false, false, false] (by kernel_rfl) rfl rfl ⟨⟨RF.out.box.cell, trivial⟩, trivial⟩ (fun hHeld => ?_)
      generalize wr.drew = W2 at *
      clear rc
      refine HeldT.wpTill_takeT false (i := 0) (v := ?_) rfl (by kernel_rfl) (by kernel_rfl) (by kernel_rfl) (fun _ _ _ h => h) (by kernel_rfl) (Or.inl ⟨by first | rfl | kernel_rfl, ?_⟩) hHeld (fun hHeld => ?_)
      rotate_left
      · (intro w' hSw; obtain ⟨⟨r1, r2⟩, r3⟩ := hSw; (try have r4 := r3 rfl); (try dsimp only at r1 r2 r4); clear r3; go_simp; try with_reducible rfl)
      try simp only [Act.put, List.setIfInBounds_toArray, List.set_cons_zero, List.set_cons_succ, List.getElem_toArray, List.getElem_cons_succ, List.getElem_cons_zero]
      refine HeldT.wpTill_takeT false (i := 2) (v := ?_) rfl (by kernel_rfl) (by kernel_rfl) (by kernel_rfl) (fun _ _ _ h => h) (by kernel_rfl) (Or.inl ⟨by first | rfl | kernel_rfl, ?_⟩) hHeld (fun hHeld => ?_)
      rotate_left
      · (intro w' hSw; obtain ⟨⟨r1, r2⟩, r3⟩ := hSw; (try have r4 := r3 rfl); (try dsimp only at r1 r2 r4); clear r3; go_simp; try with_reducible rfl)
      try simp only [Act.put, List.setIfInBounds_toArray, List.set_cons_zero, List.set_cons_succ, List.getElem_toArray, List.getElem_cons_succ, List.getElem_cons_zero]
      refine HeldT.wpTill_takeT false (i := 3) (v := ?_) rfl (by kernel_rfl) (by kernel_rfl) (by kernel_rfl) (fun _ _ _ h => h) (by kernel_rfl) (Or.inl ⟨by first | rfl | kernel_rfl, ?_⟩) hHeld (fun hHeld => ?_)
      rotate_left
      · (intro w' hSw; obtain ⟨⟨r1, r2⟩, r3⟩ := hSw; (try have r4 := r3 rfl); (try dsimp only at r1 r2 r4); clear r3; go_simp; try with_reducible rfl)
      try simp only [Act.put, List.setIfInBounds_toArray, List.set_cons_zero, List.set_cons_succ, List.getElem_toArray, List.getElem_cons_succ, List.getElem_cons_zero]
      refine HeldT.wpTill_takeT false (i := 4) (v := ?_) rfl (by kernel_rfl) (by kernel_rfl) (by kernel_rfl) (fun _ _ _ h => h) (by kernel_rfl) (Or.inl ⟨by first | rfl | kernel_rfl, ?_⟩) hHeld (fun hHeld => ?_)
      rotate_left
      · (intro w' hSw; obtain ⟨⟨r1, r2⟩, r3⟩ := hSw; (try have r4 := r3 rfl); (try dsimp only at r1 r2 r4); clear r3; go_simp; try with_reducible rfl)
      try simp only [Act.put, List.setIfInBounds_toArray, List.set_cons_zero, List.set_cons_succ, List.getElem_toArray, List.getElem_cons_succ, List.getElem_cons_zero]
      refine HeldT.wpTill_takeT false (i := 5) (v := ?_) rfl (by kernel_rfl) (by kernel_rfl) (by kernel_rfl) (fun _ _ _ h => h) (by kernel_rfl) (Or.inl ⟨by first | rfl | kernel_rfl, ?_⟩) hHeld (fun hHeld => ?_)
      rotate_left
      · (intro w' hSw; obtain ⟨⟨r1, r2⟩, r3⟩ := hSw; (try have r4 := r3 rfl); (try dsimp only at r1 r2 r4); clear r3; go_simp; try with_reducible rfl)
      try simp only [Act.put, List.setIfInBounds_toArray, List.set_cons_zero, List.set_cons_succ, List.getElem_toArray, List.getElem_cons_succ, List.getElem_cons_zero]
      refine wpTill_one (i := 1) (by kernel_rfl) rfl (fun K hK => ?_)
      rw [if_pos (by kernel_rfl)]
      go_simp
      refine (AllP H).mono ?_
      rintro e w7 ⟨v7, rfl, o7, k7⟩
      have R7 := Lib.hid o7
      have RF7 := rf_next RF k7
      have H7 := pl_next H k7
      clear o7 k7
      refine hK _ _ ⟨⟨RF7.out.box.cell, trivial⟩, fun _ => trivial⟩ (fun hHeld => ?_)
      clear hK K
      try simp only [Act.put, List.setIfInBounds_toArray, List.set_cons_zero, List.set_cons_succ, List.getElem_toArray, List.getElem_cons_succ, List.getElem_cons_zero]
      refine wpTill_one (i := 6) (by kernel_rfl) rfl (fun K hK => ?_)
      rw [if_pos (by kernel_rfl)]
      go_simp
      refine (same_any _ _ v7 (.slice b S.length c) S _ R7 (Lib.hid RF7.out.own) hl).mono ?_
      rintro e w9 ⟨rfl, k9⟩
      have RF9 := rf_next RF7 k9
      have H9 := pl_next H7 k9
      refine hK _ _ ⟨⟨RF9.out.box.cell, trivial⟩, fun _ => trivial⟩ (fun hHeld => ?_)
      clear hK K
      try simp only [Act.put, List.setIfInBounds_toArray, List.set_cons_zero, List.set_cons_succ, List.getElem_toArray, List.getElem_cons_succ, List.getElem_cons_zero]
      refine HeldT.wpTill_takeT false (i := 7) (v := ?_) rfl (by kernel_rfl) (by kernel_rfl) (by kernel_rfl) (fun _ _ _ h => h) (by kernel_rfl) (Or.inl ⟨by first | rfl | kernel_rfl, ?_⟩) hHeld (fun hHeld => ?_)
      rotate_left
      · (intro w' hSw; obtain ⟨⟨r1, r2⟩, r3⟩ := hSw; (try have r4 := r3 rfl); (try dsimp only at r1 r2 r4); clear r3; go_simp; try with_reducible rfl)
      try simp only [Act.put, List.setIfInBounds_toArray, List.set_cons_zero, List.set_cons_succ, List.getElem_toArray, List.getElem_cons_succ, List.getElem_cons_zero]
      refine wpTill_done (by kernel_rfl) ?_ 0
      clear hHeld
      go_wp2_with fail
      go_ret
      exact ⟨rfl, H9.out.bel⟩
end Go.Proofs.Ytlafeijkpnpdeaa.Agzh

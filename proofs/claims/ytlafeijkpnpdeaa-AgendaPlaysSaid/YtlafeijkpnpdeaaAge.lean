/- Package agenda: out. -/
import Derived.Test.YtlafeijkpnpdeaaAgd
namespace Go.Proofs.Ytlafeijkpnpdeaa.Age
open Go.RowKit Base Kit Alt Held Agp Aga Agb Agc Agd
set_option linter.unusedVariables false
set_option linter.unusedSimpArgs false
attribute [local go_sem ↓] Go.wp_at_zero Go.wp_at_succ
theorem own_take {w : World} {base g n cap : Nat} {e : TypeId} {size : Nat} {xs : List Value} (h : w.ownsRow base e size (.slice (some ⟨g, 0, none⟩) n cap) n xs) (m : Nat) (hm : m ≤ n) : w.ownsRow base e size (.slice (some ⟨g, 0, none⟩) m cap) m (xs.take (m * size)) := by
  obtain ⟨h1, h2⟩ := h
  have hmul := Nat.mul_le_mul_right size hm
  refine ⟨by rw [List.length_take, h1]; omega, ?_⟩
  rcases h2 with ⟨h2, _⟩ | ⟨g', cap', cur, hv, hb, hh, hc, hx, hs, ht⟩
  · simp at h2
  · simp only [Value.slice.injEq, Option.some.injEq, Addr.mk.injEq, and_true, true_and] at hv
    obtain ⟨rfl, rfl⟩ := hv
    refine .inr ⟨g, cap, cur, rfl, hb, hh, by omega, hx, hs, ?_⟩
    rw [← ht, List.take_take, Nat.min_eq_left hmul]
theorem enc_take : ∀ (M : List E) (m : Nat), (encE M).take (m * 3) = encE (M.take m)
  | [], m => by simp [encE]
  | e :: M, 0 => by simp [encE]
  | e :: M, m + 1 => by
    rw [show (m + 1) * 3 = m * 3 + 3 by omega]
    simp only [encE, List.take_succ_cons, enc_take M m]
/-- an agenda, and two entries in variables -/
structure Os (w0 w : World) (ab g : Nat) (v : Value) (M : List E) (last most x0 x1 x2 : Int) : Prop where
  alt : Alt (fun k => k = g ∨ k = ab) w0 w
  ag : Hid (Ag w ab v M last most)
  rb : Box w w0.heap.size #[.int .i64 0, .int .i64 0, .int .i64 0] 33
  eb : Box w (w0.heap.size + 1) #[.int .i64 x0, .int .i64 x1, .int .i64 x2] 33
  lt : g < w0.heap.size ∧ ab < w0.heap.size
theorem os_us {w0 w w1 : World} {ab g n cap : Nat} {v : Value} {M N : List E} {last most x0 x1 x2 : Int} (h : Hid (Os w0 w ab g v M last most x0 x1 x2)) (k : Hid (Us w w1 ab g n cap N last most)) : Hid (Os w0 w1 ab g (.slice (some ⟨g, 0, none⟩) n cap) N last most x0 x1 x2) := by
  have l := h.out.lt
  exact Lib.hid ⟨h.out.alt.trans (k.out.alt.mono fun i hi => .inl hi), k.out.ag, box_alt h.out.rb k.out.alt (by omega), box_alt h.out.eb k.out.alt (by omega), l⟩
theorem os_next {w0 w w1 : World} {ab g : Nat} {v : Value} {M : List E} {last most x0 x1 x2 : Int} (h : Hid (Os w0 w ab g v M last most x0 x1 x2)) (k : Below w.heap.size w w1) : Hid (Os w0 w1 ab g v M last most x0 x1 x2) :=
  Lib.hid ⟨h.out.alt.trans (Alt.of_below k), ag_next h.out.ag k, h.out.rb.next k, h.out.eb.next k, h.out.lt⟩
theorem os_set {w0 w : World} {ab g n cap : Nat} {M : List E} {last most x0 x1 x2 : Int} (h : Hid (Os w0 w ab g (.slice (some ⟨g, 0, none⟩) n cap) M last most x0 x1 x2)) (i : Nat) (y0 y1 y2 : Int) (hne : g ≠ ab) :
    Hid (Os w0 (((w.setCell ⟨g, i * 3, none⟩ (.int .i64 y0)).setCell ⟨g, i * 3 + 1, none⟩ (.int .i64 y1)).setCell ⟨g, i * 3 + 2, none⟩ (.int .i64 y2)) ab g (.slice (some ⟨g, 0, none⟩) n cap) (M.set i (y0, y1, y2)) last most x0 x1 x2) := by
  have A : Alt (fun k => k = g) w (((w.setCell ⟨g, i * 3, none⟩ (.int .i64 y0)).setCell ⟨g, i * 3 + 1, none⟩ (.int .i64 y1)).setCell ⟨g, i * 3 + 2, none⟩ (.int .i64 y2)) := by
    iterate 3 (refine alt_set ?_)
    exact Alt.refl _ _
  have o := h.out.ag.out.own
  obtain rfl := own_len o
  have o2 := (((o.stored (i * 3) (.int .i64 y0)).1.stored (i * 3 + 1) (.int .i64 y1)).1.stored (i * 3 + 2) (.int .i64 y2)).1
  refine os_us h (n := M.length) (cap := cap) (Lib.hid ⟨A, Lib.hid ⟨box_alt h.out.ag.out.box A (fun z => hne z.symm), ?_, by rw [List.length_set]; exact h.out.ag.out.len⟩⟩)
  rw [List.length_set, enc_set]
  exact o2
theorem os_cut {w0 w : World} {ab g m cap : Nat} {M : List E} {last most x0 x1 x2 : Int} (h : Hid (Os w0 w ab g (.slice (some ⟨g, 0, none⟩) (m + 1) cap) M last most x0 x1 x2)) (hne : g ≠ ab) : Hid (Os w0 (w.setCell ⟨ab, 0, none⟩ (.slice (some ⟨g, 0, none⟩) m cap)) ab g (.slice (some ⟨g, 0, none⟩) m cap) M.dropLast last most x0 x1 x2) := by
  have l := h.out.lt
  have o := h.out.ag.out.own
  have e := own_len o
  rw [← e] at o
  have o2 := own_take o m (by omega)
  rw [enc_take, show M.take m = M.dropLast by rw [List.dropLast_eq_take]; congr 1; omega] at o2
  have A : Alt (fun k => k = ab) w (w.setCell ⟨ab, 0, none⟩ (.slice (some ⟨g, 0, none⟩) m cap)) := Alt.set _ _ _ rfl
  have hm : M.dropLast.length = m := by rw [List.length_dropLast]; omega
  refine Lib.hid ⟨h.out.alt.trans (A.mono fun i hi => .inr hi), Lib.hid ⟨?_, ?_, by rw [hm]; have := h.out.ag.out.len; omega⟩, box_alt h.out.rb A (by omega), box_alt h.out.eb A (by omega), l⟩
  · exact h.out.ag.out.box.set 0 _
  · rw [hm]
    exact own_alt o2 A (fun z => hne z)
theorem alt_new {S : Nat → Prop} {w w1 : World} (h : Alt S w w1) {b i : Nat} {v : Value} (hb : w.heap.size ≤ b) : Alt S w (w1.setCell ⟨b, i, none⟩ v) :=
  ⟨h.os, h.tape, h.output, by simpa [World.setCell] using h.size, fun k hk hs => (Below.heap_setCell _ _ _ _ (by simp only; omega)).trans (h.block k hk hs)⟩
theorem os_ret {w0 w : World} {ab g n cap : Nat} {M : List E} {last most x0 x1 x2 : Int} (h : Hid (Os w0 w ab g (.slice (some ⟨g, 0, none⟩) n cap) M last most x0 x1 x2)) (y0 y1 y2 : Int) :
    Alt (fun k => k = g ∨ k = ab) w0 (((w.setCell ⟨w0.heap.size, 0, none⟩ (.int .i64 y0)).setCell ⟨w0.heap.size, 1, none⟩ (.int .i64 y1)).setCell ⟨w0.heap.size, 2, none⟩ (.int .i64 y2)) ∧ Hid (Ag (((w.setCell ⟨w0.heap.size, 0, none⟩ (.int .i64 y0)).setCell ⟨w0.heap.size, 1, none⟩ (.int .i64 y1)).setCell ⟨w0.heap.size, 2, none⟩ (.int .i64 y2)) ab (.slice (some ⟨g, 0, none⟩) n cap) M last most) := by
  have l := h.out.lt
  refine ⟨alt_new (alt_new (alt_new h.out.alt (Nat.le_refl _)) (Nat.le_refl _)) (Nat.le_refl _), ?_⟩
  have A : Alt (fun k => k = w0.heap.size) w (((w.setCell ⟨w0.heap.size, 0, none⟩ (.int .i64 y0)).setCell ⟨w0.heap.size, 1, none⟩ (.int .i64 y1)).setCell ⟨w0.heap.size, 2, none⟩ (.int .i64 y2)) := by
    iterate 3 (refine alt_set ?_)
    exact Alt.refl _ _
  have o := h.out.ag.out.own
  obtain rfl := own_len o
  exact Lib.hid ⟨box_alt h.out.ag.out.box A (by omega), own_alt o A (by omega), h.out.ag.out.len⟩
set_option maxRecDepth 100000 in
set_option maxHeartbeats 2000000 in
theorem out_any (ab g m cap : Nat) (L : List E) (last most : Int) (i : Nat) (x0 x1 x2 : Int) (w : World) (h : Hid (Ag w ab (.slice (some ⟨g, 0, none⟩) (m + 1) cap) L last most)) (hi : i < L.length) (hx : Hid (at_ L i = (x0, x1, x2))) :
    Calls Try.prog 21 #[.pointer (some ⟨ab, 0, none⟩), .int .i64 i] w fun e w' => e = .returned (.agg #[.int .i64 x0, .int .i64 x1, .int .i64 x2]) ∧ Alt (fun k => k = g ∨ k = ab) w w' ∧ Hid (Ag w' ab (.slice (some ⟨g, 0, none⟩) m cap) (outF L i) last most) := by
  have hn := own_len h.out.own
  have hlen := h.out.len
  have o := h.out.own
  rw [← hn] at o
  have hne := Lib.hid (own_ne o h.out.box (by decide))
  have hgl := (o.lt g rfl).2
  have hal := h.out.box.lt
  have hm1 : m ≤ 1000 := by omega
  have hmc : m ≤ cap := by
    rcases o.2 with ⟨h', _⟩ | ⟨g', cap', cur, h', _, _, hc, _⟩
    · simp at h'
    · simp only [Value.slice.injEq] at h'; omega
  have him : i < m + 1 := by omega
  have S : Hid (Os w ((w.alloc (.cells #[.int .i64 0, .int .i64 0, .int .i64 0] 33)).alloc (.cells #[.int .i64 x0, .int .i64 x1, .int .i64 x2] 33)) ab g (.slice (some ⟨g, 0, none⟩) (m + 1) cap) L last most x0 x1 x2) := Lib.hid
    ⟨((Alt.refl _ _).trans (Alt.alloc _ _)).trans (Alt.alloc _ _), ag_next (ag_next h ((Below.refl _ _).alloc (Nat.le_refl _) _)) ((Below.refl _ _).alloc (Nat.le_refl _) _), (Box.new _ _ _).alloc _, box_new1 _ _ _ _, hgl, hal⟩
  have bc := h.out.box.cell
  obtain ⟨c0, c1, c2⟩ := ent_cells h i hi hx
  obtain ⟨⟨y0, y1, y2⟩, hy⟩ : ∃ x, at_ L m = x := ⟨_, rfl⟩
  have CY := Lib.hid (fun w' (h : Hid (Ag w' ab (.slice (some ⟨g, 0, none⟩) (m + 1) cap) L last most)) => ent_cells h m (by omega) (Lib.hid hy))
  have HF : Hid (outF L i = dnF (upF ((L.set i (y0, y1, y2)).dropLast) (min i (m - 1))) i) := Lib.hid (by unfold outF; rw [← hn, Nat.add_sub_cancel, hy])
  have HL : Hid (L.length = m + 1) := Lib.hid hn.symm
  have HX := hx
  clear h hn hlen o hi hx hy
  go_enter Try.func21, Try.ntmps21
  go_wp2_with fail
  generalize (w.alloc (.cells #[.int .i64 0, .int .i64 0, .int .i64 0] 33)).alloc (.cells #[.int .i64 x0, .int .i64 x1, .int .i64 x2] 33) = W at *
  clear bc c0 c1 c2
  have S := os_next S (Below.refl _ _).drew
  obtain ⟨uy0, uy1, uy2⟩ := CY.out _ S.out.ag
  obtain ⟨ux0, ux1, ux2⟩ : EC W.drew g i x0 x1 x2 := ent_cells S.out.ag i (by have := HL.out; omega) HX
  have fz := (by have o := S.out.ag.out.own; rw [← own_len o] at o; exact o.frozenAt : ∀ j, W.drew.frozen? ⟨g, j, none⟩ = false)
  have q1 : (m : Int) < (m : Int) + 1 := by omega
  have q2 : (i : Int) < (m : Int) + 1 := by omega
  refine wp_region_till (fun w' => (∀ i, w'.cell? ⟨ab, i, none⟩ = (#[.slice (some ⟨g, 0, none⟩) (m + 1) cap, .int .i64 last, .int .i64 most, .bool true] : Array Value)[i]?) ∧ True) (fun w' => EC w' g m y0 y1 y2) 13 14 #[false, false, false, false, false, false, false, false, false, false, false, false, false, false] (by kernel_rfl) rfl rfl ⟨⟨S.out.ag.out.box.cell, trivial⟩, uy0, uy1, uy2⟩ (fun hHeld => ?_)
  generalize W.drew = w8 at *
  have S2 := os_set S i y0 y1 y2 hne.out
  refine HeldT.wpTill_takeT false (i := 0) (v := ?_) rfl (by kernel_rfl) (by kernel_rfl) (by kernel_rfl) (fun _ _ _ h => h) (by kernel_rfl) (Or.inl ⟨by first | rfl | kernel_rfl, ?_⟩) hHeld (fun hHeld => ?_)
  rotate_left
  · (intro w' hSw; obtain ⟨⟨r1, r2⟩, r3⟩ := hSw; (try have r4 := r3 rfl); (try dsimp only at r1 r2 r4); clear r3; go_simp; try with_reducible rfl)
  try simp only [Act.put, List.setIfInBounds_toArray, List.set_cons_zero, List.set_cons_succ, List.getElem_toArray, List.getElem_cons_succ, List.getElem_cons_zero]
  refine HeldT.wpTill_takeT false (i := 1) (v := ?_) rfl (by kernel_rfl) (by kernel_rfl) (by kernel_rfl) (fun _ _ _ h => h) (by kernel_rfl) (Or.inl ⟨by first | rfl | kernel_rfl, ?_⟩) hHeld (fun hHeld => ?_)
  rotate_left
  · (intro w' hSw; obtain ⟨⟨r1, r2⟩, r3⟩ := hSw; (try have r4 := r3 rfl); (try dsimp only at r1 r2 r4); clear r3; go_simp; try with_reducible rfl)
  try simp only [Act.put, List.setIfInBounds_toArray, List.set_cons_zero, List.set_cons_succ, List.getElem_toArray, List.getElem_cons_succ, List.getElem_cons_zero]
  refine HeldT.wpTill_takeT false (i := 2) (v := ?_) rfl (by kernel_rfl) (by kernel_rfl) (by kernel_rfl) (fun _ _ _ h => h) (by kernel_rfl) (Or.inl ⟨by first | rfl | kernel_rfl, ?_⟩) hHeld (fun hHeld => ?_)
  rotate_left
  · (intro w' hSw; obtain ⟨⟨r1, r2⟩, r3⟩ := hSw; (try have r4 := r3 rfl); (try dsimp only at r1 r2 r4); clear r3; go_simp; try with_reducible rfl)
  try simp only [Act.put, List.setIfInBounds_toArray, List.set_cons_zero, List.set_cons_succ, List.getElem_toArray, List.getElem_cons_succ, List.getElem_cons_zero]
  refine HeldT.wpTill_takeT false (i := 3) (v := ?_) rfl (by kernel_rfl) (by kernel_rfl) (by kernel_rfl) (fun _ _ _ h => h) (by kernel_rfl) (Or.inl ⟨by first | rfl | kernel_rfl, ?_⟩) hHeld (fun hHeld => ?_)
  rotate_left
  · (intro w' hSw; obtain ⟨⟨r1, r2⟩, r3⟩ := hSw; (try have r4 := r3 rfl); (try dsimp only at r1 r2 r4); clear r3; go_simp; try with_reducible rfl)
  try simp only [Act.put, List.setIfInBounds_toArray, List.set_cons_zero, List.set_cons_succ, List.getElem_toArray, List.getElem_cons_succ, List.getElem_cons_zero]
  refine HeldT.wpTill_takeT false (i := 4) (v := ?_) rfl (by kernel_rfl) (by kernel_rfl) (by kernel_rfl) (fun _ _ _ h => h) (by kernel_rfl) (Or.inl ⟨by first | rfl | kernel_rfl, ?_⟩) hHeld (fun hHeld => ?_)
  rotate_left
  · (intro w' hSw; obtain ⟨⟨r1, r2⟩, r3⟩ := hSw; (try have r4 := r3 rfl); (try dsimp only at r1 r2 r4); clear r3; go_simp; try with_reducible rfl)
  try simp only [Act.put, List.setIfInBounds_toArray, List.set_cons_zero, List.set_cons_succ, List.getElem_toArray, List.getElem_cons_succ, List.getElem_cons_zero]
  refine HeldT.wpTill_takeT false (i := 5) (v := ?_) rfl (by kernel_rfl) (by kernel_rfl) (by kernel_rfl) (fun _ _ _ h => h) (by kernel_rfl) (Or.inl ⟨by first | rfl | kernel_rfl, ?_⟩) hHeld (fun hHeld => ?_)
  rotate_left
  · (intro w' hSw; obtain ⟨⟨r1, r2⟩, r3⟩ := hSw; (try have r4 := r3 rfl); (try dsimp only at r1 r2 r4); clear r3; go_simp; try with_reducible rfl)
  try simp only [Act.put, List.setIfInBounds_toArray, List.set_cons_zero, List.set_cons_succ, List.getElem_toArray, List.getElem_cons_succ, List.getElem_cons_zero]
  refine HeldT.wpTill_takeT false (i := 6) (v := ?_) rfl (by kernel_rfl) (by kernel_rfl) (by kernel_rfl) (fun _ _ _ h => h) (by kernel_rfl) (Or.inl ⟨by first | rfl | kernel_rfl, ?_⟩) hHeld (fun hHeld => ?_)
  rotate_left
  · (intro w' hSw; obtain ⟨⟨r1, r2⟩, r3⟩ := hSw; (try have r4 := r3 rfl); (try dsimp only at r1 r2 r4); clear r3; go_simp; try with_reducible rfl)
  try simp only [Act.put, List.setIfInBounds_toArray, List.set_cons_zero, List.set_cons_succ, List.getElem_toArray, List.getElem_cons_succ, List.getElem_cons_zero]
  refine HeldT.wpTill_takeT false (i := 7) (v := ?_) rfl (by kernel_rfl) (by kernel_rfl) (by kernel_rfl) (fun _ _ _ h => h) (by kernel_rfl) (Or.inl ⟨by first | rfl | kernel_rfl, ?_⟩) hHeld (fun hHeld => ?_)
  rotate_left
  · (intro w' hSw; obtain ⟨⟨r1, r2⟩, r3⟩ := hSw; (try have r4 := r3 rfl); (try dsimp only at r1 r2 r4); clear r3; go_simp; try with_reducible rfl)
  try simp only [Act.put, List.setIfInBounds_toArray, List.set_cons_zero, List.set_cons_succ, List.getElem_toArray, List.getElem_cons_succ, List.getElem_cons_zero]
  refine HeldT.wpTill_takeT false (i := 8) (v := ?_) rfl (by kernel_rfl) (by kernel_rfl) (by kernel_rfl) (fun _ _ _ h => h) (by kernel_rfl) (Or.inl ⟨by first | rfl | kernel_rfl, ?_⟩) hHeld (fun hHeld => ?_)
  rotate_left
  · (intro w' hSw; obtain ⟨⟨r1, r2⟩, r3⟩ := hSw; (try have r4 := r3 rfl); (try dsimp only at r1 r2 r4); clear r3; go_simp; try with_reducible rfl)
  try simp only [Act.put, List.setIfInBounds_toArray, List.set_cons_zero, List.set_cons_succ, List.getElem_toArray, List.getElem_cons_succ, List.getElem_cons_zero]
  refine HeldT.wpTill_takeT false (i := 9) (v := ?_) rfl (by kernel_rfl) (by kernel_rfl) (by kernel_rfl) (fun _ _ _ h => h) (by kernel_rfl) (Or.inl ⟨by first | rfl | kernel_rfl, ?_⟩) hHeld (fun hHeld => ?_)
  rotate_left
  · (intro w' hSw; obtain ⟨⟨r1, r2⟩, r3⟩ := hSw; (try have r4 := r3 rfl); (try dsimp only at r1 r2 r4); clear r3; go_simp; try with_reducible rfl)
  try simp only [Act.put, List.setIfInBounds_toArray, List.set_cons_zero, List.set_cons_succ, List.getElem_toArray, List.getElem_cons_succ, List.getElem_cons_zero]
  refine HeldT.wpTill_takeT false (i := 10) (v := ?_) rfl (by kernel_rfl) (by kernel_rfl) (by kernel_rfl) (fun _ _ _ h => h) (by kernel_rfl) (Or.inl ⟨by first | rfl | kernel_rfl, ?_⟩) hHeld (fun hHeld => ?_)
  rotate_left
  · (intro w' hSw; obtain ⟨⟨r1, r2⟩, r3⟩ := hSw; (try have r4 := r3 rfl); (try dsimp only at r1 r2 r4); clear r3; go_simp; try with_reducible rfl)
  try simp only [Act.put, List.setIfInBounds_toArray, List.set_cons_zero, List.set_cons_succ, List.getElem_toArray, List.getElem_cons_succ, List.getElem_cons_zero]
  refine HeldT.wpTill_takeT true (i := 11) (v := ?_) rfl (by kernel_rfl) (by kernel_rfl) (by kernel_rfl) (fun _ _ _ h => h) (by kernel_rfl) (Or.inl ⟨by first | rfl | kernel_rfl, ?_⟩) hHeld (fun hHeld => ?_)
  rotate_left
  · (intro w' hSw; obtain ⟨⟨r1, r2⟩, r3⟩ := hSw; obtain ⟨q0, q1, q2⟩ := r3 rfl; clear r3; go_simp; try with_reducible rfl)
  try simp only [Act.put, List.setIfInBounds_toArray, List.set_cons_zero, List.set_cons_succ, List.getElem_toArray, List.getElem_cons_succ, List.getElem_cons_zero]
  refine HeldT.wpTill_takeT false (i := 12) (v := ?_) rfl (by kernel_rfl) (by kernel_rfl) (by kernel_rfl) (fun _ _ _ h => h) (by kernel_rfl) (Or.inl ⟨by first | rfl | kernel_rfl, ?_⟩) hHeld (fun hHeld => ?_)
  rotate_left
  · (intro w' hSw; obtain ⟨⟨r1, r2⟩, r3⟩ := hSw; (try have r4 := r3 rfl); (try dsimp only at r1 r2 r4); clear r3; go_simp; try with_reducible rfl)
  try simp only [Act.put, List.setIfInBounds_toArray, List.set_cons_zero, List.set_cons_succ, List.getElem_toArray, List.getElem_cons_succ, List.getElem_cons_zero]
  refine wpTill_one (i := 13) (by kernel_rfl) rfl (fun K hK => ?_)
  rw [if_pos (by kernel_rfl)]
  go_simp
  refine hK _ _ ⟨⟨S2.out.ag.out.box.cell, trivial⟩, fun h => (by cases h)⟩ (fun hHeld => ?_)
  clear hK K
  refine wpTill_done (by kernel_rfl) ?_ 0
  clear hHeld S fz ux0 ux1 ux2 uy0 uy1 uy2 CY
  generalize ((w8.setCell ⟨g, i * 3, none⟩ (.int .i64 y0)).setCell ⟨g, i * 3 + 1, none⟩ (.int .i64 y1)).setCell ⟨g, i * 3 + 2, none⟩ (.int .i64 y2) = w9 at *
  have bc := S2.out.ag.out.box.cell
  have fz := S2.out.ag.out.box.frozen
  have S3 := os_cut S2 hne.out
  have HM : Hid ((L.set i (y0, y1, y2)).dropLast.length = m) := Lib.hid (by rw [List.length_dropLast, List.length_set, HL.out]; rfl)
  have HF2 : Hid (outF L i = dnF (upF ((L.set i (y0, y1, y2)).dropLast) (min i (m - 1))) i) := HF
  clear S2 HF HL HX
  generalize (L.set i (y0, y1, y2)).dropLast = M at *
  rcases (show (m = 0 ∧ i = 0) ∨ (1 ≤ m ∧ i + 1 ≤ m) ∨ (1 ≤ m ∧ i = m) by omega) with ⟨rfl, rfl⟩ | ⟨h1, h2⟩ | ⟨h1, rfl⟩
  · obtain ⟨p, hp⟩ : ∃ p, p = min 0 (0 - 1) := ⟨_, rfl⟩
    rw [← hp] at HF2
    obtain rfl : p = 0 := by omega
    clear hp
    go_wp2_with fail
    refine (up_any ab g _ cap _ last most 0 _ S3.out.ag (by rw [HM.out]; omega)).mono ?_
    rintro e w10 ⟨rfl, U⟩
    have S4 := os_us S3 U
    clear bc fz S3 U
    go_wp2_with fail
    have HM2 := Lib.hid ((upF_len M 0).trans HM.out)
    refine (down_any ab _ _ last most 0 _ S4.out.ag g cap (by rw [HM2.out]) (by omega)).mono ?_
    rintro e w11 ⟨rfl, U⟩
    rw [HM2.out] at U
    have S5 := os_us S4 U
    rw [← HF2.out] at S5
    have ec := S5.out.eb.cell
    have rc := S5.out.rb.cell
    have rf := S5.out.rb.frozen
    go_wp2_with fail
    have R := os_ret S5 x0 x1 x2
    have k0 : (w11.setCell ⟨w.heap.size, 0, none⟩ (.int .i64 x0)).cell? ⟨w.heap.size, 0, none⟩ = some (.int .i64 x0) := (S5.out.rb.set 0 _).cell 0
    have k1 : ((w11.setCell ⟨w.heap.size, 0, none⟩ (.int .i64 x0)).setCell ⟨w.heap.size, 1, none⟩ (.int .i64 x1)).cell? ⟨w.heap.size, 1, none⟩ = some (.int .i64 x1) := ((S5.out.rb.set 0 _).set 1 _).cell 1
    have k2 : (((w11.setCell ⟨w.heap.size, 0, none⟩ (.int .i64 x0)).setCell ⟨w.heap.size, 1, none⟩ (.int .i64 x1)).setCell ⟨w.heap.size, 2, none⟩ (.int .i64 x2)).cell? ⟨w.heap.size, 2, none⟩ = some (.int .i64 x2) := (((S5.out.rb.set 0 _).set 1 _).set 2 _).cell 2
    have k3 : (((w11.setCell ⟨w.heap.size, 0, none⟩ (.int .i64 x0)).setCell ⟨w.heap.size, 1, none⟩ (.int .i64 x1)).setCell ⟨w.heap.size, 2, none⟩ (.int .i64 x2)).cell? ⟨w.heap.size, 1, none⟩ = some (.int .i64 x1) := (((S5.out.rb.set 0 _).set 1 _).set 2 _).cell 1
    have k4 : (((w11.setCell ⟨w.heap.size, 0, none⟩ (.int .i64 x0)).setCell ⟨w.heap.size, 1, none⟩ (.int .i64 x1)).setCell ⟨w.heap.size, 2, none⟩ (.int .i64 x2)).cell? ⟨w.heap.size, 0, none⟩ = some (.int .i64 x0) := (((S5.out.rb.set 0 _).set 1 _).set 2 _).cell 0
    refine bodyPost_ret (v := .agg #[.int .i64 x0, .int .i64 x1, .int .i64 x2]) ?_ rfl ⟨rfl, R⟩
    simp [results, Try.results21, go_sem, k0, k1, k2, k3, k4]
  · obtain ⟨p, hp⟩ : ∃ p, p = min i (m - 1) := ⟨_, rfl⟩
    rw [← hp] at HF2
    obtain rfl : p = i := by omega
    clear hp
    go_wp2_with fail
    all_goals
      refine (up_any ab g _ cap _ last most p _ S3.out.ag (by rw [HM.out]; omega)).mono ?_
      rintro e w10 ⟨rfl, U⟩
      have S4 := os_us S3 U
      clear bc fz S3 U
      go_wp2_with fail
      have HM2 := Lib.hid ((upF_len M p).trans HM.out)
      refine (down_any ab _ _ last most p _ S4.out.ag g cap (by rw [HM2.out]) (by omega)).mono ?_
      rintro e w11 ⟨rfl, U⟩
      rw [HM2.out] at U
      have S5 := os_us S4 U
      rw [← HF2.out] at S5
      have ec := S5.out.eb.cell
      have rc := S5.out.rb.cell
      have rf := S5.out.rb.frozen
      go_wp2_with fail
      have R := os_ret S5 x0 x1 x2
      have k0 : (w11.setCell ⟨w.heap.size, 0, none⟩ (.int .i64 x0)).cell? ⟨w.heap.size, 0, none⟩ = some (.int .i64 x0) := (S5.out.rb.set 0 _).cell 0
      have k1 : ((w11.setCell ⟨w.heap.size, 0, none⟩ (.int .i64 x0)).setCell ⟨w.heap.size, 1, none⟩ (.int .i64 x1)).cell? ⟨w.heap.size, 1, none⟩ = some (.int .i64 x1) := ((S5.out.rb.set 0 _).set 1 _).cell 1
      have k2 : (((w11.setCell ⟨w.heap.size, 0, none⟩ (.int .i64 x0)).setCell ⟨w.heap.size, 1, none⟩ (.int .i64 x1)).setCell ⟨w.heap.size, 2, none⟩ (.int .i64 x2)).cell? ⟨w.heap.size, 2, none⟩ = some (.int .i64 x2) := (((S5.out.rb.set 0 _).set 1 _).set 2 _).cell 2
      have k3 : (((w11.setCell ⟨w.heap.size, 0, none⟩ (.int .i64 x0)).setCell ⟨w.heap.size, 1, none⟩ (.int .i64 x1)).setCell ⟨w.heap.size, 2, none⟩ (.int .i64 x2)).cell? ⟨w.heap.size, 1, none⟩ = some (.int .i64 x1) := (((S5.out.rb.set 0 _).set 1 _).set 2 _).cell 1
      have k4 : (((w11.setCell ⟨w.heap.size, 0, none⟩ (.int .i64 x0)).setCell ⟨w.heap.size, 1, none⟩ (.int .i64 x1)).setCell ⟨w.heap.size, 2, none⟩ (.int .i64 x2)).cell? ⟨w.heap.size, 0, none⟩ = some (.int .i64 x0) := (((S5.out.rb.set 0 _).set 1 _).set 2 _).cell 0
      refine bodyPost_ret (v := .agg #[.int .i64 x0, .int .i64 x1, .int .i64 x2]) ?_ rfl ⟨rfl, R⟩
      simp [results, Try.results21, go_sem, k0, k1, k2, k3, k4]
  · obtain ⟨p, hp⟩ : ∃ p, p = min i (i - 1) := ⟨_, rfl⟩
    rw [← hp] at HF2
    obtain rfl : i = p + 1 := by omega
    clear hp
    by_cases hz : p = 0
    · subst hz
      go_wp2_with fail
      refine (up_any ab g _ cap _ last most 0 _ S3.out.ag (by rw [HM.out]; omega)).mono ?_
      rintro e w10 ⟨rfl, U⟩
      have S4 := os_us S3 U
      clear bc fz S3 U
      go_wp2_with fail
      have HM2 := Lib.hid ((upF_len M 0).trans HM.out)
      refine (down_any ab _ _ last most 1 _ S4.out.ag g cap (by rw [HM2.out]) (by omega)).mono ?_
      rintro e w11 ⟨rfl, U⟩
      rw [HM2.out] at U
      have S5 := os_us S4 U
      rw [← HF2.out] at S5
      have ec := S5.out.eb.cell
      have rc := S5.out.rb.cell
      have rf := S5.out.rb.frozen
      go_wp2_with fail
      have R := os_ret S5 x0 x1 x2
      have k0 : (w11.setCell ⟨w.heap.size, 0, none⟩ (.int .i64 x0)).cell? ⟨w.heap.size, 0, none⟩ = some (.int .i64 x0) := (S5.out.rb.set 0 _).cell 0
      have k1 : ((w11.setCell ⟨w.heap.size, 0, none⟩ (.int .i64 x0)).setCell ⟨w.heap.size, 1, none⟩ (.int .i64 x1)).cell? ⟨w.heap.size, 1, none⟩ = some (.int .i64 x1) := ((S5.out.rb.set 0 _).set 1 _).cell 1
      have k2 : (((w11.setCell ⟨w.heap.size, 0, none⟩ (.int .i64 x0)).setCell ⟨w.heap.size, 1, none⟩ (.int .i64 x1)).setCell ⟨w.heap.size, 2, none⟩ (.int .i64 x2)).cell? ⟨w.heap.size, 2, none⟩ = some (.int .i64 x2) := (((S5.out.rb.set 0 _).set 1 _).set 2 _).cell 2
      have k3 : (((w11.setCell ⟨w.heap.size, 0, none⟩ (.int .i64 x0)).setCell ⟨w.heap.size, 1, none⟩ (.int .i64 x1)).setCell ⟨w.heap.size, 2, none⟩ (.int .i64 x2)).cell? ⟨w.heap.size, 1, none⟩ = some (.int .i64 x1) := (((S5.out.rb.set 0 _).set 1 _).set 2 _).cell 1
      have k4 : (((w11.setCell ⟨w.heap.size, 0, none⟩ (.int .i64 x0)).setCell ⟨w.heap.size, 1, none⟩ (.int .i64 x1)).setCell ⟨w.heap.size, 2, none⟩ (.int .i64 x2)).cell? ⟨w.heap.size, 0, none⟩ = some (.int .i64 x0) := (((S5.out.rb.set 0 _).set 1 _).set 2 _).cell 0
      refine bodyPost_ret (v := .agg #[.int .i64 x0, .int .i64 x1, .int .i64 x2]) ?_ rfl ⟨rfl, R⟩
      simp [results, Try.results21, go_sem, k0, k1, k2, k3, k4]
    · have hz' : 0 < p := by omega
      clear hz
      go_wp2_with fail
      refine (up_any ab g _ cap _ last most p _ S3.out.ag (by rw [HM.out]; omega)).mono ?_
      rintro e w10 ⟨rfl, U⟩
      have S4 := os_us S3 U
      clear bc fz S3 U
      go_wp2_with fail
      have HM2 := Lib.hid ((upF_len M p).trans HM.out)
      refine (down_any ab _ _ last most (p + 1) _ S4.out.ag g cap (by rw [HM2.out]) (by omega)).mono ?_
      rintro e w11 ⟨rfl, U⟩
      rw [HM2.out] at U
      have S5 := os_us S4 U
      rw [← HF2.out] at S5
      have ec := S5.out.eb.cell
      have rc := S5.out.rb.cell
      have rf := S5.out.rb.frozen
      go_wp2_with fail
      have R := os_ret S5 x0 x1 x2
      have k0 : (w11.setCell ⟨w.heap.size, 0, none⟩ (.int .i64 x0)).cell? ⟨w.heap.size, 0, none⟩ = some (.int .i64 x0) := (S5.out.rb.set 0 _).cell 0
      have k1 : ((w11.setCell ⟨w.heap.size, 0, none⟩ (.int .i64 x0)).setCell ⟨w.heap.size, 1, none⟩ (.int .i64 x1)).cell? ⟨w.heap.size, 1, none⟩ = some (.int .i64 x1) := ((S5.out.rb.set 0 _).set 1 _).cell 1
      have k2 : (((w11.setCell ⟨w.heap.size, 0, none⟩ (.int .i64 x0)).setCell ⟨w.heap.size, 1, none⟩ (.int .i64 x1)).setCell ⟨w.heap.size, 2, none⟩ (.int .i64 x2)).cell? ⟨w.heap.size, 2, none⟩ = some (.int .i64 x2) := (((S5.out.rb.set 0 _).set 1 _).set 2 _).cell 2
      have k3 : (((w11.setCell ⟨w.heap.size, 0, none⟩ (.int .i64 x0)).setCell ⟨w.heap.size, 1, none⟩ (.int .i64 x1)).setCell ⟨w.heap.size, 2, none⟩ (.int .i64 x2)).cell? ⟨w.heap.size, 1, none⟩ = some (.int .i64 x1) := (((S5.out.rb.set 0 _).set 1 _).set 2 _).cell 1
      have k4 : (((w11.setCell ⟨w.heap.size, 0, none⟩ (.int .i64 x0)).setCell ⟨w.heap.size, 1, none⟩ (.int .i64 x1)).setCell ⟨w.heap.size, 2, none⟩ (.int .i64 x2)).cell? ⟨w.heap.size, 0, none⟩ = some (.int .i64 x0) := (((S5.out.rb.set 0 _).set 1 _).set 2 _).cell 0
      refine bodyPost_ret (v := .agg #[.int .i64 x0, .int .i64 x1, .int .i64 x2]) ?_ rfl ⟨rfl, R⟩
      simp [results, Try.results21, go_sem, k0, k1, k2, k3, k4]
end Go.Proofs.Ytlafeijkpnpdeaa.Age

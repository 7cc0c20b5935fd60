/- Walks of package slack: New. -/
import Derived.Test.YtaoghiijgcdbgaaSlkC
import Derived.Test.YtaoghiijgcdbgaaHeld
import Derived.Deep.RegionLaw
import Derived.Deep.AppendLies
import Derived.Deep.DrawnRows
namespace Go.Proofs.Ytaoghiijgcdbgaa.SlkD
open Go.RowKit Base Kit WideA Alt RefA SlkA SlkB SlkC Held
set_option linter.unusedVariables false
set_option linter.unusedSimpArgs false
attribute [local go_sem ↓] Go.wp_at_zero Go.wp_at_succ

theorem infoPtr : (Try.prog.info? 67).map (fun i => (i.zero, i.size, i.bytes)) = some (some (.pointer none), 1, 8) := by kernel_rfl
def mx0 (z : Int) : Int := if 0 < z then z else 0
theorem mx0_bd {z : Int} (h : I64 z) : 0 ≤ mx0 z ∧ mx0 z ≤ 9223372036854775807 := by obtain ⟨h1, h2⟩ := h; unfold mx0; split <;> omega
def ini (cap : Int) (f : Nat → Nat → Int) : SS := ⟨mx0 cap, fun i => mx0 (f i 2), fun _ => false⟩
theorem ini_ok {cap : Int} {f : Nat → Nat → Int} {n : Nat} (hc : I64 cap) (hn : n ≤ 100) (hf : ∀ i, i < n → I64 (f i 2)) : SOk n (ini cap f) :=
  ⟨hn, (mx0_bd hc).1, (mx0_bd hc).2, fun i hi => mx0_bd (hf i hi)⟩
/-- a slack under way -/
structure Ns (w0 w : World) (cap : Int) (f : Nat → Nat → Int) (k : Nat) (v : Value) (a : Nat → Nat) : Prop where
  bel : Below w0.heap.size w0 w
  ha : ∀ i, i < k → w0.heap.size ≤ a i
  hv : ∀ g, v.ownBlock = some g → w0.heap.size ≤ g
  sk : Hid (Sk w (w0.heap.size + 1) k v a (ini cap f))
theorem ns_next {w0 w w1 : World} {cap : Int} {f : Nat → Nat → Int} {k : Nat} {v : Value} {a : Nat → Nat} (h : Hid (Ns w0 w cap f k v a)) (b : Below w.heap.size w w1) : Hid (Ns w0 w1 cap f k v a) := Lib.hid ⟨below_next h.out.bel b, h.out.ha, h.out.hv, sk_next h.out.sk b⟩
def updn (a : Nat → Nat) (k x : Nat) : Nat → Nat := fun i => if i = k then x else a i
theorem ns_app {w0 W1 w2 : World} {cp : Int} {f : Nat → Nat → Int} {k : Nat} {v : Value} {a : Nat → Nat} {g cap : Nat} {o2 : Obj} (S1 : Hid (Ns w0 W1 cp f k v a))
    (hown : w2.ownsRow 0 67 1 (.slice (some ⟨g, 0, none⟩) (k + 1) cap) (k + 1) (prow a k ++ [.pointer (some ⟨W1.heap.size, 0, none⟩)]))
    (hgrow : ((W1.drew.alloc (.cells #[.int .i64 (mx0 (f k 2)), .bool false] 69)).alloc o2).grownBy w2 v.ownBlock) (hat : v.ownBlock = some g ∨ W1.heap.size + 2 ≤ g) :
    Hid (Ns w0 (w2.setCell ⟨w0.heap.size + 1, 1, none⟩ (.slice (some ⟨g, 0, none⟩) (k + 1) cap)) cp f (k + 1) (.slice (some ⟨g, 0, none⟩) (k + 1) cap) (updn a k W1.heap.size)) := by
  have L := S1.out
  have K := L.sk.out
  have B := K.box
  have sz := L.bel.size
  have NE : ∀ {b : Nat} {vs : Array Value} {T : TypeId}, Box W1 b vs T → 67 ≠ T → some b ≠ v.ownBlock := fun h hne e => own_ne' K.own h hne e.symm
  have GB : ∀ {b : Nat} {vs : Array Value} {T : TypeId}, Box W1 b vs T → 67 ≠ T → Box w2 b vs T := fun h hne => ((Box.alloc (show Box W1.drew _ _ _ from h) _).alloc _).grown hgrow (NE h hne)
  have B2 := GB B (by decide)
  have N2 : Box w2 W1.heap.size #[.int .i64 (mx0 (f k 2)), .bool false] 69 := ((Box.new W1.drew _ _).alloc _).grown hgrow (fun e => by
    have := (World.ownsRow.lt K.own W1.heap.size e.symm).2
    omega)
  have hA : Alt (fun i => i = w0.heap.size + 1) w2 (w2.setCell ⟨w0.heap.size + 1, 1, none⟩ (.slice (some ⟨g, 0, none⟩) (k + 1) cap)) := Alt.set _ _ _ rfl
  have bel2 : Below w0.heap.size w0 w2 := (((L.bel.drew).alloc (by simpa using sz) _).alloc (by simp; omega) _).grown hgrow (by simp; omega) (fun g hg => L.hv g hg)
  refine Lib.hid ⟨hA.below bel2 bel2.size (fun i hi => by omega), fun i hi => ?_, fun g' hg' => ?_, Lib.hid ⟨?_, ?_, fun i hi => ?_, fun i j hi hj => ?_⟩⟩
  · unfold updn; split
    · exact sz
    · exact L.ha i (by omega)
  · have : g = g' := by simpa [Value.ownBlock] using hg'
    subst this
    rcases hat with h | h
    · exact L.hv g h
    · omega
  · exact B2.set 1 _
  · rw [prow_succ, prow_congr (b := a) (fun i hi => by unfold updn; rw [if_neg (by omega)])]
    have : updn a k W1.heap.size k = W1.heap.size := by unfold updn; rw [if_pos rfl]
    rw [this]
    exact own_alt hown hA (own_ne hown B2 (by decide))
  · unfold updn
    by_cases e : i = k
    · subst e
      rw [if_pos rfl]
      exact N2.setOther _ _ (box_ne N2 B2 (by decide))
    · rw [if_neg e]
      have h := K.acc i (by omega)
      exact (GB h (by decide)).setOther _ _ (box_ne h B (by decide))
  · have lt := fun i (h : i < k) => (K.acc i h).lt
    have inj := K.inj
    unfold updn
    intro e
    by_cases e1 : i = k <;> by_cases e2 : j = k
    · omega
    · rw [if_pos e1, if_neg e2] at e; have := lt j (by omega); omega
    · rw [if_neg e1, if_pos e2] at e; have := lt i (by omega); omega
    · rw [if_neg e1, if_neg e2] at e; exact inj i j (by omega) (by omega) e

def NewPost (w : World) (cap : Int) (f : Nat → Nat → Int) (n : Nat) (e : Ending) (w' : World) : Prop := ∃ v a, e = .returned (.pointer (some ⟨w.heap.size + 1, 0, none⟩)) ∧ Hid (Ns w w' cap f n v a)
set_option maxRecDepth 100000 in
set_option maxHeartbeats 8000000 in
theorem new_any (ra : Option Addr) (rn rc : Nat) (pa : Option Addr) (pn pc : Nat) (f : Nat → Nat → Int) (oo so qo to co : Value) (fl cap bud lad : Int) (w : World) (h : Hid (Open.RowsIn w pa pn 3 f)) (hpn : pn ≤ 100) (hc : I64 cap) :
    Calls Try.prog 12 #[.agg #[.slice ra rn rc, .slice pa pn pc, oo, so, .int .i64 fl, qo, to, .int .i64 cap, .int .i64 bud, .int .i64 lad, co]] w (NewPost w cap f pn) := by
  obtain ⟨hc1, hc2⟩ := hc
  have S : Hid (Ns w ((w.alloc (.cells #[.slice ra rn rc, .slice pa pn pc, oo, so, .int .i64 fl, qo, to, .int .i64 cap, .int .i64 bud, .int .i64 lad, co] 29)).alloc (.cells #[.int .i64 (mx0 cap), .slice none 0 0, .bool true] 48)) cap f 0 (.slice none 0 0) (fun _ => 0)) := by
    have b1 := Box.new (w.alloc (.cells #[.slice ra rn rc, .slice pa pn pc, oo, so, .int .i64 fl, qo, to, .int .i64 cap, .int .i64 bud, .int .i64 lad, co] 29)) #[.int .i64 (mx0 cap), .slice none 0 0, .bool true] 48
    rw [World.size_alloc] at b1
    exact Lib.hid ⟨((Below.refl _ _).alloc (Nat.le_refl _) _).alloc (by simp) _, fun i hi => by omega, fun g hg => by simp [Value.ownBlock] at hg, Lib.hid ⟨b1, World.ownsRow_nil _ _ _ _, fun i hi => by omega, fun i j hi => by omega⟩⟩
  by_cases h0 : 0 < cap
  · have e0 : mx0 cap = cap := by unfold mx0; rw [if_pos h0]
    have E0 := Lib.hid e0
    rw [e0] at S
    clear e0
    go_enter Try.func12, Try.ntmps12
    go_wp2_with fail
    generalize (w.alloc (.cells #[.slice ra rn rc, .slice pa pn pc, oo, so, .int .i64 fl, qo, to, .int .i64 cap, .int .i64 bud, .int .i64 lad, co] 29)).alloc (.cells #[.int .i64 cap, .slice none 0 0, .bool true] 48) = w1 at S ⊢
    go_loopw [14] (fun i wr => ∃ (k : Nat) (v : Value) (a : Nat → Nat), k ≤ pn ∧ i = .int .i64 k ∧ Hid (Ns w wr cap f k v a)) (fun i _ => pn - (intOf i).toNat)
    case atStart => exact ⟨0, _, _, by omega, rfl, S⟩
    case round =>
      clear S
      obtain ⟨k, v, a, hk, rfl, S⟩ := hrel
      by_cases hlt : k < pn
      · obtain ⟨pb, po, rfl, lp, c0, c1, c2, i0', i1', i2'⟩ := rows_at3 h k hlt
        have c0 := keep S.out.bel c0 lp
        have c1 := keep S.out.bel c1 lp
        have c2 := keep S.out.bel c2 lp
        obtain ⟨f0, e0⟩ : ∃ x, f k 0 = x := ⟨_, rfl⟩
        obtain ⟨f1, e1⟩ : ∃ x, f k 1 = x := ⟨_, rfl⟩
        obtain ⟨f2, e2⟩ : ∃ x, f k 2 = x := ⟨_, rfl⟩
        rw [e0] at c0
        rw [e1] at c1
        rw [e2] at c2 i2'
        have E2 := Lib.hid e2
        clear e0 e1 e2 i0' i1'
        go_wp2_with fail
        have SZ : (wr.alloc (.cells #[.int .i64 f0, .int .i64 f1, .int .i64 f2] 66)).heap.size = wr.heap.size + 1 := by simp
        have S1 : Hid (Ns w (wr.alloc (.cells #[.int .i64 f0, .int .i64 f1, .int .i64 f2] 66)) cap f k v a) := ns_next S ((Below.refl _ _).alloc (Nat.le_refl _) _)
        have ndp := Lib.hid (Box.new wr #[.int .i64 f0, .int .i64 f1, .int .i64 f2] 66)
        generalize wr.alloc (.cells #[.int .i64 f0, .int .i64 f1, .int .i64 f2] 66) = W1 at S1 ndp SZ ⊢
        clear S
        have L1 := S1.out.sk.out
        have bl := L1.box.cell
        have bp := ndp.out.cell
        have NEV := Lib.hid (own_ne' L1.own L1.box (by decide))
        have NEP := Lib.hid (own_ne' L1.own ndp.out (by decide))
        have BXL := Lib.hid L1.box
        have BP := ndp
        have OWN := Lib.hid L1.own
        have nb : Hid (∀ (o1 o2 : Obj), ((W1.alloc o1).alloc o2).drew.heap[wr.heap.size + 1 + 1]? = some o2) := Lib.hid (fun o1 o2 => by have h := heap_alloc_new (W1.alloc o1) o2; rw [World.size_alloc, SZ] at h; exact h)
        clear L1
        obtain ⟨i0, hi, hz0, hz1, hz2⟩ := info_parts infoPtr
        refine wp_region_till (fun w' => ∀ i, w'.cell? ⟨wr.heap.size, i, none⟩ = (#[.int .i64 f0, .int .i64 f1, .int .i64 f2] : Array Value)[i]?) (fun w' => ∀ i, w'.cell? ⟨w.heap.size + 1, i, none⟩ = (#[.int .i64 (ini cap f).room, v, .bool true] : Array Value)[i]?) 11 15 #[false, false, false, false, false, false, false, false, false, false, false, false, false, false, false] (by kernel_rfl) rfl rfl ⟨bp, bl⟩ (fun hHeld => ?_)
        refine wpTill_take false (i := 0) (v := ?_) rfl (by kernel_rfl) (by kernel_rfl) (by kernel_rfl) (fun _ _ _ h => h) (by kernel_rfl) (Or.inl ⟨by rfl, ?_⟩) hHeld (fun hHeld => ?_)
        rotate_left
        · (intro w' hSw; obtain ⟨r1, r3⟩ := hSw; (try have r4 := r3 rfl); (try dsimp only at r1 r4); clear r3; go_simp; try with_reducible rfl)
        try simp only [Act.put, List.setIfInBounds_toArray, List.set_cons_zero, List.set_cons_succ]
        refine wpTill_take false (i := 1) (v := ?_) rfl (by kernel_rfl) (by kernel_rfl) (by kernel_rfl) (fun _ _ _ h => h) (by kernel_rfl) (Or.inl ⟨by rfl, ?_⟩) hHeld (fun hHeld => ?_)
        rotate_left
        · (intro w' hSw; obtain ⟨r1, r3⟩ := hSw; (try have r4 := r3 rfl); (try dsimp only at r1 r4); clear r3; go_simp; try with_reducible rfl)
        try simp only [Act.put, List.setIfInBounds_toArray, List.set_cons_zero, List.set_cons_succ]
        refine wpTill_take false (i := 2) (v := ?_) rfl (by kernel_rfl) (by kernel_rfl) (by kernel_rfl) (fun _ _ _ h => h) (by kernel_rfl) (Or.inl ⟨by rfl, ?_⟩) hHeld (fun hHeld => ?_)
        rotate_left
        · (intro w' hSw; obtain ⟨r1, r3⟩ := hSw; (try have r4 := r3 rfl); (try dsimp only at r1 r4); clear r3; go_simp; try with_reducible rfl)
        try simp only [Act.put, List.setIfInBounds_toArray, List.set_cons_zero, List.set_cons_succ]
        refine wpTill_take false (i := 3) (v := ?_) rfl (by kernel_rfl) (by kernel_rfl) (by kernel_rfl) (fun _ _ _ h => h) (by kernel_rfl) (Or.inl ⟨by rfl, ?_⟩) hHeld (fun hHeld => ?_)
        rotate_left
        · (intro w' hSw; obtain ⟨r1, r3⟩ := hSw; (try have r4 := r3 rfl); (try dsimp only at r1 r4); clear r3; go_simp; try with_reducible rfl)
        try simp only [Act.put, List.setIfInBounds_toArray, List.set_cons_zero, List.set_cons_succ]
        refine wpTill_take true (i := 4) (v := ?_) rfl (by kernel_rfl) (by kernel_rfl) (by kernel_rfl) (fun _ _ _ h => h) (by kernel_rfl) (Or.inl ⟨by rfl, ?_⟩) hHeld (fun hHeld => ?_)
        rotate_left
        · (intro w' hSw; obtain ⟨r1, r3⟩ := hSw; (try have r4 := r3 rfl); (try dsimp only at r1 r4); clear r3; go_simp; try with_reducible rfl)
        try simp only [Act.put, List.setIfInBounds_toArray, List.set_cons_zero, List.set_cons_succ]
        refine wpTill_take false (i := 5) (v := ?_) rfl (by kernel_rfl) (by kernel_rfl) (by kernel_rfl) (fun _ _ _ h => h) (by kernel_rfl) (Or.inl ⟨by rfl, ?_⟩) hHeld (fun hHeld => ?_)
        rotate_left
        · (intro w' hSw; obtain ⟨r1, r3⟩ := hSw; (try have r4 := r3 rfl); (try dsimp only at r1 r4); clear r3; go_simp; try with_reducible rfl)
        try simp only [Act.put, List.setIfInBounds_toArray, List.set_cons_zero, List.set_cons_succ]
        refine wpTill_take false (i := 6) (v := ?_) rfl (by kernel_rfl) (by kernel_rfl) (by kernel_rfl) (fun _ _ _ h => h) (by kernel_rfl) (Or.inl ⟨by rfl, ?_⟩) hHeld (fun hHeld => ?_)
        rotate_left
        · (intro w' hSw; obtain ⟨r1, r3⟩ := hSw; (try have r4 := r3 rfl); (try dsimp only at r1 r4); clear r3; go_simp; try with_reducible rfl)
        try simp only [Act.put, List.setIfInBounds_toArray, List.set_cons_zero, List.set_cons_succ]
        refine wpTill_take false (i := 7) (v := ?_) rfl (by kernel_rfl) (by kernel_rfl) (by kernel_rfl) (fun _ _ _ h => h) (by kernel_rfl) (Or.inl ⟨by rfl, ?_⟩) hHeld (fun hHeld => ?_)
        rotate_left
        · (intro w' hSw; obtain ⟨r1, r3⟩ := hSw; (try have r4 := r3 rfl); (try dsimp only at r1 r4); clear r3; go_simp; try with_reducible rfl)
        try simp only [Act.put, List.setIfInBounds_toArray, List.set_cons_zero, List.set_cons_succ]
        refine wpTill_take false (i := 8) (v := ?_) rfl (by kernel_rfl) (by kernel_rfl) (by kernel_rfl) (fun _ _ _ h => h) (by kernel_rfl) (Or.inl ⟨by rfl, ?_⟩) hHeld (fun hHeld => ?_)
        rotate_left
        · (intro w' hSw; obtain ⟨r1, r3⟩ := hSw; (try have r4 := r3 rfl); (try dsimp only at r1 r4); clear r3; go_simp; try with_reducible rfl)
        try simp only [Act.put, List.setIfInBounds_toArray, List.set_cons_zero, List.set_cons_succ]
        refine wpTill_one (i := 9) (by kernel_rfl) rfl (fun K hK => ?_)
        go_simp
        refine hK _ _ ⟨(BP.out.alloc _).cell, fun _ => (BXL.out.alloc _).cell⟩ (fun hHeld => ?_)
        clear hK K
        refine wpTill_one (i := 10) (by kernel_rfl) rfl (fun K hK => ?_)
        go_simp
        refine hK _ _ ⟨((BP.out.alloc _).alloc _).cell, fun _ => ((BXL.out.alloc _).alloc _).cell⟩ (fun hHeld => ?_)
        clear hK K
        refine wpTill_one (i := 11) (by kernel_rfl) rfl (fun K hK => ?_)
        refine step_append_lies _ rfl _ _ _ rfl 0 67 i0 (.pointer none) 1 8 (by kernel_rfl) hi hz0 hz1 hz2 rfl (by decide) v k (prow a k) (by rfl) (World.ownsRow.alloc (World.ownsRow.alloc OWN.out _) _) ⟨W1.heap.size + 1, 0, none⟩ 1 1 [.pointer (some ⟨W1.heap.size, 0, none⟩)] (by rw [SZ]; rfl) rfl (World.news_of_block (cs := #[.pointer (some ⟨W1.heap.size, 0, none⟩)]) (by rw [SZ]; exact nb.out _ _)) (by simp [Value.oneCell']) (by omega) (by unfold maxLen; omega) (by omega) (by simp) _ rfl ?_
        intro g cp w2 hown hgrow hat hlt2
        have BX2 := ((BXL.out.alloc _).alloc _).drew.grown hgrow (fun e => NEV.out e.symm)
        refine hK _ _ ⟨(((BP.out.alloc _).alloc _).drew.grown hgrow (fun e => NEP.out e.symm)).cell, fun _ => BX2.cell⟩ (fun hHeld => ?_)
        clear hK K
        simp only [Act.put, List.getElem_toArray, List.getElem_cons_succ, List.getElem_cons_zero, List.setIfInBounds_toArray, List.set_cons_zero, List.set_cons_succ] at hHeld ⊢
        refine wpTill_take false (i := 12) (v := ?_) rfl (by kernel_rfl) (by kernel_rfl) (by kernel_rfl) (fun _ _ _ h => h) (by kernel_rfl) (Or.inl ⟨by rfl, ?_⟩) hHeld (fun hHeld => ?_)
        rotate_left
        · (intro w' hSw; obtain ⟨r1, r3⟩ := hSw; (try have r4 := r3 rfl); (try dsimp only at r1 r4); clear r3; go_simp; try with_reducible rfl)
        try simp only [Act.put, List.setIfInBounds_toArray, List.set_cons_zero, List.set_cons_succ]
        refine wpTill_take false (i := 13) (v := ?_) rfl (by kernel_rfl) (by kernel_rfl) (by kernel_rfl) (fun _ _ _ h => h) (by kernel_rfl) (Or.inl ⟨by rfl, ?_⟩) hHeld (fun hHeld => ?_)
        rotate_left
        · (intro w' hSw; obtain ⟨r1, r3⟩ := hSw; (try have r4 := r3 rfl); (try dsimp only at r1 r4); clear r3; go_simp; try with_reducible rfl)
        try simp only [Act.put, List.setIfInBounds_toArray, List.set_cons_zero, List.set_cons_succ]
        refine wpTill_one (i := 14) (by kernel_rfl) rfl (fun K hK => ?_)
        have bl2 := BX2.cell
        have bf2 := BX2.frozen
        go_simp
        refine hK _ _ ⟨rule_set hHeld.1 _ _ (box_ne BP.out BXL.out (by decide)), fun h => (by cases h)⟩ (fun hHeld => ?_)
        clear hK K
        refine wpTill_done (by kernel_rfl) ?_ 0
        have S := ns_app S1 hown (by rw [E2.out]; exact hgrow) (by rcases hat with h | h; exact .inl h; exact .inr (by rw [h]; show W1.heap.size + 2 ≤ ((W1.alloc _).alloc _).heap.size; rw [World.size_alloc, World.size_alloc]; omega))
        clear bl2 bf2 hown hgrow hat hHeld BX2 hi hz0 hz1 hz2 nb NEP BP BXL NEV OWN c0 c1 c2 bp bl ndp
        go_wp2_with fail
        go_roundw
        case rel => exact ⟨k + 1, _, _, by omega, by go_num, S⟩
        case measure => simp [intOf]; omega
      · obtain rfl : k = pn := by omega
        go_wp2_with fail
        go_ret
        exact ⟨v, a, rfl, S⟩
  · have e0 : mx0 cap = 0 := by unfold mx0; rw [if_neg h0]
    have h0 : cap ≤ 0 := by omega
    have E0 := Lib.hid e0
    rw [e0] at S
    clear e0
    go_enter Try.func12, Try.ntmps12
    go_wp2_with fail
    generalize (w.alloc (.cells #[.slice ra rn rc, .slice pa pn pc, oo, so, .int .i64 fl, qo, to, .int .i64 cap, .int .i64 bud, .int .i64 lad, co] 29)).alloc (.cells #[.int .i64 0, .slice none 0 0, .bool true] 48) = w1 at S ⊢
    go_loopw [14] (fun i wr => ∃ (k : Nat) (v : Value) (a : Nat → Nat), k ≤ pn ∧ i = .int .i64 k ∧ Hid (Ns w wr cap f k v a)) (fun i _ => pn - (intOf i).toNat)
    case atStart => exact ⟨0, _, _, by omega, rfl, S⟩
    case round =>
      clear S
      obtain ⟨k, v, a, hk, rfl, S⟩ := hrel
      by_cases hlt : k < pn
      · obtain ⟨pb, po, rfl, lp, c0, c1, c2, i0', i1', i2'⟩ := rows_at3 h k hlt
        have c0 := keep S.out.bel c0 lp
        have c1 := keep S.out.bel c1 lp
        have c2 := keep S.out.bel c2 lp
        obtain ⟨f0, e0⟩ : ∃ x, f k 0 = x := ⟨_, rfl⟩
        obtain ⟨f1, e1⟩ : ∃ x, f k 1 = x := ⟨_, rfl⟩
        obtain ⟨f2, e2⟩ : ∃ x, f k 2 = x := ⟨_, rfl⟩
        rw [e0] at c0
        rw [e1] at c1
        rw [e2] at c2 i2'
        have E2 := Lib.hid e2
        clear e0 e1 e2 i0' i1'
        go_wp2_with fail
        have SZ : (wr.alloc (.cells #[.int .i64 f0, .int .i64 f1, .int .i64 f2] 66)).heap.size = wr.heap.size + 1 := by simp
        have S1 : Hid (Ns w (wr.alloc (.cells #[.int .i64 f0, .int .i64 f1, .int .i64 f2] 66)) cap f k v a) := ns_next S ((Below.refl _ _).alloc (Nat.le_refl _) _)
        have ndp := Lib.hid (Box.new wr #[.int .i64 f0, .int .i64 f1, .int .i64 f2] 66)
        generalize wr.alloc (.cells #[.int .i64 f0, .int .i64 f1, .int .i64 f2] 66) = W1 at S1 ndp SZ ⊢
        clear S
        have L1 := S1.out.sk.out
        have bl := L1.box.cell
        have bp := ndp.out.cell
        have NEV := Lib.hid (own_ne' L1.own L1.box (by decide))
        have NEP := Lib.hid (own_ne' L1.own ndp.out (by decide))
        have BXL := Lib.hid L1.box
        have BP := ndp
        have OWN := Lib.hid L1.own
        have nb : Hid (∀ (o1 o2 : Obj), ((W1.alloc o1).alloc o2).drew.heap[wr.heap.size + 1 + 1]? = some o2) := Lib.hid (fun o1 o2 => by have h := heap_alloc_new (W1.alloc o1) o2; rw [World.size_alloc, SZ] at h; exact h)
        clear L1
        obtain ⟨i0, hi, hz0, hz1, hz2⟩ := info_parts infoPtr
        refine wp_region_till (fun w' => ∀ i, w'.cell? ⟨wr.heap.size, i, none⟩ = (#[.int .i64 f0, .int .i64 f1, .int .i64 f2] : Array Value)[i]?) (fun w' => ∀ i, w'.cell? ⟨w.heap.size + 1, i, none⟩ = (#[.int .i64 (ini cap f).room, v, .bool true] : Array Value)[i]?) 11 15 #[false, false, false, false, false, false, false, false, false, false, false, false, false, false, false] (by kernel_rfl) rfl rfl ⟨bp, bl⟩ (fun hHeld => ?_)
        refine wpTill_take false (i := 0) (v := ?_) rfl (by kernel_rfl) (by kernel_rfl) (by kernel_rfl) (fun _ _ _ h => h) (by kernel_rfl) (Or.inl ⟨by rfl, ?_⟩) hHeld (fun hHeld => ?_)
        rotate_left
        · (intro w' hSw; obtain ⟨r1, r3⟩ := hSw; (try have r4 := r3 rfl); (try dsimp only at r1 r4); clear r3; go_simp; try with_reducible rfl)
        try simp only [Act.put, List.setIfInBounds_toArray, List.set_cons_zero, List.set_cons_succ]
        refine wpTill_take false (i := 1) (v := ?_) rfl (by kernel_rfl) (by kernel_rfl) (by kernel_rfl) (fun _ _ _ h => h) (by kernel_rfl) (Or.inl ⟨by rfl, ?_⟩) hHeld (fun hHeld => ?_)
        rotate_left
        · (intro w' hSw; obtain ⟨r1, r3⟩ := hSw; (try have r4 := r3 rfl); (try dsimp only at r1 r4); clear r3; go_simp; try with_reducible rfl)
        try simp only [Act.put, List.setIfInBounds_toArray, List.set_cons_zero, List.set_cons_succ]
        refine wpTill_take false (i := 2) (v := ?_) rfl (by kernel_rfl) (by kernel_rfl) (by kernel_rfl) (fun _ _ _ h => h) (by kernel_rfl) (Or.inl ⟨by rfl, ?_⟩) hHeld (fun hHeld => ?_)
        rotate_left
        · (intro w' hSw; obtain ⟨r1, r3⟩ := hSw; (try have r4 := r3 rfl); (try dsimp only at r1 r4); clear r3; go_simp; try with_reducible rfl)
        try simp only [Act.put, List.setIfInBounds_toArray, List.set_cons_zero, List.set_cons_succ]
        refine wpTill_take false (i := 3) (v := ?_) rfl (by kernel_rfl) (by kernel_rfl) (by kernel_rfl) (fun _ _ _ h => h) (by kernel_rfl) (Or.inl ⟨by rfl, ?_⟩) hHeld (fun hHeld => ?_)
        rotate_left
        · (intro w' hSw; obtain ⟨r1, r3⟩ := hSw; (try have r4 := r3 rfl); (try dsimp only at r1 r4); clear r3; go_simp; try with_reducible rfl)
        try simp only [Act.put, List.setIfInBounds_toArray, List.set_cons_zero, List.set_cons_succ]
        refine wpTill_take true (i := 4) (v := ?_) rfl (by kernel_rfl) (by kernel_rfl) (by kernel_rfl) (fun _ _ _ h => h) (by kernel_rfl) (Or.inl ⟨by rfl, ?_⟩) hHeld (fun hHeld => ?_)
        rotate_left
        · (intro w' hSw; obtain ⟨r1, r3⟩ := hSw; (try have r4 := r3 rfl); (try dsimp only at r1 r4); clear r3; go_simp; try with_reducible rfl)
        try simp only [Act.put, List.setIfInBounds_toArray, List.set_cons_zero, List.set_cons_succ]
        refine wpTill_take false (i := 5) (v := ?_) rfl (by kernel_rfl) (by kernel_rfl) (by kernel_rfl) (fun _ _ _ h => h) (by kernel_rfl) (Or.inl ⟨by rfl, ?_⟩) hHeld (fun hHeld => ?_)
        rotate_left
        · (intro w' hSw; obtain ⟨r1, r3⟩ := hSw; (try have r4 := r3 rfl); (try dsimp only at r1 r4); clear r3; go_simp; try with_reducible rfl)
        try simp only [Act.put, List.setIfInBounds_toArray, List.set_cons_zero, List.set_cons_succ]
        refine wpTill_take false (i := 6) (v := ?_) rfl (by kernel_rfl) (by kernel_rfl) (by kernel_rfl) (fun _ _ _ h => h) (by kernel_rfl) (Or.inl ⟨by rfl, ?_⟩) hHeld (fun hHeld => ?_)
        rotate_left
        · (intro w' hSw; obtain ⟨r1, r3⟩ := hSw; (try have r4 := r3 rfl); (try dsimp only at r1 r4); clear r3; go_simp; try with_reducible rfl)
        try simp only [Act.put, List.setIfInBounds_toArray, List.set_cons_zero, List.set_cons_succ]
        refine wpTill_take false (i := 7) (v := ?_) rfl (by kernel_rfl) (by kernel_rfl) (by kernel_rfl) (fun _ _ _ h => h) (by kernel_rfl) (Or.inl ⟨by rfl, ?_⟩) hHeld (fun hHeld => ?_)
        rotate_left
        · (intro w' hSw; obtain ⟨r1, r3⟩ := hSw; (try have r4 := r3 rfl); (try dsimp only at r1 r4); clear r3; go_simp; try with_reducible rfl)
        try simp only [Act.put, List.setIfInBounds_toArray, List.set_cons_zero, List.set_cons_succ]
        refine wpTill_take false (i := 8) (v := ?_) rfl (by kernel_rfl) (by kernel_rfl) (by kernel_rfl) (fun _ _ _ h => h) (by kernel_rfl) (Or.inl ⟨by rfl, ?_⟩) hHeld (fun hHeld => ?_)
        rotate_left
        · (intro w' hSw; obtain ⟨r1, r3⟩ := hSw; (try have r4 := r3 rfl); (try dsimp only at r1 r4); clear r3; go_simp; try with_reducible rfl)
        try simp only [Act.put, List.setIfInBounds_toArray, List.set_cons_zero, List.set_cons_succ]
        refine wpTill_one (i := 9) (by kernel_rfl) rfl (fun K hK => ?_)
        go_simp
        refine hK _ _ ⟨(BP.out.alloc _).cell, fun _ => (BXL.out.alloc _).cell⟩ (fun hHeld => ?_)
        clear hK K
        refine wpTill_one (i := 10) (by kernel_rfl) rfl (fun K hK => ?_)
        go_simp
        refine hK _ _ ⟨((BP.out.alloc _).alloc _).cell, fun _ => ((BXL.out.alloc _).alloc _).cell⟩ (fun hHeld => ?_)
        clear hK K
        refine wpTill_one (i := 11) (by kernel_rfl) rfl (fun K hK => ?_)
        refine step_append_lies _ rfl _ _ _ rfl 0 67 i0 (.pointer none) 1 8 (by kernel_rfl) hi hz0 hz1 hz2 rfl (by decide) v k (prow a k) (by rfl) (World.ownsRow.alloc (World.ownsRow.alloc OWN.out _) _) ⟨W1.heap.size + 1, 0, none⟩ 1 1 [.pointer (some ⟨W1.heap.size, 0, none⟩)] (by rw [SZ]; rfl) rfl (World.news_of_block (cs := #[.pointer (some ⟨W1.heap.size, 0, none⟩)]) (by rw [SZ]; exact nb.out _ _)) (by simp [Value.oneCell']) (by omega) (by unfold maxLen; omega) (by omega) (by simp) _ rfl ?_
        intro g cp w2 hown hgrow hat hlt2
        have BX2 := ((BXL.out.alloc _).alloc _).drew.grown hgrow (fun e => NEV.out e.symm)
        refine hK _ _ ⟨(((BP.out.alloc _).alloc _).drew.grown hgrow (fun e => NEP.out e.symm)).cell, fun _ => BX2.cell⟩ (fun hHeld => ?_)
        clear hK K
        simp only [Act.put, List.getElem_toArray, List.getElem_cons_succ, List.getElem_cons_zero, List.setIfInBounds_toArray, List.set_cons_zero, List.set_cons_succ] at hHeld ⊢
        refine wpTill_take false (i := 12) (v := ?_) rfl (by kernel_rfl) (by kernel_rfl) (by kernel_rfl) (fun _ _ _ h => h) (by kernel_rfl) (Or.inl ⟨by rfl, ?_⟩) hHeld (fun hHeld => ?_)
        rotate_left
        · (intro w' hSw; obtain ⟨r1, r3⟩ := hSw; (try have r4 := r3 rfl); (try dsimp only at r1 r4); clear r3; go_simp; try with_reducible rfl)
        try simp only [Act.put, List.setIfInBounds_toArray, List.set_cons_zero, List.set_cons_succ]
        refine wpTill_take false (i := 13) (v := ?_) rfl (by kernel_rfl) (by kernel_rfl) (by kernel_rfl) (fun _ _ _ h => h) (by kernel_rfl) (Or.inl ⟨by rfl, ?_⟩) hHeld (fun hHeld => ?_)
        rotate_left
        · (intro w' hSw; obtain ⟨r1, r3⟩ := hSw; (try have r4 := r3 rfl); (try dsimp only at r1 r4); clear r3; go_simp; try with_reducible rfl)
        try simp only [Act.put, List.setIfInBounds_toArray, List.set_cons_zero, List.set_cons_succ]
        refine wpTill_one (i := 14) (by kernel_rfl) rfl (fun K hK => ?_)
        have bl2 := BX2.cell
        have bf2 := BX2.frozen
        go_simp
        refine hK _ _ ⟨rule_set hHeld.1 _ _ (box_ne BP.out BXL.out (by decide)), fun h => (by cases h)⟩ (fun hHeld => ?_)
        clear hK K
        refine wpTill_done (by kernel_rfl) ?_ 0
        have S := ns_app S1 hown (by rw [E2.out]; exact hgrow) (by rcases hat with h | h; exact .inl h; exact .inr (by rw [h]; show W1.heap.size + 2 ≤ ((W1.alloc _).alloc _).heap.size; rw [World.size_alloc, World.size_alloc]; omega))
        clear bl2 bf2 hown hgrow hat hHeld BX2 hi hz0 hz1 hz2 nb NEP BP BXL NEV OWN c0 c1 c2 bp bl ndp
        go_wp2_with fail
        go_roundw
        case rel => exact ⟨k + 1, _, _, by omega, by go_num, S⟩
        case measure => simp [intOf]; omega
      · obtain rfl : k = pn := by omega
        go_wp2_with fail
        go_ret
        exact ⟨v, a, rfl, S⟩
end Go.Proofs.Ytaoghiijgcdbgaa.SlkD

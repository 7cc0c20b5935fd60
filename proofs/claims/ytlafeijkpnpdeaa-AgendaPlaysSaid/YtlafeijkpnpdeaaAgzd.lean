/- package law03: all of a living agenda. -/
import Derived.Test.YtlafeijkpnpdeaaAgzc
namespace Go.Proofs.Ytlafeijkpnpdeaa.Agzd
open Go.RowKit Go.Shelf Base Kit Alt Held Agp Aga Agb Agc Agd Age Agf Agg Agh Agi Agk Agm Agn Agx Agy Agza Agzb Agzc
set_option linter.unusedVariables false
set_option linter.unusedSimpArgs false
attribute [local go_sem] Oper.semAt_some
attribute [local go_sem] fne Agi.feq
theorem live_stops (d : Nat) (hd : 1 ≤ d) (Bc ob ab : Nat) (v : Value) (L S : List E) (last most : Int) (w : World) (hB : Bc < w.heap.size) (hc : w.cell? ⟨Bc, 0, none⟩ = some (.pointer (some ⟨ab, 0, none⟩))) (hA : Hid (Ag w ab v L last most)) (hI : Hid (Inv L S last)) (hob : ob < w.heap.size)
    (hp : Hid (∀ k, pt w ob k → k < w.heap.size)) :
    SeqStopsK Fence.wide d Try.prog 27 #[.pointer (some ⟨Bc, 0, none⟩)] (fun z : E => #[Value.agg (ev z).toArray]) (KB ob) (fun ys => ys = S) (fun _ => True) S.length w := fun l J Jx W hW hA2 _ hY h0 => by
  have hs := hW.size
  exact all1_live d hd l Bc ob ab v L S last most J Jx W ((hW.cell (p := ⟨Bc, 0, none⟩) hB).trans hc) (ag_next hA hW) hI (by omega)
    (Lib.hid (fun k hk => by have := hp.out k (pt_same (hW.block ob hob) hk); omega))
    (Lib.hid (fun pre W1 W2 hj hbel => hA2 pre W1 W2 none hj (grown_below hbel none) (fun r e => by cases e))) (Lib.hid hY) h0
def AllPost (w : World) (S : List E) (r : Ending) (w' : World) : Prop := ∃ v, r = .returned v ∧ w'.ownsRow w.heap.size 33 3 v S.length (encE S) ∧ Below w.heap.size w w'
set_option maxRecDepth 100000 in
set_option maxHeartbeats 4000000 in
theorem all_live (ab : Nat) (v : Value) (L S : List E) (last most : Int) (w : World) (hA : Hid (Ag w ab v L last most)) (hI : Hid (Inv L S last)) : Calls Try.prog 15 #[.pointer (some ⟨ab, 0, none⟩)] w (AllPost w S) := by
  have hl : S.length ≤ 1000 := by rw [← hI.out.pm.length_eq]; exact hA.out.len
  refine (callsIn_wide (n := 3)).1 ?_
  refine callsIn_of_wp_marks Try.func15 rfl trivial ?_ rfl
  simp only [Try.ntmps15, List.size_toArray, List.length_cons, List.length_nil, Nat.reduceAdd, Nat.reduceSub, Array.replicate_succ, Array.replicate_zero, List.push_toArray, List.append_toArray, List.nil_append, List.cons_append]
  gi_wp2_with fail
  refine ⟨trivial, ?_⟩
  refine (callsIn_wide.2 (All_any (some ⟨ab, 0, none⟩) _)).mono ?_
  rintro e w5 ⟨rfl, rfl⟩
  gi_wp2_with fail
  have c1 := (Boxed.new w 29 (.slice none 0 0)).alloc (.cells #[.pointer (some ⟨ab, 0, none⟩)] 23)
  have c2 := Box.new (w.alloc (.cells #[.slice none 0 0] 29)) #[.pointer (some ⟨ab, 0, none⟩)] 23
  rw [World.size_alloc] at c2
  have K0 : Below w.heap.size w ((w.alloc (.cells #[.slice none 0 0] 29)).alloc (.cells #[.pointer (some ⟨ab, 0, none⟩)] 23)) := ((Below.refl _ w).alloc (Nat.le_refl _) _).alloc (by simp) _
  have sz : ((w.alloc (.cells #[.slice none 0 0] 29)).alloc (.cells #[.pointer (some ⟨ab, 0, none⟩)] 23)).heap.size = w.heap.size + 2 := by simp
  generalize (w.alloc (.cells #[.slice none 0 0] 29)).alloc (.cells #[.pointer (some ⟨ab, 0, none⟩)] 23) = W0 at *
  have HP : Hid (∀ k, pt W0 w.heap.size k → k < W0.heap.size) := Lib.hid (fun k ⟨v, h1, h2⟩ => by
    have h3 := c1.cell
    rw [h1] at h3
    cases h3
    cases h2)
  obtain ⟨i0, hi, hz0, hz1, hz2⟩ := info_parts infoE
  refine wpIn_rangeFunc_ownH rfl (by omega) (gf := 27) (lb := #[.pointer (some ⟨w.heap.size + 1, 0, none⟩)]) rfl trivial (enters_of Try.func27 (by kernel_rfl) rfl)
    (live_stops (3 - 1) (by omega) (w.heap.size + 1) w.heap.size ab v L S last most W0 (by omega) (c2.cell 0) (ag_next hA K0) hI (by omega) HP)
    KB.trans (kb_put (by omega)) (Below.refl _ _) (fun _ => rfl)
    (fun pre W => (∃ v, Boxed W w.heap.size 29 v ∧ W.ownsRow W0.heap.size 33 3 v pre.length (encE pre) ∧ True) ∧ Alt (AX W0.heap.size w.heap.size) W0 W)
    (fun _ _ _ => False)
    (OwnFrom.and (Own.from (holdsRow_own W0.heap.size w.heap.size 29 33 3 (fun pre : List E => pre.length) (fun pre => encE pre) (fun pre v => True)) _) (ax_from W0 (Nat.le_refl _)))
    (fun _ _ _ _ _ hs _ _ => hs)
    ⟨⟨_, c1, World.ownsRow_nil _ _ _ _, trivial⟩, Alt.refl _ _⟩
    (fun z a' W => ∃ Bx, W0.heap.size ≤ Bx ∧ Box W Bx (ev z).toArray 33 ∧ a' = { tmps := #[.pointer (some ⟨ab, 0, none⟩), undef, .slice none 0 0, .pointer (some ⟨w.heap.size, 0, none⟩), .func (.func 27) #[] #[.pointer (some ⟨w.heap.size + 1, 0, none⟩)], .pointer (some ⟨Bx, 0, none⟩), .pointer (some ⟨ab, 0, none⟩), .func (.func 27) #[] #[.pointer (some ⟨w.heap.size + 1, 0, none⟩)], .func (.func 27) #[] #[.pointer (some ⟨w.heap.size + 1, 0, none⟩)], .bool false, .func (.func 27) #[] #[.pointer (some ⟨w.heap.size + 1, 0, none⟩)], .agg (ev z).toArray, undef, undef, undef, undef, undef], defers := [] })
    ?hax ?assign ?body ?done ?stop
  case hax =>
    rintro z a' _ X Y row ⟨Bx, h1, h2, h3⟩ hg hr
    exact ⟨Bx, h1, box_kept h2 hg (fun r e => (hr r e).2), h3⟩
  case assign =>
    rintro l pre z W K ⟨⟨v, hv, hrow, -⟩, hA⟩ hK
    have hsz := hA.size
    obtain ⟨x0, x1, x2, hz⟩ : ∃ x0 x1 x2 : Int, ev z = [.int .i64 x0, .int .i64 x1, .int .i64 x2] := ⟨_, _, _, rfl⟩
    rw [hz] at hK ⊢
    clear hz
    gi_wp2
    have hb := (Below.refl W.heap.size W).alloc (Nat.le_refl _) (.cells #[.int .i64 x0, .int .i64 x1, .int .i64 x2] 33)
    exact hK _ _ ((KeepsOthers.alloc _ _).from _) (KB.of_below (by omega) hb) ⟨⟨v, hv.alloc _, hrow.alloc _, trivial⟩, hA.trans (Alt.of_below hb)⟩ ⟨W.heap.size, hsz, Box.new _ _ _, rfl⟩
  case body =>
    rintro l pre z a' W hl2 hrr ⟨⟨v, hv, hrow, -⟩, hA⟩ ⟨Bx, hBx, hB, rfl⟩ hlt
    have hsz := hA.size
    have ES : Hid (encE (pre ++ [z]) = encE pre ++ ev z) := Lib.hid (encE_snoc _ _)
    obtain ⟨x0, x1, x2, hz⟩ : ∃ x0 x1 x2 : Int, ev z = [.int .i64 x0, .int .i64 x1, .int .i64 x2] := ⟨_, _, _, rfl⟩
    rw [hz] at hB ES ⊢
    clear hz
    have hb := hB.cell
    have hbl := hB.lt
    have hc := hv.cell
    have hge : ∀ g, v.ownBlock = some g → W0.heap.size ≤ g := fun g hg => (World.ownsRow.lt hrow g hg).1
    have hrow' : W.ownsRow w.heap.size 33 3 v pre.length (encE pre) := own_base hrow (fun g hg => by have := hge g hg; omega)
    gi_wp2_with (gi_at_builtin; go_loud (refine wpListIn_append_own_at _ rfl _ _ 29 rfl W0.heap.size 33 i0 (.agg #[.int .i64 0, .int .i64 0, .int .i64 0]) 3 24 Try.underlying29 hi hz0 hz1 hz2 rfl (by decide) _ _ _ rfl (hrow.alloc _) ⟨W.heap.size, 0, none⟩ 1 1 [.int .i64 x0, .int .i64 x1, .int .i64 x2] rfl rfl (World.news_of_block (heap_alloc_new _ _)) (by simp [Value.oneCell']) (by unfold maxLen; omega) (by omega) (by rw [World.size_alloc]; omega) ?_); go_loud (intro v' w1 hown' hgrow _ hat; obtain ⟨g', cap', rfl⟩ := ownsRow_succ hown'; obtain ⟨hv1, hv2, -, hk2, -⟩ := hv.appended (n₀ := w.heap.size) (by decide) hrow' (by omega) (by omega) (own_base hown' (fun g hg => by have := (World.ownsRow.lt hown' g hg).1; omega)) hgrow; have hc1 := hv1.cell; have hf1 := hv1.frozen; replace hat := Lib.hid hat))
    have hr2 := hown'.kept (grownBy_setCell' w1 w.heap.size (.slice (some ⟨g', 0, none⟩) (pre.length + 1) cap')) (.inr (hv1.not_row (by decide) hown').symm)
    have hA2 := ((Alt.alloc (S := AX W0.heap.size w.heap.size) W _).trans (Alt.of_grown hgrow (fun i e => .inr (hge i e)))).trans (Alt.set w1 ⟨w.heap.size, 0, none⟩ (.slice (some ⟨g', 0, none⟩) (pre.length + 1) cap') (.inl rfl))
    have hKB : KB w.heap.size W (w1.setCell ⟨w.heap.size, 0, none⟩ (.slice (some ⟨g', 0, none⟩) (pre.length + 1) cap')) := by
      refine ⟨hA2.size, fun k hk ho hp _ => ?_, fun k ⟨v2, q1, q2⟩ => ?_⟩
      · rw [Below.heap_setCell _ _ _ _ ho, hgrow.block k (by rw [World.size_alloc]; omega) (fun e => hp ⟨v, hv.cell, e.symm⟩)]
        exact ((Below.refl W.heap.size W).alloc (Nat.le_refl _) _).block k hk
      · have q3 := hv2.cell
        rw [q1] at q3
        cases q3
        rcases hat.out with h | h
        · exact .inl ⟨v, hv.cell, h.symm.trans q2⟩
        · rw [h] at q2
          cases q2
          exact .inr (by rw [World.size_alloc]; omega)
    exact ⟨hk2.from _, hKB, ⟨_, hv2, by rw [ES.out]; simpa using hr2, trivial⟩, hA.trans hA2⟩
  case done =>
    rintro D ys W hD rfl ⟨⟨v, hv, hrow, -⟩, hA⟩ hK
    have hc := hv.cell
    have bl : Below w.heap.size w W := Alt.below K0 hA (by omega) (fun i h => by rcases h with h | h <;> omega)
    gi_wp2
    refine ⟨by simp, .inl ⟨_, _, rfl, run_takeDeferred hK, ?_⟩⟩
    refine ⟨_, results_tmp rfl _ _ _, v, rfl, ?_, bl.trans (belowK_b (w := w) (Nat.le_refl _) W D _ _ (by omega) hK rfl rfl)⟩
    exact ownsRow_putObj (own_base hrow (fun g hg => by have := (World.ownsRow.lt hrow g hg).1; omega)) _ hK rfl
  case stop =>
    rintro D c pre W _ _ h _
    exact h.elim
end Go.Proofs.Ytlafeijkpnpdeaa.Agzd

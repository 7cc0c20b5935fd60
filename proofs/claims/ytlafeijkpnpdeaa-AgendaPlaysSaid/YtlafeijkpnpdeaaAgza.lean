/- slices.Values, slices.AppendSeq, slices.Collect over entries. -/
import Derived.Maps.AppendAt
import Derived.Deep.AppendLies
import Derived.Test.YtlafeijkpnpdeaaAgn
namespace Go.Proofs.Ytlafeijkpnpdeaa.Agza
open Go.RowKit Go.Shelf Base Kit Alt Held Agp Aga Agb Agc Agd Age Agf Agg Agh Agi Agk Agm Agn
set_option linter.unusedVariables false
set_option linter.unusedSimpArgs false
attribute [local go_sem] Oper.semAt_some
/-- what a body may write: one variable, and what is new -/
def AX (n₀ ob i : Nat) : Prop := i = ob ∨ n₀ ≤ i
theorem ax_cell {n₀ ob : Nat} {w w1 : World} (h : Alt (AX n₀ ob) w w1) {b : Nat} {i : Nat} (hl : b < w.heap.size) (hn : b < n₀) (ho : b ≠ ob) : w1.cell? ⟨b, i, none⟩ = w.cell? ⟨b, i, none⟩ :=
  World.cell?_of_block (w := w) (h.block b hl (fun h => by rcases h with h | h <;> omega))
theorem ax_put {n₀ ob : Nat} {w : World} (hn : n₀ ≤ w.heap.size) (W : World) (l : Nat) (o o' : Obj) (hl : w.heap.size ≤ l) (h : W.heap[l]? = some o) (_ : o.isCells = false) (_ : o.isWalk = false) : Alt (AX n₀ ob) W (W.putObj l o') :=
  Alt.of_grown (grownBy_putObj' W l o') (fun i e => by cases e; exact .inr (by omega))
theorem ax_below {n₀ ob : Nat} {W W' : World} (h : Below W.heap.size W W') : Alt (AX n₀ ob) W W' := Alt.of_below h
theorem ax_from {β : Type} {n₀ ob B : Nat} (W0 : World) (hB : n₀ ≤ B) : OwnFrom B (fun (_ : β) W => Alt (AX n₀ ob) W0 W) :=
  fun s W W' row hs hg hr => hs.trans (Alt.of_grown hg (fun i e => .inr (by have := (hr i e).1; omega)))
def encV (L : List E) (i : Fin L.length) : Array Value := #[.agg #[.int .i64 (at_ L i.1).1, .int .i64 (at_ L i.1).2.1, .int .i64 (at_ L i.1).2.2]]
/-- entries that lie in a row -/
def Ents (w : World) (a : Option Addr) (L : List E) (B ob : Nat) : Prop := ∀ i, i < L.length → ∃ g, a = some ⟨g, 0, none⟩ ∧ g < B ∧ g ≠ ob ∧ EC w g i (at_ L i).1 (at_ L i).2.1 (at_ L i).2.2
set_option maxRecDepth 100000 in
set_option maxHeartbeats 4000000 in
theorem vals1_in (d : Nat) (hd : 1 ≤ d) (l Bc n₀ ob cap : Nat) (a : Option Addr) (L : List E) (J Jx : List (Fin L.length) → World → Prop) (W : World)
    (hBc : Bc < n₀ ∧ Bc ≠ ob) (hc : W.cell? ⟨Bc, 0, none⟩ = some (.slice a L.length cap)) (hl : L.length ≤ 1000)
    (hE : Hid (Ents W a L n₀ ob))
    (hn : n₀ ≤ W.heap.size)
    (HJ : Hid (∀ pre W1 W2, J pre W1 → Below W1.heap.size W1 W2 → J pre W2))
    (hY : Hid (∀ pre z W, J pre W → pre.length < L.length → YieldAt Fence.wide (d - 1) Try.prog l (encV L z) W fun e W' =>
      (e = .returned (.bool true) ∧ J (pre ++ [z]) W' ∧ Alt (AX n₀ ob) W W') ∨ (e = .returned (.bool false) ∧ Jx (pre ++ [z]) W')))
    (h0 : J [] W) :
    CallsIn Fence.wide d Try.prog 36 #[.func (.yield l) #[] #[], .pointer (some ⟨Bc, 0, none⟩)] W fun r W' => (∃ v, r = .returned v) ∧
      ((∃ ys, ys = List.finRange L.length ∧ J ys W') ∨ (∃ pre, True ∧ Jx pre W')) := by
  obtain ⟨n, hnn⟩ : ∃ n, L.length = n := ⟨_, rfl⟩
  have HN := Lib.hid hnn
  rw [hnn] at hc hl
  clear hnn
  refine callsIn_of_wp Try.func36 rfl trivial ?_ rfl
  simp only [Try.ntmps36, List.size_toArray, List.length_cons, List.length_nil, Nat.reduceAdd, Nat.reduceSub, Array.replicate_succ, Array.replicate_zero, List.push_toArray, List.append_toArray, List.nil_append, List.cons_append]
  gi_wp2
  gi_loopw [7] (fun i wr => ∃ k : Nat, k ≤ n ∧ i = .int .i64 k ∧ J ((List.finRange L.length).take k) wr ∧ Hid (Alt (AX n₀ ob) W wr)) (fun i _ => n - (intOf i).toNat)
  case atStart => exact ⟨0, Nat.zero_le _, rfl, h0, Lib.hid (Alt.refl _ _)⟩
  case round =>
    clear h0 hc
    obtain ⟨k, hk, rfl, hJ, K⟩ := hrel
    by_cases hkn : k < n
    · have hkl : k < L.length := by rw [HN.out]; exact hkn
      obtain ⟨g, ea, hg, hgo, c0, c1, c2⟩ := hE.out k hkl
      subst ea
      have c0 := (ax_cell K.out (b := g) (i := k * 3) (by omega) hg hgo).trans c0
      have c1 := (ax_cell K.out (b := g) (i := k * 3 + 1) (by omega) hg hgo).trans c1
      have c2 := (ax_cell K.out (b := g) (i := k * 3 + 2) (by omega) hg hgo).trans c2
      have Y := Lib.hid (fun W' hj => hY.out ((List.finRange L.length).take k) ⟨k, hkl⟩ W' hj (by rw [fin_take (by omega)]; exact hkl))
      unfold encV at Y
      dsimp only at Y
      obtain ⟨⟨x0, x1, x2⟩, hx⟩ : ∃ x, at_ L k = x := ⟨_, rfl⟩
      rw [hx] at Y c0 c1 c2
      dsimp only at Y c0 c1 c2
      have J2 := HJ.out _ _ _ hJ ((Below.refl wr.heap.size wr).alloc (Nat.le_refl _) (.cells #[.int .i64 x0, .int .i64 x1, .int .i64 x2] 33))
      have K2 := Lib.hid (K.out.trans (Alt.alloc wr (.cells #[.int .i64 x0, .int .i64 x1, .int .i64 x2] 33)))
      obtain ⟨fn, tmps, assign, body, hy, hR⟩ := Y.out _ J2
      have FS := Lib.hid (fin_snoc hkl)
      clear hx hJ K Y
      gi_wp2
      refine hR.mono ?_
      rintro e W3 (⟨rfl, hJ3, hk3⟩ | ⟨rfl, hJx3⟩)
      · rw [← FS.out] at hJ3
        gi_wp2
        go_roundw
        case rel => exact ⟨k + 1, by omega, by simp, hJ3, Lib.hid (K2.out.trans hk3)⟩
        case measure => simp [intOf]; omega
      · gi_wp2
        refine bodyPost_ret (results_none rfl _ _ _) rfl ?_
        exact ⟨⟨_, rfl⟩, .inr ⟨_, trivial, hJx3⟩⟩
    · obtain rfl : k = n := by omega
      have e : (List.finRange L.length).take k = List.finRange L.length := by rw [← HN.out]; exact fin_full
      rw [e] at hJ
      gi_wp2
      refine bodyPost_end (results_none rfl _ _ _) rfl ?_
      exact ⟨⟨_, rfl⟩, .inl ⟨_, rfl, hJ⟩⟩
theorem Values_any (a : Option Addr) (n cap : Nat) (w : World) : Calls Try.prog 29 #[.slice a n cap] w fun e w' => e = .returned (.func (.func 36) #[] #[.pointer (some ⟨w.heap.size, 0, none⟩)]) ∧ w' = w.alloc (.cells #[.slice a n cap] 29) := by
  go_enter Try.func29, Try.ntmps29
  go_wp2_with fail
  go_ret
  exact ⟨rfl, rfl⟩
theorem ents_next {w w1 : World} {a : Option Addr} {L : List E} {B ob : Nat} (h : Hid (Ents w a L B ob)) (hB : B ≤ w.heap.size) (k : Alt (AX B ob) w w1) : Hid (Ents w1 a L B ob) := Lib.hid (fun i hi => by
  obtain ⟨g, e, h1, h2, c0, c1, c2⟩ := h.out i hi
  exact ⟨g, e, h1, h2, (ax_cell k (by omega) h1 h2).trans c0, (ax_cell k (by omega) h1 h2).trans c1, (ax_cell k (by omega) h1 h2).trans c2⟩)
theorem vals_stops (d : Nat) (hd : 1 ≤ d) (Bc n₀ ob cap : Nat) (a : Option Addr) (L : List E) (w : World) (hBc : Bc < n₀ ∧ Bc ≠ ob) (hc : w.cell? ⟨Bc, 0, none⟩ = some (.slice a L.length cap)) (hl : L.length ≤ 1000) (h : Hid (Ents w a L n₀ ob)) (hn : n₀ = w.heap.size) :
    SeqStopsK Fence.wide d Try.prog 36 #[.pointer (some ⟨Bc, 0, none⟩)] (encV L) (Alt (AX n₀ ob)) (fun ys => ys = List.finRange L.length) (fun _ => True) L.length w := fun l J Jx W hW hA _ hY h0 => by
  have hs := hW.size
  exact vals1_in d hd l Bc n₀ ob cap a L J Jx W hBc ((hW.cell (p := ⟨Bc, 0, none⟩) (show Bc < w.heap.size by omega)).trans hc) hl (ents_next h (by omega) (Alt.of_below hW)) (by omega)
    (Lib.hid (fun pre W1 W2 hj hbel => hA pre W1 W2 none hj (grown_below hbel none) (fun r e => by cases e))) (Lib.hid hY) h0
def ofs (L : List E) (ys : List (Fin L.length)) : List E := ys.map fun i => at_ L i.1
theorem ofs_full (L : List E) : ofs L (List.finRange L.length) = L := by
  apply List.ext_getElem
  · simp [ofs]
  · intro i h1 h2
    simp only [ofs, List.getElem_map, List.getElem_finRange, Fin.cast_mk]
    exact at_lt h2
theorem encE_snoc (A : List E) (x : E) : encE (A ++ [x]) = encE A ++ ev x := encE_app A [x]
theorem infoE : (Try.prog.info? 33).map (fun i => (i.zero, i.size, i.bytes)) = some (some (.agg #[.int .i64 0, .int .i64 0, .int .i64 0]), 3, 24) := by kernel_rfl
def CoPost (w : World) (L : List E) (r : Ending) (w' : World) : Prop := ∃ v, r = .returned v ∧ w'.ownsRow w.heap.size 33 3 v L.length (encE L) ∧ Below w.heap.size w w'
set_option maxRecDepth 100000 in
set_option maxHeartbeats 4000000 in
theorem Append_any (Bc cap : Nat) (a : Option Addr) (L : List E) (w : World) (hBc : Bc < w.heap.size) (hc : w.cell? ⟨Bc, 0, none⟩ = some (.slice a L.length cap)) (hl : L.length ≤ 1000) (h : Hid (Ents w a L w.heap.size w.heap.size)) :
    Calls Try.prog 40 #[.slice none 0 0, .func (.func 36) #[] #[.pointer (some ⟨Bc, 0, none⟩)]] w (CoPost w L) := by
  refine (callsIn_wide (n := 3)).1 ?_
  refine callsIn_of_wp_marks Try.func40 rfl trivial ?_ rfl
  simp only [Try.ntmps40, List.size_toArray, List.length_cons, List.length_nil, Nat.reduceAdd, Nat.reduceSub, Array.replicate_succ, Array.replicate_zero, List.push_toArray, List.append_toArray, List.nil_append, List.cons_append]
  gi_wp2_with fail
  have c1 := Boxed.new w 29 (.slice none 0 0)
  have K0 : Below w.heap.size w (w.alloc (.cells #[.slice none 0 0] 29)) := (Below.refl _ w).alloc (Nat.le_refl _) _
  have sz : (w.alloc (.cells #[.slice none 0 0] 29)).heap.size = w.heap.size + 1 := by simp
  generalize w.alloc (.cells #[.slice none 0 0] 29) = W0 at *
  have E0 : Hid (Ents W0 a L W0.heap.size w.heap.size) := Lib.hid (fun i hi => by
    obtain ⟨g, e, h1, h2, q0, q1, q2⟩ := h.out i hi
    exact ⟨g, e, by omega, h2, (K0.cell (p := ⟨g, i * 3, none⟩) h1).trans q0, (K0.cell (p := ⟨g, i * 3 + 1, none⟩) h1).trans q1, (K0.cell (p := ⟨g, i * 3 + 2, none⟩) h1).trans q2⟩)
  obtain ⟨i0, hi, hz0, hz1, hz2⟩ := info_parts infoE
  refine wpIn_rangeFunc_ownH rfl (by omega) (gf := 36) (lb := #[.pointer (some ⟨Bc, 0, none⟩)]) rfl trivial (enters_of Try.func36 (by kernel_rfl) rfl)
    (vals_stops (3 - 1) (by omega) Bc W0.heap.size w.heap.size cap a L W0 ⟨by omega, by omega⟩ ((K0.cell (p := ⟨Bc, 0, none⟩) hBc).trans hc) hl E0 rfl)
    Alt.trans (ax_put (Nat.le_refl _)) (Below.refl _ _) (fun _ => rfl)
    (fun pre W => (∃ v, Boxed W w.heap.size 29 v ∧ W.ownsRow W0.heap.size 33 3 v pre.length (encE (ofs L pre)) ∧ True) ∧ Alt (AX W0.heap.size w.heap.size) W0 W)
    (fun _ _ _ => False)
    (OwnFrom.and (Own.from (holdsRow_own W0.heap.size w.heap.size 29 33 3 (fun pre : List (Fin L.length) => pre.length) (fun pre => encE (ofs L pre)) (fun pre v => True)) _) (ax_from W0 (Nat.le_refl _)))
    (fun _ _ _ _ _ hs _ _ => hs)
    ⟨⟨_, c1, World.ownsRow_nil _ _ _ _, trivial⟩, Alt.refl _ _⟩
    (fun z a' W => ∃ Bx, W0.heap.size ≤ Bx ∧ Box W Bx #[.int .i64 (at_ L z.1).1, .int .i64 (at_ L z.1).2.1, .int .i64 (at_ L z.1).2.2] 33 ∧ a' = { tmps := #[.slice none 0 0, .func (.func 36) #[] #[.pointer (some ⟨Bc, 0, none⟩)], .pointer (some ⟨w.heap.size, 0, none⟩), undef, .slice none 0 0, .pointer (some ⟨Bx, 0, none⟩), .func (.func 36) #[] #[.pointer (some ⟨Bc, 0, none⟩)], .agg #[.int .i64 (at_ L z.1).1, .int .i64 (at_ L z.1).2.1, .int .i64 (at_ L z.1).2.2], undef, undef, undef, undef, undef], defers := [] })
    ?hax ?assign ?body ?done ?stop
  case hax =>
    rintro z a' _ X Y row ⟨Bx, h1, h2, h3⟩ hg hr
    exact ⟨Bx, h1, box_kept h2 hg (fun r e => (hr r e).2), h3⟩
  case assign =>
    rintro l pre z W K ⟨⟨v, hv, hrow, -⟩, hA⟩ hK
    have hsz := hA.size
    unfold encV at hK ⊢
    generalize at_ L z.1 = x at *
    obtain ⟨x0, x1, x2⟩ := x
    dsimp only at hK ⊢
    gi_wp2
    have hb := (Below.refl W.heap.size W).alloc (Nat.le_refl _) (.cells #[.int .i64 x0, .int .i64 x1, .int .i64 x2] 33)
    exact hK _ _ ((KeepsOthers.alloc _ _).from _) (Alt.of_below hb) ⟨⟨v, hv.alloc _, hrow.alloc _, trivial⟩, hA.trans (Alt.of_below hb)⟩ ⟨W.heap.size, hsz, Box.new _ _ _, rfl⟩
  case body =>
    rintro l pre z a' W hl2 hrr ⟨⟨v, hv, hrow, -⟩, hA⟩ ⟨Bx, hBx, hB, rfl⟩ hlt
    have hsz := hA.size
    have ES : encE (ofs L (pre ++ [z])) = encE (ofs L pre) ++ ev (at_ L z.1) := by unfold ofs; rw [List.map_append]; exact encE_snoc _ _
    have ES := Lib.hid ES
    unfold ev at ES
    generalize at_ L z.1 = x at *
    obtain ⟨x0, x1, x2⟩ := x
    dsimp only at ES hB ⊢
    have hb := hB.cell
    have hbl := hB.lt
    have hc := hv.cell
    have hge : ∀ g, v.ownBlock = some g → W0.heap.size ≤ g := fun g hg => (World.ownsRow.lt hrow g hg).1
    have hrow' : W.ownsRow w.heap.size 33 3 v pre.length (encE (ofs L pre)) := own_base hrow (fun g hg => by have := hge g hg; omega)
    gi_wp2_with (gi_at_builtin; go_loud (refine wpListIn_append_own _ rfl _ _ 29 rfl W0.heap.size 33 i0 (.agg #[.int .i64 0, .int .i64 0, .int .i64 0]) 3 24 Try.underlying29 hi hz0 hz1 hz2 rfl (by decide) _ _ _ rfl (hrow.alloc _) ⟨W.heap.size, 0, none⟩ 1 1 [.int .i64 x0, .int .i64 x1, .int .i64 x2] rfl rfl (World.news_of_block (heap_alloc_new _ _)) (by simp [Value.oneCell']) (by unfold maxLen; omega) (by omega) (by rw [World.size_alloc]; omega) ?_); go_loud (intro v' w1 hown' hgrow _; obtain ⟨g', cap', rfl⟩ := ownsRow_succ hown'; obtain ⟨hv1, hv2, -, hk2, -⟩ := hv.appended (n₀ := w.heap.size) (by decide) hrow' (by omega) (by omega) (own_base hown' (fun g hg => by have := (World.ownsRow.lt hown' g hg).1; omega)) hgrow; have hc1 := hv1.cell; have hf1 := hv1.frozen))
    have hr2 := hown'.kept (grownBy_setCell' w1 w.heap.size (.slice (some ⟨g', 0, none⟩) (pre.length + 1) cap')) (.inr (hv1.not_row (by decide) hown').symm)
    have hA2 := ((Alt.alloc (S := AX W0.heap.size w.heap.size) W _).trans (Alt.of_grown hgrow (fun i e => .inr (hge i e)))).trans (Alt.set w1 ⟨w.heap.size, 0, none⟩ (.slice (some ⟨g', 0, none⟩) (pre.length + 1) cap') (.inl rfl))
    exact ⟨hk2.from _, hA2, ⟨_, hv2, by rw [ES.out]; simpa using hr2, trivial⟩, hA.trans hA2⟩
  case done =>
    rintro D ys W hD rfl ⟨⟨v, hv, hrow, -⟩, hA⟩ hK
    have hc := hv.cell
    have bl : Below w.heap.size w W := Alt.below K0 hA (by omega) (fun i h => by rcases h with h | h <;> omega)
    gi_wp2
    refine ⟨by simp, .inl ⟨_, _, rfl, run_takeDeferred hK, ?_⟩⟩
    refine ⟨_, results_tmp rfl _ _ _, v, rfl, ?_, bl.trans (belowK_b (w := w) (Nat.le_refl _) W D _ _ (by omega) hK rfl rfl)⟩
    rw [ofs_full, List.length_finRange] at hrow
    exact ownsRow_putObj (own_base hrow (fun g hg => by have := (World.ownsRow.lt hrow g hg).1; omega)) _ hK rfl
  case stop =>
    rintro D c pre W _ _ h _
    exact h.elim
theorem Collect_any (Bc cap : Nat) (a : Option Addr) (L : List E) (w : World) (hBc : Bc < w.heap.size) (hc : w.cell? ⟨Bc, 0, none⟩ = some (.slice a L.length cap)) (hl : L.length ≤ 1000) (h : Hid (Ents w a L w.heap.size w.heap.size)) :
    Calls Try.prog 34 #[.func (.func 36) #[] #[.pointer (some ⟨Bc, 0, none⟩)]] w (CoPost w L) := by
  have C := Lib.hid (Append_any Bc cap a L w hBc hc hl h)
  clear hc
  go_enter Try.func34, Try.ntmps34
  go_wp2_with fail
  refine C.out.mono ?_
  rintro e w1 ⟨v, rfl, hp⟩
  replace hp := Lib.hid hp
  go_wp2_with fail
  go_ret
  exact ⟨_, rfl, hp.out⟩
end Go.Proofs.Ytlafeijkpnpdeaa.Agza

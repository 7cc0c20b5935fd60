/- package agenda: all of a living agenda. -/
import Derived.Test.YtlafeijkpnpdeaaAgzb
namespace Go.Proofs.Ytlafeijkpnpdeaa.Agzc
open Go.RowKit Go.Shelf Base Kit Alt Held Agp Aga Agb Agc Agd Age Agf Agg Agh Agi Agk Agm Agn Agx Agy Agza Agzb
set_option linter.unusedVariables false
set_option linter.unusedSimpArgs false
attribute [local go_sem] Oper.semAt_some
attribute [local go_sem] fne Agi.feq
theorem srt_of {D S : List E} (p : D.Perm S) (hs : srt S) (h : ∀ i j, i < j → j < D.length → ¬ lt (at_ D j) (at_ D i)) : D = S := by
  refine srt_eq (List.pairwise_iff_getElem.2 (fun i j hi hj hij => ?_)) hs p
  have hd : D.Pairwise (fun x y => lt x y ∨ lt y x) := (p.pairwise_iff (fun {x y} h => h.symm)).2 (hs.imp (fun h => .inl h))
  have h1 := List.pairwise_iff_getElem.1 hd i j hi hj hij
  have h2 := h i j hij hj
  rw [at_lt hi, at_lt hj] at h2
  exact h1.resolve_right h2
/-- the variable's slice lies in this block -/
def pt (W : World) (ob k : Nat) : Prop := ∃ v, W.cell? ⟨ob, 0, none⟩ = some v ∧ v.ownBlock = some k
/-- what a body may write: the variable, the row that it has, and what is new -/
structure KB (ob : Nat) (W W' : World) : Prop where
  size : W.heap.size ≤ W'.heap.size
  blk : ∀ k, k < W.heap.size → k ≠ ob → ¬ pt W ob k → (∃ o : Obj, W.heap[k]? = some o ∧ o.isCells = true) → W'.heap[k]? = W.heap[k]?
  ptr : ∀ k, pt W' ob k → pt W ob k ∨ W.heap.size ≤ k
theorem KB.refl (ob : Nat) (W : World) : KB ob W W := ⟨Nat.le_refl _, fun _ _ _ _ _ => rfl, fun _ h => .inl h⟩
theorem KB.trans {ob : Nat} {A B C : World} (h : KB ob A B) (k : KB ob B C) : KB ob A C := by
  refine ⟨Nat.le_trans h.size k.size, fun i hi ho hp hc => ?_, fun i hi => ?_⟩
  · have e := h.blk i hi ho hp hc
    refine (k.blk i (Nat.lt_of_lt_of_le hi h.size) ho (fun q => ?_) (by rw [e]; exact hc)).trans e
    rcases h.ptr i q with q | q
    · exact hp q
    · omega
  · rcases k.ptr i hi with q | q
    · exact h.ptr i q
    · exact .inr (Nat.le_trans h.size q)
theorem pt_same {W W' : World} {ob : Nat} (e : W'.heap[ob]? = W.heap[ob]?) {k : Nat} (h : pt W' ob k) : pt W ob k := by
  obtain ⟨v, h1, h2⟩ := h
  rw [World.cell?_of_block (w := W) (a := ⟨ob, 0, none⟩) e] at h1
  exact ⟨v, h1, h2⟩
theorem KB.of_below {ob : Nat} {W W' : World} (ho : ob < W.heap.size) (h : Below W.heap.size W W') : KB ob W W' :=
  ⟨h.size, fun k hk _ _ _ => h.block k hk, fun k hk => .inl (pt_same (h.block ob ho) hk)⟩
theorem kb_put {ob : Nat} {w : World} (ho : ob < w.heap.size) (W : World) (l : Nat) (o o' : Obj) (hl : w.heap.size ≤ l) (h : W.heap[l]? = some o) (h1 : o.isCells = false) (_ : o.isWalk = false) : KB ob W (W.putObj l o') := by
  have g := grownBy_putObj' W l o'
  refine ⟨g.size, fun k hk _ _ hc => g.block k hk (fun e => ?_), fun k hk => .inl (pt_same (World.putObj_heap_other (by omega)) hk)⟩
  obtain ⟨o2, q1, q2⟩ := hc
  simp only [Option.some.injEq] at e
  subst e
  rw [h] at q1
  cases q1
  rw [h1] at q2
  cases q2
theorem KB.cell {ob : Nat} {W W' : World} (h : KB ob W W') {g i : Nat} {u : Value} (e : W.cell? ⟨g, i, none⟩ = some u) (ho : g ≠ ob) (hp : ¬ pt W ob g) : W'.cell? ⟨g, i, none⟩ = some u := by
  have hc := cells_of_cell e
  rw [← e]
  obtain ⟨o, h1, h2⟩ := hc
  exact World.cell?_of_block (w := W) (h.blk g (Array.getElem?_eq_some_iff.1 h1).1 ho hp ⟨o, h1, h2⟩)
set_option maxRecDepth 100000 in
set_option maxHeartbeats 4000000 in
theorem all1_live (d : Nat) (hd : 1 ≤ d) (l Bc ob ab : Nat) (v : Value) (L S : List E) (last most : Int) (J Jx : List E → World → Prop) (W : World)
    (hc : W.cell? ⟨Bc, 0, none⟩ = some (.pointer (some ⟨ab, 0, none⟩))) (hA : Hid (Ag W ab v L last most)) (hI : Hid (Inv L S last)) (hob : ob < W.heap.size)
    (hp : Hid (∀ k, pt W ob k → k < W.heap.size))
    (HJ : Hid (∀ pre W1 W2, J pre W1 → Below W1.heap.size W1 W2 → J pre W2))
    (hY : Hid (∀ pre z W, J pre W → pre.length < S.length → YieldAt Fence.wide (d - 1) Try.prog l #[Value.agg (ev z).toArray] W fun e W' =>
      (e = .returned (.bool true) ∧ J (pre ++ [z]) W' ∧ KB ob W W') ∨ (e = .returned (.bool false) ∧ Jx (pre ++ [z]) W')))
    (h0 : J [] W) :
    CallsIn Fence.wide d Try.prog 27 #[.func (.yield l) #[] #[], .pointer (some ⟨Bc, 0, none⟩)] W fun r W' => (∃ v, r = .returned v) ∧
      ((∃ ys, ys = S ∧ J ys W') ∨ (∃ pre, True ∧ Jx pre W')) := by
  obtain ⟨a, cap, rfl⟩ := own_val hA.out.own
  have hab := hA.out.box.cell
  have hll := hA.out.len
  have hSL : Hid (S.length = L.length) := Lib.hid hI.out.pm.length_eq.symm
  refine callsIn_of_wp Try.func27 rfl trivial ?_ rfl
  simp only [Try.ntmps27, List.size_toArray, List.length_cons, List.length_nil, Nat.reduceAdd, Nat.reduceSub, Array.replicate_succ, Array.replicate_zero, List.push_toArray, List.append_toArray, List.nil_append, List.cons_append]
  gi_wp2_with fail
  refine ⟨trivial, ?_⟩
  refine (callsIn_wide.2 (live hA)).mono ?_
  rintro e w5 ⟨rfl, e9⟩
  cases e9
  gi_wp2_with fail
  refine ⟨trivial, ?_⟩
  refine (callsIn_wide.2 (Values_any a L.length cap W)).mono ?_
  rintro e w5 ⟨rfl, e9⟩
  have K1 : Below W.heap.size W w5 := by rw [e9]; exact (Below.refl _ _).alloc (Nat.le_refl _) _
  have c1 : w5.cell? ⟨W.heap.size, 0, none⟩ = some (.slice a L.length cap) := by rw [e9]; exact (Box.new W #[.slice a L.length cap] 29).cell 0
  have s1 : W.heap.size < w5.heap.size := by rw [e9]; simp
  clear e9
  have A5 := ag_next hA K1
  have EN : Hid (Ents w5 a L w5.heap.size w5.heap.size) := Lib.hid (fun i hi => by
    obtain ⟨g, cap2, hv, hlt, _⟩ := ent_at A5 (by omega)
    simp only [Value.slice.injEq] at hv
    obtain ⟨rfl, -, rfl⟩ := hv
    obtain ⟨c0, c1, c2⟩ := ent_cells A5 i hi (Lib.hid rfl)
    exact ⟨g, rfl, hlt, by omega, c0, c1, c2⟩)
  have SO := Lib.hid (Sorted_any W.heap.size cap a L w5 s1 c1 hll EN)
  have h5 := HJ.out _ _ _ h0 K1
  clear c1 hc hab
  gi_wp2_with fail
  refine ⟨trivial, ?_⟩
  refine (callsIn_wide.2 SO.out).mono ?_
  rintro e w6 ⟨v6, D, rfl, hD, hs, ho, hb⟩
  have eD : D = S := srt_of (hD.trans hI.out.pm) hI.out.st (by rw [hD.length_eq]; exact hs)
  subst eD
  have h6 := HJ.out _ _ _ h5 hb
  have HO := Lib.hid ho
  have hp6 : Hid (∀ k, pt w6 ob k → k < w5.heap.size) := Lib.hid (fun k hk => by
    have := hp.out k (pt_same (K1.block ob hob) (pt_same (hb.block ob (by omega)) hk))
    omega)
  have hob6 : ob < w5.heap.size := by omega
  obtain ⟨a6, cap6, rfl⟩ := own_val ho
  clear hD hs ho h5 h0 hp EN SO
  have hN := hSL.out
  rw [← hN] at HO hll ⊢
  clear hN
  gi_wp2_with fail
  gi_loopw [14] (fun i wr => ∃ k : Nat, k ≤ D.length ∧ i = .int .i64 k ∧ J (D.take k) wr ∧ Hid (KB ob w6 wr)) (fun i _ => D.length - (intOf i).toNat)
  case atStart => exact ⟨0, Nat.zero_le _, rfl, h6, Lib.hid (KB.refl _ _)⟩
  case round =>
    clear h6
    obtain ⟨k, hk, rfl, hJ, K⟩ := hrel
    by_cases hkn : k < D.length
    · obtain ⟨g, c, ev1, hg1, hg2⟩ := own_form HO.out (fun e => by simp only [Value.slice.injEq] at e; omega)
      simp only [Value.slice.injEq, true_and] at ev1
      obtain ⟨rfl, rfl⟩ := ev1
      obtain ⟨⟨x0, x1, x2⟩, hx⟩ : ∃ x, at_ D k = x := ⟨_, rfl⟩
      have np : ¬ pt w6 ob g := fun h => by have := hp6.out g h; omega
      obtain ⟨q0, q1, q2⟩ := enc_at D k hkn
      rw [hx] at q0 q1 q2
      have hl3 : k * 3 + 2 < D.length * 3 := by omega
      have c0 := K.out.cell ((HO.out.cellAt (k * 3) (by omega)).trans q0) (by omega) np
      have c1 := K.out.cell ((HO.out.cellAt (k * 3 + 1) (by omega)).trans q1) (by omega) np
      have c2 := K.out.cell ((HO.out.cellAt (k * 3 + 2) (by omega)).trans q2) (by omega) np
      dsimp only at c0 c1 c2
      have Y := Lib.hid (fun W' hj => hY.out (D.take k) (x0, x1, x2) W' hj (by rw [List.length_take]; omega))
      unfold ev at Y
      dsimp only at Y
      have J2 := HJ.out _ _ _ hJ ((Below.refl wr.heap.size wr).alloc (Nat.le_refl _) (.cells #[.int .i64 x0, .int .i64 x1, .int .i64 x2] 33))
      have K2 := Lib.hid (K.out.trans (KB.of_below (by have := K.out.size; omega) ((Below.refl wr.heap.size wr).alloc (Nat.le_refl _) (.cells #[.int .i64 x0, .int .i64 x1, .int .i64 x2] 33))))
      obtain ⟨fn, tmps, assign, body, hy, hR⟩ := Y.out _ J2
      have FS : Hid (D.take (k + 1) = D.take k ++ [(x0, x1, x2)]) := Lib.hid (by rw [List.take_succ_eq_append_getElem hkn, ← at_lt hkn, hx])
      clear hx hJ K Y np q0 q1 q2
      generalize D.length = n at *
      gi_wp2
      refine hR.mono ?_
      rintro e W3 (⟨rfl, hJ3, hk3⟩ | ⟨rfl, hJx3⟩)
      · rw [← FS.out] at hJ3
        gi_wp2
        go_roundw
        case rel => exact ⟨k + 1, by omega, by simp, hJ3, Lib.hid (K2.out.trans hk3)⟩
        case measure => simp [intOf]; omega
      · gi_wp2
        refine bodyPost_ret (results_none rfl _ _ _) rfl ?_
        exact ⟨⟨_, rfl⟩, .inr ⟨_, trivial, hJx3⟩⟩
    · obtain rfl : k = D.length := by omega
      rw [List.take_length] at hJ
      gi_wp2
      refine bodyPost_end (results_none rfl _ _ _) rfl ?_
      exact ⟨⟨_, rfl⟩, .inl ⟨_, rfl, hJ⟩⟩
end Go.Proofs.Ytlafeijkpnpdeaa.Agzc

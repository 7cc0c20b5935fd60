/- Rows of booleans; append of a whole owned row; make. -/
import Derived.Test.YtlafeijkpnpdeaaAlt
namespace Go.Proofs.Ytlafeijkpnpdeaa.Boo
open Go.RowKit Base Kit RefA Alt
set_option linter.unusedVariables false
set_option linter.unusedSimpArgs false

def brow (f : Nat → Bool) (n : Nat) : List Value := (List.range n).map fun j => .bool (f j)
theorem brow_succ (f : Nat → Bool) (n : Nat) : brow f (n + 1) = brow f n ++ [.bool (f n)] := by simp [brow, List.range_succ]
theorem brow_get (f : Nat → Bool) (n j : Nat) (h : j < n) : (brow f n)[j]? = some (.bool (f j)) := by simp [brow, h]
theorem brow_len (f : Nat → Bool) (n : Nat) : (brow f n).length = n := by simp [brow]
theorem brow_set (f : Nat → Bool) (n i : Nat) (v : Bool) : (brow f n).set i (.bool v) = brow (fun j => if j = i then v else f j) n := by
  apply List.ext_getElem?
  intro j
  rw [List.getElem?_set]
  by_cases h : i = j
  · subst h
    by_cases hj : i < n
    · simp [brow, hj]
    · simp [brow, hj]
  · rw [if_neg h]
    by_cases hj : j < n
    · rw [brow_get _ _ _ hj, brow_get _ _ _ hj, if_neg (fun e => h e.symm)]
    · rw [List.getElem?_eq_none (by rw [brow_len]; omega), List.getElem?_eq_none (by rw [brow_len]; omega)]
theorem infoBool : (Try.prog.info? 4).map (fun i => (i.zero, i.size, i.bytes)) = some (some (.bool false), 1, 1) := by kernel_rfl
theorem own_bool {w : World} {v : Value} {n : Nat} {f : Nat → Bool} {e : TypeId} (h : w.ownsRow 0 e 1 v n (brow f n)) : ∃ A c, v = .slice A n c ∧ ∀ i, i < n → ∃ g, A = some ⟨g, 0, none⟩ ∧ w.cell? ⟨g, i, none⟩ = some (.bool (f i)) := by
  rcases id h.2 with ⟨h1, h2⟩ | ⟨g, cap, cur, hv, hg, hh, r⟩
  · subst h2; exact ⟨none, 0, h1, fun i hi => by omega⟩
  · refine ⟨_, _, hv, fun i hi => ⟨g, rfl, ?_⟩⟩
    subst hv
    rw [h.cellAt i (by omega), brow_get f n i hi]
theorem own_int {w : World} {v : Value} {n : Nat} {f : Nat → Int} {e : TypeId} (h : w.ownsRow 0 e 1 v n (row f n)) : ∃ A c, v = .slice A n c ∧ ∀ i, i < n → ∃ g, A = some ⟨g, 0, none⟩ ∧ w.cell? ⟨g, i, none⟩ = some (.int .i64 (f i)) := by
  rcases id h.2 with ⟨h1, h2⟩ | ⟨g, cap, cur, hv, hg, hh, r⟩
  · subst h2; exact ⟨none, 0, h1, fun i hi => by omega⟩
  · refine ⟨_, _, hv, fun i hi => ⟨g, rfl, ?_⟩⟩
    subst hv
    rw [h.cellAt i (by omega), row_get f n i hi]
/-- a whole row of the same kind appended -/
theorem append_own (w : World) {ops : Array Oper} {rest : List Oper} {o : Oper} {a : Act} {Q : Exit → Act → World → Prop} (hgd : o.guard = .none) (s x : Operand) (t e : TypeId) (z : Value) (bytes : Nat)
    (hinfo : (Try.prog.info? e).map (fun i => (i.zero, i.size, i.bytes)) = some (some z, 1, bytes))
    (ho : o.op = .call { callee := .builtin .append, args := #[s, x], argTypes := #[t, t] }) (ht : Try.prog.underlying t = some (.slice e)) (hz : z.cells.size = 1)
    (base : Nat) (v : Value) (n : Nat) (xs : List Value) (hs : a.eval s = v) (hown : w.ownsRow base e 1 v n xs)
    (base2 : Nat) (vx : Value) (m : Nat) (ys : List Value) (hx : a.eval x = vx) (hown2 : w.ownsRow base2 e 1 vx m ys) (hy : ys.length = m) (h1 : ∀ u ∈ ys, u.oneCell' = true) (h63 : n + m ≤ 9223372036854775807) (hbytes : (n + m) * bytes ≤ 140737488355328) (hbase : base ≤ w.heap.size)
    (h : ∀ v' w', w'.ownsRow base e 1 v' (n + m) (xs ++ ys) → w.grownBy w' v.ownBlock → (v' = .slice none 0 0 ↔ v = .slice none 0 0 ∧ m = 0) → wpList Try.prog ops Q rest (a.put o.dst v') w') :
    wpList Try.prog ops Q (o :: rest) a w := by
  obtain ⟨i0, hi, hz0, hz1, hz2⟩ := info_parts hinfo
  rcases id hown2.2 with ⟨e1, rfl⟩ | ⟨g, cap, cur, hv, hg, hh, r⟩
  · obtain rfl : ys = [] := List.length_eq_zero_iff.1 hy
    refine wpList_append_own_none hgd s x t ho base e i0 1 ht hi v n xs hs hown (hx.trans e1) ?_
    exact h v w (by simpa using hown) (grown_refl _ _) ⟨fun e => ⟨e, rfl⟩, fun e => e.1⟩
  · refine wpList_append_own w hgd s x t ho base e i0 z 1 bytes ht hi hz0 hz1 hz2 hz (by decide) v n xs hs hown ⟨g, 0, none⟩ m cap ys (hx.trans hv) (by rw [hy, Nat.mul_one]) (fun j u hj => ?_) h1 (by unfold maxLen; omega) hbytes hbase h
    exact hown2.cells (g := g) (by rw [hv]; rfl) j u hj
theorem make_bools (w : World) (n : Nat) (hn : n ≤ 1000) : ∃ w', (Instr.makeSlice 50 (.int .i64 (n : Int)) (.int .i64 (n : Int))).run Try.prog w = .ok (.slice (some ⟨w.heap.size, 0, none⟩) n n) w' ∧
    w'.ownsRow w.heap.size 4 1 (.slice (some ⟨w.heap.size, 0, none⟩) n n) n (brow (fun _ => false) n) ∧ w.grownBy w' none := by
  obtain ⟨i0, hi, hz0, hz1, hz2⟩ := info_parts infoBool
  obtain ⟨w', h1, h2, h3⟩ := run_makeSlice_full w w.heap.size 50 4 i0 (.bool false) 1 Try.underlying50 hi hz0 hz1 .i64 .i64 n (by omega) (by rw [hz2]; omega) (by unfold maxLen; omega) (Nat.le_refl _)
  refine ⟨w', h1, ?_, h3⟩
  have e : (madeCells (Value.bool false).cells (n * 1)).toList = brow (fun _ => false) n := by
    apply List.ext_getElem?
    intro i
    unfold brow
    by_cases h : i < n
    · have e1 : i % 1 = 0 := Nat.mod_one i
      simp [madeCells, Value.cells, h, e1]
    · simp [madeCells, Value.cells, h]
  rw [e] at h2; exact h2
end Go.Proofs.Ytlafeijkpnpdeaa.Boo

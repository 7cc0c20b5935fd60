/- Worlds in which some blocks alone are altered; append of a whole slice; make. -/
import Derived.Test.YtgkahcchekiogaaKit
import Derived.Test.YtgkahcchekiogaaRefA
import Derived.OneCell
import Derived.Laws.AppendOwnNone
import Derived.Laws.OwnMore
namespace Go.Proofs.Ytgkahcchekiogaa.Alt
open Go.RowKit Base Kit RefA
set_option linter.unusedVariables false
set_option linter.unusedSimpArgs false

structure Alt (S : Nat → Prop) (w w' : World) : Prop where
  os : w'.os = w.os
  tape : w'.tape = w.tape
  output : w'.output = w.output
  size : w.heap.size ≤ w'.heap.size
  block : ∀ k, k < w.heap.size → ¬ S k → w'.heap[k]? = w.heap[k]?
theorem Alt.refl (S : Nat → Prop) (w : World) : Alt S w w := ⟨rfl, rfl, rfl, Nat.le_refl _, fun _ _ _ => rfl⟩
theorem Alt.trans {S : Nat → Prop} {a b c : World} (h : Alt S a b) (k : Alt S b c) : Alt S a c :=
  ⟨k.os.trans h.os, k.tape.trans h.tape, k.output.trans h.output, Nat.le_trans h.size k.size, fun i hi hs => (k.block i (Nat.lt_of_lt_of_le hi h.size) hs).trans (h.block i hi hs)⟩
theorem Alt.mono {S T : Nat → Prop} {a b : World} (h : Alt S a b) (k : ∀ i, S i → T i) : Alt T a b := ⟨h.os, h.tape, h.output, h.size, fun i hi hs => h.block i hi (fun x => hs (k i x))⟩
theorem Alt.of_below {S : Nat → Prop} {a b : World} (h : Below a.heap.size a b) : Alt S a b := ⟨h.os, h.tape, h.output, h.size, fun i hi _ => h.block i hi⟩
theorem Alt.of_grown {S : Nat → Prop} {a b : World} {row : Option Nat} (h : a.grownBy b row) (k : ∀ i, row = some i → S i) : Alt S a b :=
  ⟨h.os, h.tape, h.output, h.size, fun i hi hs => h.block i hi (fun e => hs (k i e.symm))⟩
theorem Alt.set {S : Nat → Prop} (w : World) (p : Addr) (v : Value) (h : S p.block) : Alt S w (w.setCell p v) :=
  ⟨rfl, rfl, rfl, by simp [World.setCell], fun i hi hs => Below.heap_setCell _ _ _ _ (fun e => hs (by rw [e]; exact h))⟩
theorem Alt.drewN {S : Nat → Prop} (w : World) (n : Nat) : Alt S w (w.drewN n) := ⟨rfl, rfl, rfl, Nat.le_refl _, fun _ _ _ => rfl⟩
theorem Alt.alloc {S : Nat → Prop} (w : World) (o : Obj) : Alt S w (w.alloc o) := Alt.of_below ((Below.refl _ _).alloc (Nat.le_refl _) _)
theorem Alt.below {S : Nat → Prop} {B : Nat} {w0 w w1 : World} (h : Below B w0 w) (k : Alt S w w1) (hB : B ≤ w.heap.size) (hs : ∀ i, S i → B ≤ i) : Below B w0 w1 :=
  ⟨k.os.trans h.os, k.tape.trans h.tape, k.output.trans h.output, Nat.le_trans h.size k.size, fun i hi => (k.block i (Nat.lt_of_lt_of_le hi hB) (fun x => by have := hs i x; omega)).trans (h.block i hi)⟩
theorem box_alt {S : Nat → Prop} {w w1 : World} {b : Nat} {vs : Array Value} {T : TypeId} (h : Box w b vs T) (k : Alt S w w1) (hs : ¬ S b) : Box w1 b vs T := by
  unfold Box; rw [k.block b h.lt hs]; exact h
theorem own_alt {S : Nat → Prop} {w w1 : World} {base g n cap : Nat} {e : TypeId} {size : Nat} {xs : List Value} (h : w.ownsRow base e size (.slice (some ⟨g, 0, none⟩) n cap) n xs) (k : Alt S w w1) (hs : ¬ S g) : w1.ownsRow base e size (.slice (some ⟨g, 0, none⟩) n cap) n xs := by
  have hlt := (h.lt g rfl).2
  obtain ⟨h1, h2⟩ := h
  refine ⟨h1, ?_⟩
  rcases h2 with h2 | ⟨g', cap', cur, hv, hg, hh, r⟩
  · exact .inl h2
  · refine .inr ⟨g', cap', cur, hv, hg, ?_, r⟩
    simp only [Value.slice.injEq, Option.some.injEq, Addr.mk.injEq, and_true, true_and] at hv
    obtain ⟨rfl, rfl⟩ := hv
    rw [k.block g hlt hs]; exact hh
theorem own_base {w : World} {base base' : Nat} {e : TypeId} {size : Nat} {v : Value} {n : Nat} {xs : List Value} (h : w.ownsRow base e size v n xs) (hb : ∀ g, v.ownBlock = some g → base' ≤ g) : w.ownsRow base' e size v n xs := by
  obtain ⟨h1, h2⟩ := h
  refine ⟨h1, ?_⟩
  rcases h2 with h2 | ⟨g, cap, cur, hv, hg, hh, r⟩
  · exact .inl h2
  · exact .inr ⟨g, cap, cur, hv, hb g (by rw [hv]; rfl), hh, r⟩
theorem rows_alt {S : Nat → Prop} {w w1 : World} {g : Nat} {off : Nat} {n sz : Nat} {f : Nat → Nat → Int} (h : Hid (Open.RowsIn w (some ⟨g, off, none⟩) n sz f)) (k : Alt S w w1) (hs : ¬ S g) : Hid (Open.RowsIn w1 (some ⟨g, off, none⟩) n sz f) := by
  obtain ⟨hn, h1, hf⟩ := h.out
  refine Lib.hid ⟨hn, ?_, hf⟩
  rcases h1 with h1 | ⟨b, off, e, hlt, hc⟩
  · exact .inl h1
  · cases e
    refine .inr ⟨_, _, rfl, Nat.lt_of_lt_of_le hlt k.size, fun i hi j hj => ?_⟩
    rw [World.cell?_of_block (w := w) (k.block _ hlt hs)]; exact hc i hi j hj
/-- a block of a type is no block of another one -/
theorem own_ne {w : World} {base g n cap b : Nat} {e T : TypeId} {size : Nat} {xs : List Value} {vs : Array Value} (h : w.ownsRow base e size (.slice (some ⟨g, 0, none⟩) n cap) n xs) (k : Box w b vs T) (hne : e ≠ T) : g ≠ b := by
  rcases h.2 with ⟨h', _⟩ | ⟨g', cap', cur, hv, hg, hh, r⟩
  · simp at h'
  · simp only [Value.slice.injEq, Option.some.injEq, Addr.mk.injEq, and_true, true_and] at hv
    obtain ⟨rfl, rfl⟩ := hv
    intro e1; subst e1
    unfold Box at k
    rw [hh] at k
    simp at k
    exact hne k.2
theorem box_ne {w : World} {b c : Nat} {T U : TypeId} {vs us : Array Value} (h : Box w b vs T) (k : Box w c us U) (hne : T ≠ U) : b ≠ c := by
  intro e; subst e
  unfold Box at h k
  rw [h] at k
  simp at k
  exact hne k.2
theorem rows_own {w : World} {base g n cap : Nat} {e : TypeId} {f : Nat → Int} (h : w.ownsRow base e 1 (.slice (some ⟨g, 0, none⟩) n cap) n (row f n)) (hn : n ≤ 9223372036854775807) (hf : ∀ i, i < n → I64 (f i)) :
    Hid (Open.RowsIn w (some ⟨g, 0, none⟩) n 1 (fun i _ => f i)) := by
  refine Lib.hid ⟨hn, .inr ⟨g, 0, rfl, (h.lt g rfl).2, fun i hi j hj => ?_⟩, fun i hi j _ => hf i hi⟩
  have := h.cellAt i (by omega)
  rw [row_get f n i hi] at this
  obtain rfl : j = 0 := by omega
  simpa using this

theorem own_form {w : World} {base : Nat} {e : TypeId} {size : Nat} {v : Value} {n : Nat} {xs : List Value} (h : w.ownsRow base e size v n xs) (hne : v ≠ .slice none 0 0) : ∃ g c, v = .slice (some ⟨g, 0, none⟩) n c ∧ base ≤ g ∧ g < w.heap.size := by
  rcases h.2 with ⟨h', _⟩ | ⟨g, cap, cur, hv, hg, hh, r⟩
  · exact absurd h' hne
  · exact ⟨g, cap, hv, hg, (h.lt g (by rw [hv]; rfl)).2⟩
/-- append of a whole slice to a row of the call's own -/
theorem append_all (w : World) {ops : Array Oper} {rest : List Oper} {o : Oper} {a : Act} {Q : Exit → Act → World → Prop} (hgd : o.guard = .none) (s x : Operand) (t : TypeId)
    (ho : o.op = .call { callee := .builtin .append, args := #[s, x], argTypes := #[t, t] }) (ht : Try.prog.underlying t = some (.slice 3))
    (base : Nat) (v : Value) (n : Nat) (xs : List Value) (hs : a.eval s = v) (hown : w.ownsRow base 3 1 v n xs)
    (A : Option Addr) (m c : Nat) (f : Nat → Int) (hx : a.eval x = .slice A m c) (hA : A = none → c = 0 ∧ m = 0) (hr : Hid (Open.RowsIn w A m 1 (fun i _ => f i))) (h63 : n + m ≤ 9223372036854775807) (hbytes : (n + m) * 8 ≤ 140737488355328) (hbase : base ≤ w.heap.size)
    (h : ∀ v' w', w'.ownsRow base 3 1 v' (n + m) (xs ++ row f m) → w.grownBy w' v.ownBlock → (v' = .slice none 0 0 ↔ v = .slice none 0 0 ∧ m = 0) → wpList Try.prog ops Q rest (a.put o.dst v') w') :
    wpList Try.prog ops Q (o :: rest) a w := by
  obtain ⟨i0, hi, hz0, hz1, hz2⟩ := info_parts infoInt
  cases A with
  | none =>
    obtain ⟨rfl, rfl⟩ := hA rfl
    refine wpList_append_own_none hgd s x t ho base 3 i0 1 ht hi v n xs hs hown hx ?_
    exact h v w (by simpa [row] using hown) (grown_refl _ _) ⟨fun e => ⟨e, rfl⟩, fun e => e.1⟩
  | some ad =>
    refine wpList_append_own w hgd s x t ho base 3 i0 (.int .i64 0) 1 8 ht hi hz0 hz1 hz2 rfl (by decide) v n xs hs hown ad m c (row f m) hx (by rw [row_len, Nat.mul_one]) (fun j u hj => ?_) (fun u hu => ?_) (by unfold maxLen; omega) hbytes hbase h
    · have hjm : j < m := by
        refine Nat.lt_of_not_le fun hle => ?_
        rw [List.getElem?_eq_none (by rw [row_len]; exact hle)] at hj; cases hj
      rw [row_get f m j hjm] at hj
      cases hj
      obtain ⟨b, off, e, _, hc, _⟩ := rows_at1 hr j hjm
      cases e
      rw [Open.add_none]; exact hc
    · simp only [row, List.mem_map] at hu
      obtain ⟨_, _, rfl⟩ := hu
      rfl

theorem row_append (f g : Nat → Int) (n m : Nat) : row f n ++ row g m = row (fun i => if i < n then f i else g (i - n)) (n + m) := by
  unfold row
  rw [List.range_add, List.map_append, List.map_map]
  congr 1
  · apply List.map_congr_left
    intro i hi
    simp at hi
    simp [hi]
  · apply List.map_congr_left
    intro i _
    simp
    omega
/-- make of zeros -/
theorem make_ints (w : World) (n : Nat) (hn : n ≤ 1000) : ∃ w', (Instr.makeSlice 55 (.int .i64 (n : Int)) (.int .i64 (n : Int))).run Try.prog w = .ok (.slice (some ⟨w.heap.size, 0, none⟩) n n) w' ∧
    w'.ownsRow w.heap.size 3 1 (.slice (some ⟨w.heap.size, 0, none⟩) n n) n (row (fun _ => 0) n) ∧ w.grownBy w' none := by
  obtain ⟨i0, hi, hz0, hz1, hz2⟩ := info_parts infoInt
  obtain ⟨w', h1, h2, h3⟩ := run_makeSlice_full w w.heap.size 55 3 i0 (.int .i64 0) 1 Try.underlying55 hi hz0 hz1 .i64 .i64 n (by omega) (by rw [hz2]; omega) (by unfold maxLen; omega) (Nat.le_refl _)
  refine ⟨w', h1, ?_, h3⟩
  have e : (madeCells (Value.int .i64 0).cells (n * 1)).toList = row (fun _ => 0) n := by
    apply List.ext_getElem?
    intro i
    unfold row
    by_cases h : i < n
    · have e1 : i % 1 = 0 := Nat.mod_one i
      simp [madeCells, Value.cells, h, e1]
    · simp [madeCells, Value.cells, h]
  rw [e] at h2; exact h2
end Go.Proofs.Ytgkahcchekiogaa.Alt

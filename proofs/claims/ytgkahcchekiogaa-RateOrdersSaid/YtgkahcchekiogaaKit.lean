/- Small laws on worlds: blocks that are known whole; what is kept over calls. -/
import Derived.Test.YtgkahcchekiogaaBase
import Derived.Test.YtgkahcchekiogaaOpen
import Derived.Deep.RegionHeld3
import Derived.WalkLawsBesides
import Derived.BigQuiet
import Derived.Deep.QuietTactic
import Derived.Outline
namespace Go.Proofs.Ytgkahcchekiogaa.Kit
open Go.RowKit Base
set_option linter.unusedVariables false

def I64 (a : Int) : Prop := -9223372036854775808 ≤ a ∧ a ≤ 9223372036854775807
theorem i64 {a : Int} (h1 : -9223372036854775808 ≤ a) (h2 : a ≤ 9223372036854775807) : I64 a := ⟨h1, h2⟩

/-- a block of cells that is known whole, and may be written -/
def Box (w : World) (b : Nat) (vs : Array Value) (T : TypeId) : Prop := w.heap[b]? = some (.cells vs T (0, 0))
theorem Box.cell {w : World} {b : Nat} {vs : Array Value} {T : TypeId} (h : Box w b vs T) : ∀ i, w.cell? ⟨b, i, none⟩ = vs[i]? := fun i => by
  unfold Box at h; simp [World.cell?, h]
theorem Box.frozen {w : World} {b : Nat} {vs : Array Value} {T : TypeId} (h : Box w b vs T) : ∀ i, w.frozen? ⟨b, i, none⟩ = false := fun i => by
  unfold Box at h; simp [World.frozen?, h]
theorem Box.lt {w : World} {b : Nat} {vs : Array Value} {T : TypeId} (h : Box w b vs T) : b < w.heap.size := by
  unfold Box at h; exact (Array.getElem?_eq_some_iff.1 h).1
theorem Box.below {w w1 : World} {B b : Nat} {vs : Array Value} {T : TypeId} (h : Box w b vs T) (hb : Below B w w1) (hB : b < B) : Box w1 b vs T := by
  unfold Box; rw [hb.block b hB]; exact h
theorem Box.next {w w1 : World} {b : Nat} {vs : Array Value} {T : TypeId} (h : Box w b vs T) (hb : Below w.heap.size w w1) : Box w1 b vs T := h.below hb h.lt
theorem Box.new (w : World) (vs : Array Value) (T : TypeId) : Box (w.alloc (.cells vs T)) w.heap.size vs T := by
  exact heap_alloc_new _ _
theorem Box.alloc {w : World} {b : Nat} {vs : Array Value} {T : TypeId} (h : Box w b vs T) (o : Obj) : Box (w.alloc o) b vs T := by
  unfold Box; rw [Below.heap_alloc _ _ _ h.lt]; exact h
theorem Box.drew {w : World} {b : Nat} {vs : Array Value} {T : TypeId} (h : Box w b vs T) : Box w.drew b vs T := h
theorem Box.drewN {w : World} {b : Nat} {vs : Array Value} {T : TypeId} (h : Box w b vs T) (n : Nat) : Box (w.drewN n) b vs T := h
theorem Box.set {w : World} {b : Nat} {vs : Array Value} {T : TypeId} (h : Box w b vs T) (i : Nat) (v : Value) : Box (w.setCell ⟨b, i, none⟩ v) b (vs.setIfInBounds i v) T := by
  unfold Box; exact heap_setCell_same w b i _ _ v h
theorem Box.setOther {w : World} {b : Nat} {vs : Array Value} {T : TypeId} (h : Box w b vs T) (p : Addr) (v : Value) (hp : b ≠ p.block) : Box (w.setCell p v) b vs T := by
  unfold Box; rw [Below.heap_setCell _ _ _ _ hp]; exact h
theorem Box.grown {w w1 : World} {b : Nat} {vs : Array Value} {T : TypeId} (h : Box w b vs T) {row : Option Nat} (hg : w.grownBy w1 row) (hne : some b ≠ row) : Box w1 b vs T := by
  unfold Box; rw [hg.block b h.lt hne]; exact h

theorem rule_set {w : World} {b : Nat} {vs : Array Value} (h : ∀ i, w.cell? ⟨b, i, none⟩ = vs[i]?) (p : Addr) (u : Value) (hp : b ≠ p.block) : ∀ i, (w.setCell p u).cell? ⟨b, i, none⟩ = vs[i]? := fun i => by
  rw [World.cell?_of_block (w := w) (Below.heap_setCell w p u b hp)]; exact h i
theorem ret_bool {a b : Bool} (h : a = b) : Ending.returned (.bool a) = .returned (.bool b) := by rw [h]
theorem ret_int {k : IntKind} {a b : Int} (h : a = b) : Ending.returned (.int k a) = .returned (.int k b) := by rw [h]
theorem ret_pair {k l : IntKind} {a b c d : Int} (h : (a, b) = (c, d)) : Ending.returned (.tuple #[.int k a, .int l b]) = .returned (.tuple #[.int k c, .int l d]) := by cases h; rfl
/-- from an entry on -/
theorem below_in {w0 w : World} (o : Obj) (h : Below (w0.alloc o).heap.size (w0.alloc o) w) : Below w0.heap.size w0 w := ((Below.refl _ _).alloc (Nat.le_refl _) _).trans (h.mono (by simp))
theorem below_next {w0 w w1 : World} (h : Below w0.heap.size w0 w) (k : Below w.heap.size w w1) : Below w0.heap.size w0 w1 := h.trans (k.mono h.size)
theorem below_hid {w0 w w1 : World} (h : Hid (Below w0.heap.size w0 w)) (k : Below w.heap.size w w1) : Hid (Below w0.heap.size w0 w1) := Lib.hid (below_next h.out k)
theorem keep' {W w1 : World} (hb : Below W.heap.size W w1) {a : Addr} {v : Value} (h : W.cell? a = some v) : w1.cell? a = some v := keep hb h (lt_of_cell h)
theorem fromGrown {B : Nat} {w0 w w1 : World} {b : Nat} (h : Below B w0 w) (hg : w.grownBy w1 (some b)) (hB : B ≤ w.heap.size) (hb : B ≤ b) : Below B w0 w1 :=
  h.grown hg hB (fun k hk => by cases hk; exact hb)
theorem grown_set (w : World) (b i : Nat) (v : Value) : w.grownBy (w.setCell ⟨b, i, none⟩ v) (some b) :=
  ⟨rfl, rfl, rfl, by simp [World.setCell], fun k hk hne => Below.heap_setCell _ _ _ _ (fun e => hne (by rw [e]))⟩
theorem grown_trans {a b c : World} {row : Option Nat} (h : a.grownBy b row) (k : b.grownBy c row) : a.grownBy c row :=
  ⟨k.os.trans h.os, k.tape.trans h.tape, k.output.trans h.output, Nat.le_trans h.size k.size, fun i hi hne => (k.block i (Nat.lt_of_lt_of_le hi h.size) hne).trans (h.block i hi hne)⟩
theorem grown_refl (w : World) (row : Option Nat) : w.grownBy w row := ⟨rfl, rfl, rfl, Nat.le_refl _, fun _ _ _ => rfl⟩
theorem grown_drewN (w : World) (n : Nat) (row : Option Nat) : w.grownBy (w.drewN n) row := ⟨rfl, rfl, rfl, Nat.le_refl _, fun _ _ _ => rfl⟩
theorem grown_below {w w1 : World} (h : Below w.heap.size w w1) (row : Option Nat) : w.grownBy w1 row := ⟨h.os, h.tape, h.output, h.size, fun i hi _ => h.block i hi⟩

theorem rows_below {w w1 : World} {B : Nat} {a : Option Addr} {n sz : Nat} {f : Nat → Nat → Int} (h : Open.RowsIn w a n sz f) (hb : Below B w w1) (hB : w.heap.size ≤ B) : Open.RowsIn w1 a n sz f := by
  obtain ⟨hn, h1, hf⟩ := h
  refine ⟨hn, ?_, hf⟩
  rcases h1 with h1 | ⟨b, off, e, hlt, hc⟩
  · exact .inl h1
  · exact .inr ⟨b, off, e, Nat.lt_of_lt_of_le hlt (hb.mono hB).size, fun i hi j hj => keep hb (hc i hi j hj) (Nat.lt_of_lt_of_le hlt hB)⟩
theorem rows_next {w w1 : World} {a : Option Addr} {n sz : Nat} {f : Nat → Nat → Int} (h : Hid (Open.RowsIn w a n sz f)) (hb : Below w.heap.size w w1) : Hid (Open.RowsIn w1 a n sz f) := Lib.hid (rows_below h.out hb (Nat.le_refl _))
theorem rows_drew {w : World} {a : Option Addr} {n sz : Nat} {f : Nat → Nat → Int} (h : Hid (Open.RowsIn w a n sz f)) : Hid (Open.RowsIn w.drew a n sz f) := h
theorem below_drew {w0 w : World} (h : Hid (Below w0.heap.size w0 w)) : Hid (Below w0.heap.size w0 w.drew) := Lib.hid h.out.drew
theorem rows_alloc {w : World} {a : Option Addr} {n sz : Nat} {f : Nat → Nat → Int} (h : Hid (Open.RowsIn w a n sz f)) (o : Obj) : Hid (Open.RowsIn (w.alloc o) a n sz f) :=
  Lib.hid (rows_below h.out ((Below.refl w.heap.size w).alloc (Nat.le_refl _) o) (Nat.le_refl _))
theorem below_alloc {w0 w w1 : World} (o : Obj) (h : Hid (Below w0.heap.size w0 w)) (k : Below (w.alloc o).heap.size (w.alloc o) w1) : Hid (Below w0.heap.size w0 w1) := Lib.hid (below_next h.out (below_in o k))
theorem lt_next {w w1 : World} (hb : Below w.heap.size w w1) {b : Nat} (h : b < w.heap.size) : b < w1.heap.size := Nat.lt_of_lt_of_le h hb.size
/-- one row of some -/
theorem rows_at {w : World} {a : Option Addr} {n sz : Nat} {f : Nat → Nat → Int} (h : Hid (Open.RowsIn w a n sz f)) (k : Nat) (hk : k < n) :
    ∃ b off, a = some ⟨b, off, none⟩ ∧ b < w.heap.size ∧ (∀ j, j < sz → w.cell? ⟨b, off + (k * sz + j), none⟩ = some (.int .i64 (f k j))) ∧ ∀ j, j < sz → I64 (f k j) := by
  rcases h.out.2.1 with h1 | ⟨b, off, e, h1, h2⟩
  · omega
  · exact ⟨b, off, e, h1, fun j hj => h2 k hk j hj, fun j hj => h.out.2.2 k hk j hj⟩
theorem rows_at1 {w : World} {a : Option Addr} {n : Nat} {f : Nat → Nat → Int} (h : Hid (Open.RowsIn w a n 1 f)) (k : Nat) (hk : k < n) :
    ∃ b off, a = some ⟨b, off, none⟩ ∧ b < w.heap.size ∧ w.cell? ⟨b, off + k, none⟩ = some (.int .i64 (f k 0)) ∧ I64 (f k 0) := by
  obtain ⟨b, off, e, h1, h2, h3⟩ := rows_at h k hk
  exact ⟨b, off, e, h1, by have := h2 0 (by omega); simpa using this, h3 0 (by omega)⟩
theorem rows_at2 {w : World} {a : Option Addr} {n : Nat} {f : Nat → Nat → Int} (h : Hid (Open.RowsIn w a n 2 f)) (k : Nat) (hk : k < n) :
    ∃ b off, a = some ⟨b, off, none⟩ ∧ b < w.heap.size ∧ w.cell? ⟨b, off + k * 2, none⟩ = some (.int .i64 (f k 0)) ∧ w.cell? ⟨b, off + k * 2 + 1, none⟩ = some (.int .i64 (f k 1)) ∧ I64 (f k 0) ∧ I64 (f k 1) := by
  obtain ⟨b, off, e, h1, h2, h3⟩ := rows_at h k hk
  exact ⟨b, off, e, h1, h2 0 (by omega), h2 1 (by omega), h3 0 (by omega), h3 1 (by omega)⟩
theorem rows_at3 {w : World} {a : Option Addr} {n : Nat} {f : Nat → Nat → Int} (h : Hid (Open.RowsIn w a n 3 f)) (k : Nat) (hk : k < n) :
    ∃ b off, a = some ⟨b, off, none⟩ ∧ b < w.heap.size ∧ w.cell? ⟨b, off + k * 3, none⟩ = some (.int .i64 (f k 0)) ∧ w.cell? ⟨b, off + k * 3 + 1, none⟩ = some (.int .i64 (f k 1)) ∧ w.cell? ⟨b, off + k * 3 + 2, none⟩ = some (.int .i64 (f k 2)) ∧ I64 (f k 0) ∧ I64 (f k 1) ∧ I64 (f k 2) := by
  obtain ⟨b, off, e, h1, h2, h3⟩ := rows_at h k hk
  exact ⟨b, off, e, h1, h2 0 (by omega), h2 1 (by omega), h2 2 (by omega), h3 0 (by omega), h3 1 (by omega), h3 2 (by omega)⟩
theorem rows_at4 {w : World} {a : Option Addr} {n : Nat} {f : Nat → Nat → Int} (h : Hid (Open.RowsIn w a n 4 f)) (k : Nat) (hk : k < n) :
    ∃ b off, a = some ⟨b, off, none⟩ ∧ b < w.heap.size ∧ w.cell? ⟨b, off + k * 4, none⟩ = some (.int .i64 (f k 0)) ∧ w.cell? ⟨b, off + k * 4 + 1, none⟩ = some (.int .i64 (f k 1)) ∧ w.cell? ⟨b, off + k * 4 + 2, none⟩ = some (.int .i64 (f k 2)) ∧ w.cell? ⟨b, off + k * 4 + 3, none⟩ = some (.int .i64 (f k 3)) ∧ I64 (f k 0) ∧ I64 (f k 1) ∧ I64 (f k 2) ∧ I64 (f k 3) := by
  obtain ⟨b, off, e, h1, h2, h3⟩ := rows_at h k hk
  exact ⟨b, off, e, h1, h2 0 (by omega), h2 1 (by omega), h2 2 (by omega), h2 3 (by omega), h3 0 (by omega), h3 1 (by omega), h3 2 (by omega), h3 3 (by omega)⟩
theorem below_drewN' {B : Nat} {a w : World} (h : Below B a w) (n : Nat) : Below B a (w.drewN n) := h.trans ⟨rfl, rfl, rfl, Nat.le_refl _, fun _ _ => rfl⟩
end Go.Proofs.Ytgkahcchekiogaa.Kit

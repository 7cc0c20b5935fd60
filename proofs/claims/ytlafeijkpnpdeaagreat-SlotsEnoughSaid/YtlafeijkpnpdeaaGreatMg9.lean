import Derived.Deep.RegionHeld3
import Derived.WalkLawsBesides
import Derived.BigQuiet
import Derived.Deep.QuietTactic
import Derived.Outline
import Derived.OrdersHeld
import Derived.Test.YtlafeijkpnpdeaaGreatMg2
import Derived.Test.YtlafeijkpnpdeaaGreatMg7

/- Small laws on worlds: blocks that are known whole; what is kept over calls. -/
namespace Go.Proofs.YtlafeijkpnpdeaaGreat.Kit
open Go.RowKit Base
set_option linter.unusedVariables false

def I64 (a : Int) : Prop := -9223372036854775808 ≤ a ∧ a ≤ 9223372036854775807
theorem i64 {a : Int} (h1 : -9223372036854775808 ≤ a) (h2 : a ≤ 9223372036854775807) : I64 a := ⟨h1, h2⟩

/-- a block of cells that is known whole, and may be written -/
def Box (w : World) (b : Nat) (vs : Array Value) (T : TypeId) : Prop := w.heap[b]? = some (.cells vs T (0, 0))
theorem Box.cell {w : World} {b : Nat} {vs : Array Value} {T : TypeId} (h : Box w b vs T) : ∀ i, w.cell? ⟨b, i, none⟩ = vs[i]? := fun i => by
  unfold Box at h; simp [World.cell?, h]
theorem Box.frozen {w : World} {b : Nat} {vs : Array Value} {T : TypeId} (h : Box w b vs T) : ∀ i, w.frozen? ⟨b, i, none⟩ = false := fun i => by
  unfold Box at h; simp [World.frozen?, h]
theorem Box.lt {w : World} {b : Nat} {vs : Array Value} {T : TypeId} (h : Box w b vs T) : b < w.heap.size := by
  unfold Box at h; exact (Array.getElem?_eq_some_iff.1 h).1
theorem Box.below {w w1 : World} {B b : Nat} {vs : Array Value} {T : TypeId} (h : Box w b vs T) (hb : Below B w w1) (hB : b < B) : Box w1 b vs T := by
  unfold Box; rw [hb.block b hB]; exact h
theorem Box.next {w w1 : World} {b : Nat} {vs : Array Value} {T : TypeId} (h : Box w b vs T) (hb : Below w.heap.size w w1) : Box w1 b vs T := h.below hb h.lt
theorem Box.new (w : World) (vs : Array Value) (T : TypeId) : Box (w.alloc (.cells vs T)) w.heap.size vs T := by
  exact heap_alloc_new _ _
theorem Box.alloc {w : World} {b : Nat} {vs : Array Value} {T : TypeId} (h : Box w b vs T) (o : Obj) : Box (w.alloc o) b vs T := by
  unfold Box; rw [Below.heap_alloc _ _ _ h.lt]; exact h
theorem Box.drew {w : World} {b : Nat} {vs : Array Value} {T : TypeId} (h : Box w b vs T) : Box w.drew b vs T := h
theorem Box.drewN {w : World} {b : Nat} {vs : Array Value} {T : TypeId} (h : Box w b vs T) (n : Nat) : Box (w.drewN n) b vs T := h
theorem Box.set {w : World} {b : Nat} {vs : Array Value} {T : TypeId} (h : Box w b vs T) (i : Nat) (v : Value) : Box (w.setCell ⟨b, i, none⟩ v) b (vs.setIfInBounds i v) T := by
  unfold Box; exact heap_setCell_same w b i _ _ v h
theorem Box.setOther {w : World} {b : Nat} {vs : Array Value} {T : TypeId} (h : Box w b vs T) (p : Addr) (v : Value) (hp : b ≠ p.block) : Box (w.setCell p v) b vs T := by
  unfold Box; rw [Below.heap_setCell _ _ _ _ hp]; exact h
theorem Box.grown {w w1 : World} {b : Nat} {vs : Array Value} {T : TypeId} (h : Box w b vs T) {row : Option Nat} (hg : w.grownBy w1 row) (hne : some b ≠ row) : Box w1 b vs T := by
  unfold Box; rw [hg.block b h.lt hne]; exact h

theorem rule_set {w : World} {b : Nat} {vs : Array Value} (h : ∀ i, w.cell? ⟨b, i, none⟩ = vs[i]?) (p : Addr) (u : Value) (hp : b ≠ p.block) : ∀ i, (w.setCell p u).cell? ⟨b, i, none⟩ = vs[i]? := fun i => by
  rw [World.cell?_of_block (w := w) (Below.heap_setCell w p u b hp)]; exact h i
theorem ret_bool {a b : Bool} (h : a = b) : Ending.returned (.bool a) = .returned (.bool b) := by rw [h]
theorem ret_int {k : IntKind} {a b : Int} (h : a = b) : Ending.returned (.int k a) = .returned (.int k b) := by rw [h]
theorem ret_pair {k l : IntKind} {a b c d : Int} (h : (a, b) = (c, d)) : Ending.returned (.tuple #[.int k a, .int l b]) = .returned (.tuple #[.int k c, .int l d]) := by cases h; rfl
/-- from an entry on -/
theorem below_in {w0 w : World} (o : Obj) (h : Below (w0.alloc o).heap.size (w0.alloc o) w) : Below w0.heap.size w0 w := ((Below.refl _ _).alloc (Nat.le_refl _) _).trans (h.mono (by simp))
theorem below_next {w0 w w1 : World} (h : Below w0.heap.size w0 w) (k : Below w.heap.size w w1) : Below w0.heap.size w0 w1 := h.trans (k.mono h.size)
theorem below_hid {w0 w w1 : World} (h : Hid (Below w0.heap.size w0 w)) (k : Below w.heap.size w w1) : Hid (Below w0.heap.size w0 w1) := Lib.hid (below_next h.out k)
theorem keep' {W w1 : World} (hb : Below W.heap.size W w1) {a : Addr} {v : Value} (h : W.cell? a = some v) : w1.cell? a = some v := keep hb h (lt_of_cell h)
theorem fromGrown {B : Nat} {w0 w w1 : World} {b : Nat} (h : Below B w0 w) (hg : w.grownBy w1 (some b)) (hB : B ≤ w.heap.size) (hb : B ≤ b) : Below B w0 w1 :=
  h.grown hg hB (fun k hk => by cases hk; exact hb)
theorem grown_set (w : World) (b i : Nat) (v : Value) : w.grownBy (w.setCell ⟨b, i, none⟩ v) (some b) :=
  ⟨rfl, rfl, rfl, by simp [World.setCell], fun k hk hne => Below.heap_setCell _ _ _ _ (fun e => hne (by rw [e]))⟩
theorem grown_trans {a b c : World} {row : Option Nat} (h : a.grownBy b row) (k : b.grownBy c row) : a.grownBy c row :=
  ⟨k.os.trans h.os, k.tape.trans h.tape, k.output.trans h.output, Nat.le_trans h.size k.size, fun i hi hne => (k.block i (Nat.lt_of_lt_of_le hi h.size) hne).trans (h.block i hi hne)⟩
theorem grown_refl (w : World) (row : Option Nat) : w.grownBy w row := ⟨rfl, rfl, rfl, Nat.le_refl _, fun _ _ _ => rfl⟩
theorem grown_drewN (w : World) (n : Nat) (row : Option Nat) : w.grownBy (w.drewN n) row := ⟨rfl, rfl, rfl, Nat.le_refl _, fun _ _ _ => rfl⟩
theorem grown_below {w w1 : World} (h : Below w.heap.size w w1) (row : Option Nat) : w.grownBy w1 row := ⟨h.os, h.tape, h.output, h.size, fun i hi _ => h.block i hi⟩

theorem rows_below {w w1 : World} {B : Nat} {a : Option Addr} {n sz : Nat} {f : Nat → Nat → Int} (h : Open.RowsIn w a n sz f) (hb : Below B w w1) (hB : w.heap.size ≤ B) : Open.RowsIn w1 a n sz f := by
  obtain ⟨hn, h1, hf⟩ := h
  refine ⟨hn, ?_, hf⟩
  rcases h1 with h1 | ⟨b, off, e, hlt, hc⟩
  · exact .inl h1
  · exact .inr ⟨b, off, e, Nat.lt_of_lt_of_le hlt (hb.mono hB).size, fun i hi j hj => keep hb (hc i hi j hj) (Nat.lt_of_lt_of_le hlt hB)⟩
theorem rows_next {w w1 : World} {a : Option Addr} {n sz : Nat} {f : Nat → Nat → Int} (h : Hid (Open.RowsIn w a n sz f)) (hb : Below w.heap.size w w1) : Hid (Open.RowsIn w1 a n sz f) := Lib.hid (rows_below h.out hb (Nat.le_refl _))
theorem rows_drew {w : World} {a : Option Addr} {n sz : Nat} {f : Nat → Nat → Int} (h : Hid (Open.RowsIn w a n sz f)) : Hid (Open.RowsIn w.drew a n sz f) := h
theorem below_drew {w0 w : World} (h : Hid (Below w0.heap.size w0 w)) : Hid (Below w0.heap.size w0 w.drew) := Lib.hid h.out.drew
theorem rows_alloc {w : World} {a : Option Addr} {n sz : Nat} {f : Nat → Nat → Int} (h : Hid (Open.RowsIn w a n sz f)) (o : Obj) : Hid (Open.RowsIn (w.alloc o) a n sz f) :=
  Lib.hid (rows_below h.out ((Below.refl w.heap.size w).alloc (Nat.le_refl _) o) (Nat.le_refl _))
theorem below_alloc {w0 w w1 : World} (o : Obj) (h : Hid (Below w0.heap.size w0 w)) (k : Below (w.alloc o).heap.size (w.alloc o) w1) : Hid (Below w0.heap.size w0 w1) := Lib.hid (below_next h.out (below_in o k))
theorem lt_next {w w1 : World} (hb : Below w.heap.size w w1) {b : Nat} (h : b < w.heap.size) : b < w1.heap.size := Nat.lt_of_lt_of_le h hb.size
/-- one row of some -/
theorem rows_at {w : World} {a : Option Addr} {n sz : Nat} {f : Nat → Nat → Int} (h : Hid (Open.RowsIn w a n sz f)) (k : Nat) (hk : k < n) :
    ∃ b off, a = some ⟨b, off, none⟩ ∧ b < w.heap.size ∧ (∀ j, j < sz → w.cell? ⟨b, off + (k * sz + j), none⟩ = some (.int .i64 (f k j))) ∧ ∀ j, j < sz → I64 (f k j) := by
  rcases h.out.2.1 with h1 | ⟨b, off, e, h1, h2⟩
  · omega
  · exact ⟨b, off, e, h1, fun j hj => h2 k hk j hj, fun j hj => h.out.2.2 k hk j hj⟩
theorem rows_at1 {w : World} {a : Option Addr} {n : Nat} {f : Nat → Nat → Int} (h : Hid (Open.RowsIn w a n 1 f)) (k : Nat) (hk : k < n) :
    ∃ b off, a = some ⟨b, off, none⟩ ∧ b < w.heap.size ∧ w.cell? ⟨b, off + k, none⟩ = some (.int .i64 (f k 0)) ∧ I64 (f k 0) := by
  obtain ⟨b, off, e, h1, h2, h3⟩ := rows_at h k hk
  exact ⟨b, off, e, h1, by have := h2 0 (by omega); simpa using this, h3 0 (by omega)⟩
theorem rows_at2 {w : World} {a : Option Addr} {n : Nat} {f : Nat → Nat → Int} (h : Hid (Open.RowsIn w a n 2 f)) (k : Nat) (hk : k < n) :
    ∃ b off, a = some ⟨b, off, none⟩ ∧ b < w.heap.size ∧ w.cell? ⟨b, off + k * 2, none⟩ = some (.int .i64 (f k 0)) ∧ w.cell? ⟨b, off + k * 2 + 1, none⟩ = some (.int .i64 (f k 1)) ∧ I64 (f k 0) ∧ I64 (f k 1) := by
  obtain ⟨b, off, e, h1, h2, h3⟩ := rows_at h k hk
  exact ⟨b, off, e, h1, h2 0 (by omega), h2 1 (by omega), h3 0 (by omega), h3 1 (by omega)⟩
theorem rows_at3 {w : World} {a : Option Addr} {n : Nat} {f : Nat → Nat → Int} (h : Hid (Open.RowsIn w a n 3 f)) (k : Nat) (hk : k < n) :
    ∃ b off, a = some ⟨b, off, none⟩ ∧ b < w.heap.size ∧ w.cell? ⟨b, off + k * 3, none⟩ = some (.int .i64 (f k 0)) ∧ w.cell? ⟨b, off + k * 3 + 1, none⟩ = some (.int .i64 (f k 1)) ∧ w.cell? ⟨b, off + k * 3 + 2, none⟩ = some (.int .i64 (f k 2)) ∧ I64 (f k 0) ∧ I64 (f k 1) ∧ I64 (f k 2) := by
  obtain ⟨b, off, e, h1, h2, h3⟩ := rows_at h k hk
  exact ⟨b, off, e, h1, h2 0 (by omega), h2 1 (by omega), h2 2 (by omega), h3 0 (by omega), h3 1 (by omega), h3 2 (by omega)⟩
theorem rows_at4 {w : World} {a : Option Addr} {n : Nat} {f : Nat → Nat → Int} (h : Hid (Open.RowsIn w a n 4 f)) (k : Nat) (hk : k < n) :
    ∃ b off, a = some ⟨b, off, none⟩ ∧ b < w.heap.size ∧ w.cell? ⟨b, off + k * 4, none⟩ = some (.int .i64 (f k 0)) ∧ w.cell? ⟨b, off + k * 4 + 1, none⟩ = some (.int .i64 (f k 1)) ∧ w.cell? ⟨b, off + k * 4 + 2, none⟩ = some (.int .i64 (f k 2)) ∧ w.cell? ⟨b, off + k * 4 + 3, none⟩ = some (.int .i64 (f k 3)) ∧ I64 (f k 0) ∧ I64 (f k 1) ∧ I64 (f k 2) ∧ I64 (f k 3) := by
  obtain ⟨b, off, e, h1, h2, h3⟩ := rows_at h k hk
  exact ⟨b, off, e, h1, h2 0 (by omega), h2 1 (by omega), h2 2 (by omega), h2 3 (by omega), h3 0 (by omega), h3 1 (by omega), h3 2 (by omega), h3 3 (by omega)⟩
theorem below_drewN' {B : Nat} {a w : World} (h : Below B a w) (n : Nat) : Below B a (w.drewN n) := h.trans ⟨rfl, rfl, rfl, Nat.le_refl _, fun _ _ => rfl⟩
end Go.Proofs.YtlafeijkpnpdeaaGreat.Kit

/- A region that draws its order, walked once, in the order of the text, in a class of worlds of one's own. -/
namespace Go.Proofs.YtlafeijkpnpdeaaGreat.Cls
open Go

section
variable {P : Program} {ops : Array Oper} {C : World → Prop} {Q : Act → Prop} {a : Act} {o : Oper} {rest : List Oper}
theorem cls_take {v : Value} (hw : Region.wanted o (yielded ops a.tmps) = true) (hy : ∀ w, C w → o.quietAt P a C w v) (h : wpQuiet P ops C Q rest (a.put o.dst v)) : wpQuiet P ops C Q (o :: rest) a := by
  unfold wpQuiet
  rw [if_pos hw]
  exact ⟨v, hy, h⟩
theorem cls_skip (hw : Region.wanted o (yielded ops a.tmps) = false) (h : wpQuiet P ops C Q rest (a.put o.dst undef)) : wpQuiet P ops C Q (o :: rest) a := by
  unfold wpQuiet
  rw [if_neg (by rw [hw]; decide)]
  exact h
theorem cls_region (C : World → Prop) {id : Nat} {Q : Exit → Act → World → Prop} {l : List Oper} {w : World} (hm : P.follows .mixedOrders = true) (hB : Region.lexB .any l.toArray = true) (hC : C w.drew)
    (h : wpQuiet P l.toArray C (fun a' => ∀ w', C w' → Q .normal a' w') l a) : (Code.region id l.toArray true).wp P Q a w :=
  wp_region_quiet (C := C) hm hB hC (by simpa using h)
end
end Go.Proofs.YtlafeijkpnpdeaaGreat.Cls

/- A region that draws its order: a load may be taken first where its cell stays as it is until one operation that waits for the load has come up. -/
namespace Go.Proofs.YtlafeijkpnpdeaaGreat.Held
open Go

section
variable {P : Program} {ops : Array Oper} {Q : Exit → Act → World → Prop} {md : Region.Mode} {A B : World → Prop} {b : Nat}

/-- what is held: A for good, B until number b has come up -/
def Till (A B : World → Prop) (b : Nat) (listed : Array Bool) (w : World) : Prop := A w ∧ (listed.getD b true = false → B w)
/-- whatever comes up, what is held is held behind it -/
def wpTill (P : Program) (md : Region.Mode) (ops : Array Oper) (Q : Exit → Act → World → Prop) (A B : World → Prop) (b : Nat) : Nat → Array Bool → Act → World → Prop
  | 0, listed, a, w => Region.ready md ops listed = [] ∧ Q .normal a w
  | n + 1, listed, a, w => (Region.ready md ops listed = [] → Q .normal a w) ∧
      ∀ i ∈ Region.ready md ops listed, wpOp P ops Q i (fun a' w' => Till A B b (listed.setIfInBounds i true) w' ∧ wpTill P md ops Q A B b n (listed.setIfInBounds i true) a' w') a w
theorem wpTill_any : ∀ (n : Nat) (listed : Array Bool) (a : Act) (w : World), wpTill P md ops Q A B b n listed a w → wpAny P md ops Q n listed a w
  | 0, _, _, _, h => h
  | n + 1, _, _, _, h => ⟨h.1, fun i hi => wpOp_mono (fun a' w' h' => wpTill_any n _ a' w' h'.2) (h.2 i hi)⟩

/-- number b waits for number i -/
def waits (md : Region.Mode) (ops : Array Oper) (b i : Nat) : Bool := match ops[b]? with
  | some o => o.after.any fun e => Region.binds md e && e.on == i
  | none => false
theorem waits_spec {i : Nat} {listed : Array Bool} (h : waits md ops b i = true) (hb : b ∈ Region.ready md ops listed) : listed.getD i false = true := by
  obtain ⟨_, o, ho, hall⟩ := mem_ready.1 hb
  unfold waits at h
  rw [ho] at h
  simp only [Array.any_eq_true] at h
  obtain ⟨e, he, hh⟩ := h
  simp only [Bool.and_eq_true, beq_iff_eq] at hh
  have := hall _ (Array.getElem_mem he) hh.1
  rw [hh.2] at this
  exact this
theorem getD_both {listed : Array Bool} {i : Nat} (h : listed.getD i false = true) : listed.getD i true = true := by
  rcases Nat.lt_or_ge i listed.size with h' | h'
  · simp [h'] at h ⊢; exact h
  · simp [Array.getElem?_eq_none h'] at h
/-- what a load may lean on -/
def Lean1 (A B : World → Prop) (z : Bool) (w : World) : Prop := A w ∧ (z = true → B w)

theorem wpTill_first {z : Bool} {i : Nat} {oi : Oper} {v : Value} (hi : ops[i]? = some oi) (hsel : ∀ (j : Nat) (o : Oper) cs b, ops[j]? = some o → o.op ≠ .select cs b)
    (hQ : ∀ c a w, Q (.panic c) (a.put oi.dst v) w → Q (.panic c) a w) (hib : i ≠ b) (hwt : z = true → waits md ops b i = true) :
    ∀ (n : Nat) (listed : Array Bool) (a : Act) (w : World),
      (∀ j oj, ops[j]? = some oj → j ≠ i → listed.getD j true = false → (∀ e ∈ oj.after, Region.binds md e = true → e.on ≠ i) → oi.apart ops oj = true) →
      i ∈ Region.ready md ops listed → (z = true → listed.getD b true = false) → YieldsIf P ops (Lean1 A B z) oi v a → Till A B b listed w →
      wpTill P md ops Q A B b n (listed.setIfInBounds i true) (a.put oi.dst v) w → wpTill P md ops Q A B b (n + 1) listed a w := by
  intro n
  induction n with
  | zero =>
    intro listed a w _ hr hz hy hS H
    refine ⟨fun h => (by rw [h] at hr; cases hr), fun j hj => ?_⟩
    by_cases hji : j = i
    · subst hji
      exact hy.wpOp hi ⟨hS.1, fun e => hS.2 (hz e)⟩ ⟨⟨hS.1, fun e => hS.2 (by rwa [getD_set_ne true hib] at e)⟩, H⟩
    · have := ready_mono hj hji
      rw [H.1] at this
      cases this
  | succ n ih =>
    intro listed a w hfree hr hz hy hS H
    refine ⟨fun h => (by rw [h] at hr; cases hr), fun j hj => ?_⟩
    by_cases hji : j = i
    · subst hji
      exact hy.wpOp hi ⟨hS.1, fun e => hS.2 (hz e)⟩ ⟨⟨hS.1, fun e => hS.2 (by rwa [getD_set_ne true hib] at e)⟩, H⟩
    · have h1 := H.2 j (ready_mono hj hji)
      obtain ⟨hjun, oj, hoj, hall⟩ := mem_ready.1 hj
      have hi0 := (mem_ready.1 hr).1
      have hnot : ∀ e ∈ oj.after, Region.binds md e = true → e.on ≠ i := fun e he hb heq => by
        have h1 := getD_both (hall e he hb)
        rw [heq, hi0] at h1
        cases h1
      have h2 := wpOp_putIf hoj (hfree j oj hoj hji hjun hnot) (fun cs b => hsel i oi cs b hi) (fun cs b => hsel j oj cs b hoj) hQ hy h1
      have hfree' : ∀ k ok, ops[k]? = some ok → k ≠ i → (listed.setIfInBounds j true).getD k true = false →
          (∀ e ∈ ok.after, Region.binds md e = true → e.on ≠ i) → oi.apart ops ok = true := fun k ok hk hki hun hno => by
        refine hfree k ok hk hki ?_ hno
        by_cases hjk : j = k
        · subst hjk; exact hjun
        · rw [getD_set_ne true hjk] at hun; exact hun
      have hz' : z = true → (listed.setIfInBounds j true).getD b true = false := fun e => by
        have hjb : j ≠ b := fun e2 => by
          subst e2
          have := getD_both (waits_spec (hwt e) hj)
          rw [hi0] at this
          cases this
        rw [getD_set_ne true hjb]
        exact hz e
      have hT : ∀ w', Till A B b ((listed.setIfInBounds i true).setIfInBounds j true) w' → Till A B b (listed.setIfInBounds j true) w' := fun w' h => ⟨h.1, fun e => h.2 (by rw [Array.setIfInBounds_comm _ _ (Ne.symm hji), getD_set_ne true hib]; exact e)⟩
      refine wpOp_mono (fun a' w' h3 => ⟨hT _ h3.2.1, ih (listed.setIfInBounds j true) a' w' hfree' (ready_mono hr (Ne.symm hji)) hz' h3.1 (hT _ h3.2.1) ?_⟩) h2
      rw [Array.setIfInBounds_comm _ _ hji]
      exact h3.2.2

/-- the moves -/
theorem wpTill_take (z : Bool) {i : Nat} {oi : Oper} {v : Value} {n : Nat} {listed : Array Bool} {a : Act} {w : World} (hi : ops[i]? = some oi)
    (hs : Region.noSelect ops = true) (hf : Region.free md ops listed i = true) (hr : (Region.ready md ops listed).contains i = true)
    (hQ : ∀ c a w, Q (.panic c) (a.put oi.dst v) w → Q (.panic c) a w) (hz : (i != b && (!z || (waits md ops b i && !listed.getD b true))) = true) (hy : YieldsIf P ops (Lean1 A B z) oi v a) (hS : Till A B b listed w)
    (h : Till A B b (listed.setIfInBounds i true) w → wpTill P md ops Q A B b n (listed.setIfInBounds i true) (a.put oi.dst v) w) : wpTill P md ops Q A B b (n + 1) listed a w := by
  simp only [Bool.and_eq_true, bne_iff_ne, ne_eq, Bool.or_eq_true, Bool.not_eq_true'] at hz
  have hib := hz.1
  exact wpTill_first hi (Region.noSelect_spec hs) hQ hib (fun e => by rcases hz.2 with h | h; rw [h] at e; cases e; exact h.1) n listed a w (Region.free_spec hi hf) (by simpa using hr)
    (fun e => by rcases hz.2 with h | h; rw [h] at e; cases e; exact h.2) hy hS (h ⟨hS.1, fun e => hS.2 (by rwa [getD_set_ne true hib] at e)⟩)
theorem wpTill_one {i : Nat} {o : Oper} {n : Nat} {listed : Array Bool} {a : Act} {w : World} (hr : Region.ready md ops listed = [i]) (ho : ops[i]? = some o)
    (h : ∀ K : Act → World → Prop, (∀ a' w', Till A B b (listed.setIfInBounds i true) w' → (Till A B b (listed.setIfInBounds i true) w' → wpTill P md ops Q A B b n (listed.setIfInBounds i true) a' w') → K a' w') → if Region.wanted o (yielded ops a.tmps) = true then Oper.wp P o a w K Q else K (a.put o.dst undef) w) : wpTill P md ops Q A B b (n + 1) listed a w :=
  ⟨fun h0 => (by rw [hr] at h0; cases h0), fun j hj => by
    rw [hr] at hj
    obtain rfl : j = i := by simpa using hj
    exact wpOp_step ho fun K hK => h K fun a' w' hT hh => hK a' w' ⟨hT, hh hT⟩⟩
theorem wpTill_done {listed : Array Bool} {a : Act} {w : World} (hr : Region.ready md ops listed = []) (h : Q .normal a w) : ∀ n, wpTill P md ops Q A B b n listed a w
  | 0 => ⟨hr, h⟩
  | _ + 1 => ⟨fun _ => h, by rw [hr]; simp⟩
theorem wp_region_till (A B : World → Prop) (b : Nat) (n : Nat) (listed : Array Bool) {id : Nat} {a : Act} {w : World} (hm : P.follows .mixedOrders = true) (hn : ops.size = n) (hl : Array.replicate n false = listed) (hS : A w.drew ∧ B w.drew)
    (h : Till A B b listed w.drew → wpTill P .any ops Q A B b n listed a w.drew) : (Code.region id ops true).wp P Q a w := by
  subst hn hl
  exact wp_region_any hm (wpTill_any _ _ _ _ (h ⟨hS.1, fun _ => hS.2⟩))
end
end Go.Proofs.YtlafeijkpnpdeaaGreat.Held

/- A region that draws its order: a load may be taken first where its cell stays as it is until one operation that waits for it, through others or not, has come up. -/
namespace Go.Proofs.YtlafeijkpnpdeaaGreat.HeldT
open Go Held

section
variable {P : Program} {ops : Array Oper} {Q : Exit → Act → World → Prop} {md : Region.Mode} {A B : World → Prop} {b : Nat}

/-- number j waits for number i, through others or not -/
def reach (md : Region.Mode) (ops : Array Oper) : Nat → Nat → Nat → Bool
  | 0, _, _ => false
  | f + 1, j, i => match ops[j]? with
    | some o => o.after.any fun e => Region.binds md e && (e.on == i || reach md ops f e.on i)
    | none => false
/-- what is listed has all that it waits for listed -/
def Shut (md : Region.Mode) (ops : Array Oper) (listed : Array Bool) : Prop :=
  ∀ j o, ops[j]? = some o → listed.getD j false = true → ∀ e ∈ o.after, Region.binds md e = true → listed.getD e.on false = true
def shutB (md : Region.Mode) (ops : Array Oper) (listed : Array Bool) : Bool :=
  (List.range ops.size).all fun j => !listed.getD j false || ((ops[j]?).map (·.after.all fun e => !Region.binds md e || listed.getD e.on false)).getD true
theorem shut_of {listed : Array Bool} (h : shutB md ops listed = true) : Shut md ops listed := by
  intro j o ho hl e he hb
  have hlt : j < ops.size := (Array.getElem?_eq_some_iff.1 ho).1
  have h1 := List.all_eq_true.1 h j (List.mem_range.2 hlt)
  rw [ho, hl] at h1
  simp only [Bool.not_true, Bool.false_or, Option.map_some, Option.getD_some, Array.all_eq_true_iff_forall_mem] at h1
  have h2 := h1 e he
  rw [hb] at h2
  simpa using h2
theorem shut_set {listed : Array Bool} {i : Nat} (h : Shut md ops listed) (hi : i ∈ Region.ready md ops listed) : Shut md ops (listed.setIfInBounds i true) := by
  obtain ⟨_, oi, hoi, hall⟩ := mem_ready.1 hi
  intro j o ho hl e he hb
  by_cases hij : i = j
  · subst hij
    have : o = oi := Option.some.inj (ho.symm.trans hoi)
    subst this
    exact getD_set_true (hall e he hb)
  · rw [getD_set_ne false hij] at hl
    exact getD_set_true (h j o ho hl e he hb)
theorem reach_listed {listed : Array Bool} (hs : Shut md ops listed) {i : Nat} : ∀ (f j : Nat), reach md ops f j i = true → (∀ o, ops[j]? = some o → ∀ e ∈ o.after, Region.binds md e = true → listed.getD e.on false = true) → listed.getD i false = true
  | 0, _, h, _ => by cases h
  | f + 1, j, h, hj => by
    unfold reach at h
    split at h
    · rename_i o ho
      obtain ⟨e, he, hh⟩ := Array.any_eq_true'.1 h
      simp only [Bool.and_eq_true, Bool.or_eq_true, beq_iff_eq] at hh
      have h1 := hj o ho e he hh.1
      rcases hh.2 with h2 | h2
      · rw [← h2]; exact h1
      · exact reach_listed hs f e.on h2 (fun o' ho' e' he' hb' => hs e.on o' ho' h1 e' he' hb')
    · cases h

theorem wpTill_firstT {z : Bool} {i : Nat} {oi : Oper} {v : Value} (hi : ops[i]? = some oi) (hsel : ∀ (j : Nat) (o : Oper) cs b, ops[j]? = some o → o.op ≠ .select cs b)
    (hQ : ∀ c a w, Q (.panic c) (a.put oi.dst v) w → Q (.panic c) a w) (hib : i ≠ b) (f : Nat) (hwt : z = true → reach md ops f b i = true) :
    ∀ (n : Nat) (listed : Array Bool) (a : Act) (w : World),
      (∀ j oj, ops[j]? = some oj → j ≠ i → listed.getD j true = false → (∀ e ∈ oj.after, Region.binds md e = true → e.on ≠ i) → oi.apart ops oj = true) →
      i ∈ Region.ready md ops listed → (z = true → listed.getD b true = false) → Shut md ops listed → YieldsIf P ops (Lean1 A B z) oi v a → Till A B b listed w →
      wpTill P md ops Q A B b n (listed.setIfInBounds i true) (a.put oi.dst v) w → wpTill P md ops Q A B b (n + 1) listed a w := by
  intro n
  induction n with
  | zero =>
    intro listed a w _ hr hz _ hy hS H
    refine ⟨fun h => (by rw [h] at hr; cases hr), fun j hj => ?_⟩
    by_cases hji : j = i
    · subst hji
      exact hy.wpOp hi ⟨hS.1, fun e => hS.2 (hz e)⟩ ⟨⟨hS.1, fun e => hS.2 (by rwa [getD_set_ne true hib] at e)⟩, H⟩
    · have := ready_mono hj hji
      rw [H.1] at this
      cases this
  | succ n ih =>
    intro listed a w hfree hr hz hsh hy hS H
    refine ⟨fun h => (by rw [h] at hr; cases hr), fun j hj => ?_⟩
    by_cases hji : j = i
    · subst hji
      exact hy.wpOp hi ⟨hS.1, fun e => hS.2 (hz e)⟩ ⟨⟨hS.1, fun e => hS.2 (by rwa [getD_set_ne true hib] at e)⟩, H⟩
    · have h1 := H.2 j (ready_mono hj hji)
      obtain ⟨hjun, oj, hoj, hall⟩ := mem_ready.1 hj
      have hi0 := (mem_ready.1 hr).1
      have hnot : ∀ e ∈ oj.after, Region.binds md e = true → e.on ≠ i := fun e he hb heq => by
        have h1 := Held.getD_both (hall e he hb)
        rw [heq, hi0] at h1
        cases h1
      have h2 := wpOp_putIf hoj (hfree j oj hoj hji hjun hnot) (fun cs b => hsel i oi cs b hi) (fun cs b => hsel j oj cs b hoj) hQ hy h1
      have hfree' : ∀ k ok, ops[k]? = some ok → k ≠ i → (listed.setIfInBounds j true).getD k true = false →
          (∀ e ∈ ok.after, Region.binds md e = true → e.on ≠ i) → oi.apart ops ok = true := fun k ok hk hki hun hno => by
        refine hfree k ok hk hki ?_ hno
        by_cases hjk : j = k
        · subst hjk; exact hjun
        · rw [getD_set_ne true hjk] at hun; exact hun
      have hz' : z = true → (listed.setIfInBounds j true).getD b true = false := fun e => by
        have hjb : j ≠ b := fun e2 => by
          subst e2
          have := Held.getD_both (reach_listed hsh f j (hwt e) (fun o ho e' he' hb' => by
            have : o = oj := Option.some.inj (ho.symm.trans hoj)
            subst this
            exact hall e' he' hb'))
          rw [hi0] at this
          cases this
        rw [getD_set_ne true hjb]
        exact hz e
      have hT : ∀ w', Till A B b ((listed.setIfInBounds i true).setIfInBounds j true) w' → Till A B b (listed.setIfInBounds j true) w' := fun w' h => ⟨h.1, fun e => h.2 (by rw [Array.setIfInBounds_comm _ _ (Ne.symm hji), getD_set_ne true hib]; exact e)⟩
      refine wpOp_mono (fun a' w' h3 => ⟨hT _ h3.2.1, ih (listed.setIfInBounds j true) a' w' hfree' (ready_mono hr (Ne.symm hji)) hz' (shut_set hsh hj) h3.1 (hT _ h3.2.1) ?_⟩) h2
      rw [Array.setIfInBounds_comm _ _ hji]
      exact h3.2.2

/-- as wpTill_take; number b waits for the load through others or not -/
theorem wpTill_takeT (z : Bool) {i : Nat} {oi : Oper} {v : Value} {n : Nat} {listed : Array Bool} {a : Act} {w : World} (hi : ops[i]? = some oi)
    (hs : Region.noSelect ops = true) (hf : Region.free md ops listed i = true) (hr : (Region.ready md ops listed).contains i = true)
    (hQ : ∀ c a w, Q (.panic c) (a.put oi.dst v) w → Q (.panic c) a w) (hz : (i != b && (!z || (reach md ops ops.size b i && !listed.getD b true)) && shutB md ops listed) = true) (hy : YieldsIf P ops (Lean1 A B z) oi v a) (hS : Till A B b listed w)
    (h : Till A B b (listed.setIfInBounds i true) w → wpTill P md ops Q A B b n (listed.setIfInBounds i true) (a.put oi.dst v) w) : wpTill P md ops Q A B b (n + 1) listed a w := by
  simp only [Bool.and_eq_true, bne_iff_ne, ne_eq, Bool.or_eq_true, Bool.not_eq_true'] at hz
  obtain ⟨⟨hib, hz⟩, hsh⟩ := hz
  exact wpTill_firstT hi (Region.noSelect_spec hs) hQ hib ops.size (fun e => by rcases hz with h | h; rw [h] at e; cases e; exact h.1) n listed a w (Region.free_spec hi hf) (by simpa using hr)
    (fun e => by rcases hz with h | h; rw [h] at e; cases e; exact h.2) (shut_of hsh) hy hS (h ⟨hS.1, fun e => hS.2 (by rwa [getD_set_ne true hib] at e)⟩)
end
end Go.Proofs.YtlafeijkpnpdeaaGreat.HeldT

import Derived.OneCell
import Derived.Laws.AppendOwnNone
import Derived.Laws.OwnMore
import Derived.Test.YtlafeijkpnpdeaaGreatMg9
import Derived.Test.YtlafeijkpnpdeaaGreatMg3
import Derived.Test.YtlafeijkpnpdeaaGreatMg11

/- Worlds in which some blocks alone are altered; append of a whole slice; make. -/
namespace Go.Proofs.YtlafeijkpnpdeaaGreat.Alt
open Go.RowKit Base Kit RefA
set_option linter.unusedVariables false
set_option linter.unusedSimpArgs false

structure Alt (S : Nat → Prop) (w w' : World) : Prop where
  os : w'.os = w.os
  tape : w'.tape = w.tape
  output : w'.output = w.output
  size : w.heap.size ≤ w'.heap.size
  block : ∀ k, k < w.heap.size → ¬ S k → w'.heap[k]? = w.heap[k]?
theorem Alt.refl (S : Nat → Prop) (w : World) : Alt S w w := ⟨rfl, rfl, rfl, Nat.le_refl _, fun _ _ _ => rfl⟩
theorem Alt.trans {S : Nat → Prop} {a b c : World} (h : Alt S a b) (k : Alt S b c) : Alt S a c :=
  ⟨k.os.trans h.os, k.tape.trans h.tape, k.output.trans h.output, Nat.le_trans h.size k.size, fun i hi hs => (k.block i (Nat.lt_of_lt_of_le hi h.size) hs).trans (h.block i hi hs)⟩
theorem Alt.mono {S T : Nat → Prop} {a b : World} (h : Alt S a b) (k : ∀ i, S i → T i) : Alt T a b := ⟨h.os, h.tape, h.output, h.size, fun i hi hs => h.block i hi (fun x => hs (k i x))⟩
theorem Alt.of_below {S : Nat → Prop} {a b : World} (h : Below a.heap.size a b) : Alt S a b := ⟨h.os, h.tape, h.output, h.size, fun i hi _ => h.block i hi⟩
theorem Alt.of_grown {S : Nat → Prop} {a b : World} {row : Option Nat} (h : a.grownBy b row) (k : ∀ i, row = some i → S i) : Alt S a b :=
  ⟨h.os, h.tape, h.output, h.size, fun i hi hs => h.block i hi (fun e => hs (k i e.symm))⟩
theorem Alt.set {S : Nat → Prop} (w : World) (p : Addr) (v : Value) (h : S p.block) : Alt S w (w.setCell p v) :=
  ⟨rfl, rfl, rfl, by simp [World.setCell], fun i hi hs => Below.heap_setCell _ _ _ _ (fun e => hs (by rw [e]; exact h))⟩
theorem Alt.drewN {S : Nat → Prop} (w : World) (n : Nat) : Alt S w (w.drewN n) := ⟨rfl, rfl, rfl, Nat.le_refl _, fun _ _ _ => rfl⟩
theorem Alt.alloc {S : Nat → Prop} (w : World) (o : Obj) : Alt S w (w.alloc o) := Alt.of_below ((Below.refl _ _).alloc (Nat.le_refl _) _)
theorem Alt.below {S : Nat → Prop} {B : Nat} {w0 w w1 : World} (h : Below B w0 w) (k : Alt S w w1) (hB : B ≤ w.heap.size) (hs : ∀ i, S i → B ≤ i) : Below B w0 w1 :=
  ⟨k.os.trans h.os, k.tape.trans h.tape, k.output.trans h.output, Nat.le_trans h.size k.size, fun i hi => (k.block i (Nat.lt_of_lt_of_le hi hB) (fun x => by have := hs i x; omega)).trans (h.block i hi)⟩
theorem box_alt {S : Nat → Prop} {w w1 : World} {b : Nat} {vs : Array Value} {T : TypeId} (h : Box w b vs T) (k : Alt S w w1) (hs : ¬ S b) : Box w1 b vs T := by
  unfold Box; rw [k.block b h.lt hs]; exact h
theorem own_alt {S : Nat → Prop} {w w1 : World} {base g n cap : Nat} {e : TypeId} {size : Nat} {xs : List Value} (h : w.ownsRow base e size (.slice (some ⟨g, 0, none⟩) n cap) n xs) (k : Alt S w w1) (hs : ¬ S g) : w1.ownsRow base e size (.slice (some ⟨g, 0, none⟩) n cap) n xs := by
  have hlt := (h.lt g rfl).2
  obtain ⟨h1, h2⟩ := h
  refine ⟨h1, ?_⟩
  rcases h2 with h2 | ⟨g', cap', cur, hv, hg, hh, r⟩
  · exact .inl h2
  · refine .inr ⟨g', cap', cur, hv, hg, ?_, r⟩
    simp only [Value.slice.injEq, Option.some.injEq, Addr.mk.injEq, and_true, true_and] at hv
    obtain ⟨rfl, rfl⟩ := hv
    rw [k.block g hlt hs]; exact hh
theorem own_base {w : World} {base base' : Nat} {e : TypeId} {size : Nat} {v : Value} {n : Nat} {xs : List Value} (h : w.ownsRow base e size v n xs) (hb : ∀ g, v.ownBlock = some g → base' ≤ g) : w.ownsRow base' e size v n xs := by
  obtain ⟨h1, h2⟩ := h
  refine ⟨h1, ?_⟩
  rcases h2 with h2 | ⟨g, cap, cur, hv, hg, hh, r⟩
  · exact .inl h2
  · exact .inr ⟨g, cap, cur, hv, hb g (by rw [hv]; rfl), hh, r⟩
theorem rows_alt {S : Nat → Prop} {w w1 : World} {g : Nat} {off : Nat} {n sz : Nat} {f : Nat → Nat → Int} (h : Hid (Open.RowsIn w (some ⟨g, off, none⟩) n sz f)) (k : Alt S w w1) (hs : ¬ S g) : Hid (Open.RowsIn w1 (some ⟨g, off, none⟩) n sz f) := by
  obtain ⟨hn, h1, hf⟩ := h.out
  refine Lib.hid ⟨hn, ?_, hf⟩
  rcases h1 with h1 | ⟨b, off, e, hlt, hc⟩
  · exact .inl h1
  · cases e
    refine .inr ⟨_, _, rfl, Nat.lt_of_lt_of_le hlt k.size, fun i hi j hj => ?_⟩
    rw [World.cell?_of_block (w := w) (k.block _ hlt hs)]; exact hc i hi j hj
/-- a block of a type is no block of another one -/
theorem own_ne {w : World} {base g n cap b : Nat} {e T : TypeId} {size : Nat} {xs : List Value} {vs : Array Value} (h : w.ownsRow base e size (.slice (some ⟨g, 0, none⟩) n cap) n xs) (k : Box w b vs T) (hne : e ≠ T) : g ≠ b := by
  rcases h.2 with ⟨h', _⟩ | ⟨g', cap', cur, hv, hg, hh, r⟩
  · simp at h'
  · simp only [Value.slice.injEq, Option.some.injEq, Addr.mk.injEq, and_true, true_and] at hv
    obtain ⟨rfl, rfl⟩ := hv
    intro e1; subst e1
    unfold Box at k
    rw [hh] at k
    simp at k
    exact hne k.2
theorem box_ne {w : World} {b c : Nat} {T U : TypeId} {vs us : Array Value} (h : Box w b vs T) (k : Box w c us U) (hne : T ≠ U) : b ≠ c := by
  intro e; subst e
  unfold Box at h k
  rw [h] at k
  simp at k
  exact hne k.2
theorem rows_own {w : World} {base g n cap : Nat} {e : TypeId} {f : Nat → Int} (h : w.ownsRow base e 1 (.slice (some ⟨g, 0, none⟩) n cap) n (row f n)) (hn : n ≤ 9223372036854775807) (hf : ∀ i, i < n → I64 (f i)) :
    Hid (Open.RowsIn w (some ⟨g, 0, none⟩) n 1 (fun i _ => f i)) := by
  refine Lib.hid ⟨hn, .inr ⟨g, 0, rfl, (h.lt g rfl).2, fun i hi j hj => ?_⟩, fun i hi j _ => hf i hi⟩
  have := h.cellAt i (by omega)
  rw [row_get f n i hi] at this
  obtain rfl : j = 0 := by omega
  simpa using this

theorem own_form {w : World} {base : Nat} {e : TypeId} {size : Nat} {v : Value} {n : Nat} {xs : List Value} (h : w.ownsRow base e size v n xs) (hne : v ≠ .slice none 0 0) : ∃ g c, v = .slice (some ⟨g, 0, none⟩) n c ∧ base ≤ g ∧ g < w.heap.size := by
  rcases h.2 with ⟨h', _⟩ | ⟨g, cap, cur, hv, hg, hh, r⟩
  · exact absurd h' hne
  · exact ⟨g, cap, hv, hg, (h.lt g (by rw [hv]; rfl)).2⟩
/-- append of a whole slice to a row of the call's own -/
theorem append_all (w : World) {ops : Array Oper} {rest : List Oper} {o : Oper} {a : Act} {Q : Exit → Act → World → Prop} (hgd : o.guard = .none) (s x : Operand) (t : TypeId)
    (ho : o.op = .call { callee := .builtin .append, args := #[s, x], argTypes := #[t, t] }) (ht : Tryz.prog.underlying t = some (.slice 3))
    (base : Nat) (v : Value) (n : Nat) (xs : List Value) (hs : a.eval s = v) (hown : w.ownsRow base 3 1 v n xs)
    (A : Option Addr) (m c : Nat) (f : Nat → Int) (hx : a.eval x = .slice A m c) (hA : A = none → c = 0 ∧ m = 0) (hr : Hid (Open.RowsIn w A m 1 (fun i _ => f i))) (h63 : n + m ≤ 9223372036854775807) (hbytes : (n + m) * 8 ≤ 140737488355328) (hbase : base ≤ w.heap.size)
    (h : ∀ v' w', w'.ownsRow base 3 1 v' (n + m) (xs ++ row f m) → w.grownBy w' v.ownBlock → (v' = .slice none 0 0 ↔ v = .slice none 0 0 ∧ m = 0) → wpList Tryz.prog ops Q rest (a.put o.dst v') w') :
    wpList Tryz.prog ops Q (o :: rest) a w := by
  obtain ⟨i0, hi, hz0, hz1, hz2⟩ := info_parts infoInt
  cases A with
  | none =>
    obtain ⟨rfl, rfl⟩ := hA rfl
    refine wpList_append_own_none hgd s x t ho base 3 i0 1 ht hi v n xs hs hown hx ?_
    exact h v w (by simpa [row] using hown) (grown_refl _ _) ⟨fun e => ⟨e, rfl⟩, fun e => e.1⟩
  | some ad =>
    refine wpList_append_own w hgd s x t ho base 3 i0 (.int .i64 0) 1 8 ht hi hz0 hz1 hz2 rfl (by decide) v n xs hs hown ad m c (row f m) hx (by rw [row_len, Nat.mul_one]) (fun j u hj => ?_) (fun u hu => ?_) (by unfold maxLen; omega) hbytes hbase h
    · have hjm : j < m := by
        refine Nat.lt_of_not_le fun hle => ?_
        rw [List.getElem?_eq_none (by rw [row_len]; exact hle)] at hj; cases hj
      rw [row_get f m j hjm] at hj
      cases hj
      obtain ⟨b, off, e, _, hc, _⟩ := rows_at1 hr j hjm
      cases e
      rw [Open.add_none]; exact hc
    · simp only [row, List.mem_map] at hu
      obtain ⟨_, _, rfl⟩ := hu
      rfl

theorem row_append (f g : Nat → Int) (n m : Nat) : row f n ++ row g m = row (fun i => if i < n then f i else g (i - n)) (n + m) := by
  unfold row
  rw [List.range_add, List.map_append, List.map_map]
  congr 1
  · apply List.map_congr_left
    intro i hi
    simp at hi
    simp [hi]
  · apply List.map_congr_left
    intro i _
    simp
    omega
/-- make of zeros -/
theorem make_ints (w : World) (n : Nat) (hn : n ≤ 1000) : ∃ w', (Instr.makeSlice 29 (.int .i64 (n : Int)) (.int .i64 (n : Int))).run Tryz.prog w = .ok (.slice (some ⟨w.heap.size, 0, none⟩) n n) w' ∧
    w'.ownsRow w.heap.size 3 1 (.slice (some ⟨w.heap.size, 0, none⟩) n n) n (row (fun _ => 0) n) ∧ w.grownBy w' none := by
  obtain ⟨i0, hi, hz0, hz1, hz2⟩ := info_parts infoInt
  obtain ⟨w', h1, h2, h3⟩ := run_makeSlice_full w w.heap.size 29 3 i0 (.int .i64 0) 1 Tryz.underlying29 hi hz0 hz1 .i64 .i64 n (by omega) (by rw [hz2]; omega) (by unfold maxLen; omega) (Nat.le_refl _)
  refine ⟨w', h1, ?_, h3⟩
  have e : (madeCells (Value.int .i64 0).cells (n * 1)).toList = row (fun _ => 0) n := by
    apply List.ext_getElem?
    intro i
    unfold row
    by_cases h : i < n
    · have e1 : i % 1 = 0 := Nat.mod_one i
      simp [madeCells, Value.cells, h, e1]
    · simp [madeCells, Value.cells, h]
  rw [e] at h2; exact h2
end Go.Proofs.YtlafeijkpnpdeaaGreat.Alt

/- Rows of booleans; append of a whole owned row; make. -/
namespace Go.Proofs.YtlafeijkpnpdeaaGreat.Boo
open Go.RowKit Base Kit RefA Alt
set_option linter.unusedVariables false
set_option linter.unusedSimpArgs false

def brow (f : Nat → Bool) (n : Nat) : List Value := (List.range n).map fun j => .bool (f j)
theorem brow_succ (f : Nat → Bool) (n : Nat) : brow f (n + 1) = brow f n ++ [.bool (f n)] := by simp [brow, List.range_succ]
theorem brow_get (f : Nat → Bool) (n j : Nat) (h : j < n) : (brow f n)[j]? = some (.bool (f j)) := by simp [brow, h]
theorem brow_len (f : Nat → Bool) (n : Nat) : (brow f n).length = n := by simp [brow]
theorem brow_set (f : Nat → Bool) (n i : Nat) (v : Bool) : (brow f n).set i (.bool v) = brow (fun j => if j = i then v else f j) n := by
  apply List.ext_getElem?
  intro j
  rw [List.getElem?_set]
  by_cases h : i = j
  · subst h
    by_cases hj : i < n
    · simp [brow, hj]
    · simp [brow, hj]
  · rw [if_neg h]
    by_cases hj : j < n
    · rw [brow_get _ _ _ hj, brow_get _ _ _ hj, if_neg (fun e => h e.symm)]
    · rw [List.getElem?_eq_none (by rw [brow_len]; omega), List.getElem?_eq_none (by rw [brow_len]; omega)]
theorem infoBool : (Tryz.prog.info? 4).map (fun i => (i.zero, i.size, i.bytes)) = some (some (.bool false), 1, 1) := by kernel_rfl
theorem own_bool {w : World} {v : Value} {n : Nat} {f : Nat → Bool} {e : TypeId} (h : w.ownsRow 0 e 1 v n (brow f n)) : ∃ A c, v = .slice A n c ∧ ∀ i, i < n → ∃ g, A = some ⟨g, 0, none⟩ ∧ w.cell? ⟨g, i, none⟩ = some (.bool (f i)) := by
  rcases id h.2 with ⟨h1, h2⟩ | ⟨g, cap, cur, hv, hg, hh, r⟩
  · subst h2; exact ⟨none, 0, h1, fun i hi => by omega⟩
  · refine ⟨_, _, hv, fun i hi => ⟨g, rfl, ?_⟩⟩
    subst hv
    rw [h.cellAt i (by omega), brow_get f n i hi]
theorem own_int {w : World} {v : Value} {n : Nat} {f : Nat → Int} {e : TypeId} (h : w.ownsRow 0 e 1 v n (row f n)) : ∃ A c, v = .slice A n c ∧ ∀ i, i < n → ∃ g, A = some ⟨g, 0, none⟩ ∧ w.cell? ⟨g, i, none⟩ = some (.int .i64 (f i)) := by
  rcases id h.2 with ⟨h1, h2⟩ | ⟨g, cap, cur, hv, hg, hh, r⟩
  · subst h2; exact ⟨none, 0, h1, fun i hi => by omega⟩
  · refine ⟨_, _, hv, fun i hi => ⟨g, rfl, ?_⟩⟩
    subst hv
    rw [h.cellAt i (by omega), row_get f n i hi]
/-- a whole row of the same kind appended -/
theorem append_own (w : World) {ops : Array Oper} {rest : List Oper} {o : Oper} {a : Act} {Q : Exit → Act → World → Prop} (hgd : o.guard = .none) (s x : Operand) (t e : TypeId) (z : Value) (bytes : Nat)
    (hinfo : (Tryz.prog.info? e).map (fun i => (i.zero, i.size, i.bytes)) = some (some z, 1, bytes))
    (ho : o.op = .call { callee := .builtin .append, args := #[s, x], argTypes := #[t, t] }) (ht : Tryz.prog.underlying t = some (.slice e)) (hz : z.cells.size = 1)
    (base : Nat) (v : Value) (n : Nat) (xs : List Value) (hs : a.eval s = v) (hown : w.ownsRow base e 1 v n xs)
    (base2 : Nat) (vx : Value) (m : Nat) (ys : List Value) (hx : a.eval x = vx) (hown2 : w.ownsRow base2 e 1 vx m ys) (hy : ys.length = m) (h1 : ∀ u ∈ ys, u.oneCell' = true) (h63 : n + m ≤ 9223372036854775807) (hbytes : (n + m) * bytes ≤ 140737488355328) (hbase : base ≤ w.heap.size)
    (h : ∀ v' w', w'.ownsRow base e 1 v' (n + m) (xs ++ ys) → w.grownBy w' v.ownBlock → (v' = .slice none 0 0 ↔ v = .slice none 0 0 ∧ m = 0) → wpList Tryz.prog ops Q rest (a.put o.dst v') w') :
    wpList Tryz.prog ops Q (o :: rest) a w := by
  obtain ⟨i0, hi, hz0, hz1, hz2⟩ := info_parts hinfo
  rcases id hown2.2 with ⟨e1, rfl⟩ | ⟨g, cap, cur, hv, hg, hh, r⟩
  · obtain rfl : ys = [] := List.length_eq_zero_iff.1 hy
    refine wpList_append_own_none hgd s x t ho base e i0 1 ht hi v n xs hs hown (hx.trans e1) ?_
    exact h v w (by simpa using hown) (grown_refl _ _) ⟨fun e => ⟨e, rfl⟩, fun e => e.1⟩
  · refine wpList_append_own w hgd s x t ho base e i0 z 1 bytes ht hi hz0 hz1 hz2 hz (by decide) v n xs hs hown ⟨g, 0, none⟩ m cap ys (hx.trans hv) (by rw [hy, Nat.mul_one]) (fun j u hj => ?_) h1 (by unfold maxLen; omega) hbytes hbase h
    exact hown2.cells (g := g) (by rw [hv]; rfl) j u hj
end Go.Proofs.YtlafeijkpnpdeaaGreat.Boo

/- Whether a platform may be: the program's check, and the document's. -/
namespace Go.Proofs.YtlafeijkpnpdeaaGreat.PowA
open Go.RowKit Base Kit Conf
set_option linter.unusedVariables false
set_option linter.unusedSimpArgs false

/-- how many stand at the front that may be -/
def fb (P : Nat → Bool) : Nat → Nat
  | 0 => 0
  | n + 1 => if fb P n < n then fb P n else if P n then n + 1 else n
theorem fb_le (P : Nat → Bool) : ∀ n, fb P n ≤ n
  | 0 => Nat.le_refl _
  | n + 1 => by have := fb_le P n; unfold fb; split; omega; split <;> omega
theorem fb_all {P : Nat → Bool} : ∀ n, (∀ j, j < n → P j = true) → fb P n = n
  | 0, _ => rfl
  | n + 1, h => by
    have := fb_all n (fun j hj => h j (by omega))
    unfold fb; rw [this, if_neg (by omega), h n (by omega)]; rfl
theorem fb_hit {P : Nat → Bool} {k : Nat} (h1 : ∀ j, j < k → P j = true) (h2 : P k = false) : ∀ n, k < n → fb P n = k
  | 0, h => by omega
  | n + 1, h => by
    unfold fb
    by_cases e : k = n
    · subst e; rw [fb_all k h1, if_neg (by omega), h2]; rfl
    · have := fb_hit h1 h2 n (by omega)
      rw [this, if_pos (by omega)]
theorem fb_iff {P : Nat → Bool} {n : Nat} : fb P n = n ↔ ∀ j, j < n → P j = true := by
  refine ⟨fun h => ?_, fb_all n⟩
  induction n with
  | zero => intro j hj; omega
  | succ n ih =>
    have := fb_le P n
    unfold fb at h
    by_cases e : fb P n < n
    · rw [if_pos e] at h; omega
    · rw [if_neg e] at h
      cases hp : P n
      · rw [hp] at h; simp at h
      · intro j hj
        by_cases e2 : j = n
        · subst e2; exact hp
        · exact ih (by omega) j (by omega)
def frI (P : Nat → Bool) (n : Nat) : Int := if fb P n < n then (fb P n : Int) else -1

def inB (n f t : Int) : Bool := decide (f ≤ n) && decide (n ≤ t)
theorem inB_iff {n f t : Int} : inB n f t = true ↔ f ≤ n ∧ n ≤ t := by simp [inB]
theorem inB_not {n f t : Int} : inB n f t = false ↔ ¬ (f ≤ n ∧ n ≤ t) := by rw [← Bool.not_eq_true, inB_iff]
def lvB (x0 x1 a0 a1 : Int) : Bool := inB x0 (a0 + 1) 10000 && inB x1 0 1000000 && decide (a1 * x0 ≤ x1 * a0)
def ah (f : Nat → Nat → Int) (k j : Nat) : Int := if k = 0 then 0 else f (k - 1) j
def lev (f : Nat → Nat → Int) (k : Nat) : Bool := lvB (f k 0) (f k 1) (ah f k 0) (ah f k 1)
def npB (a b c : Int) : Bool := inB a 0 1000000 && inB b 0 100000000 && inB c 0 100000000
def nap (f : Nat → Nat → Int) (k : Nat) : Bool := npB (f k 0) (f k 1) (f k 2)
def allN (f : Nat → Nat → Int) (n : Nat) : Bool := decide (n ≤ 4) && decide (fb (nap f) n = n)
def rest (p : PowC) : Bool := allN p.nf p.nn && inB p.sw 0 100000000 && inB p.id 0 1000000 && inB p.ch 0 1000000 && inB p.qu 1 1000000000 && inB p.sl 1 1000000 && inB p.pp 0 100000
def powR (p : PowC) : Int × Int :=
  if p.ln < 1 ∨ 6 < p.ln then (27, 0) else if fb (lev p.lf) p.ln < p.ln then (27, fb (lev p.lf) p.ln) else if rest p then (0, 0) else (27, p.ln)

theorem lvB_bd {x0 x1 a0 a1 : Int} (h : lvB x0 x1 a0 a1 = true) : a0 + 1 ≤ x0 ∧ x0 ≤ 10000 ∧ 0 ≤ x1 ∧ x1 ≤ 1000000 := by
  unfold lvB at h
  simp only [Bool.and_eq_true, inB_iff] at h
  exact ⟨h.1.1.1, h.1.1.2, h.1.2.1, h.1.2.2⟩
theorem ah_bd {f : Nat → Nat → Int} : ∀ k, (∀ j, j < k → lev f j = true) → 0 ≤ ah f k 0 ∧ ah f k 0 ≤ 10000 ∧ 0 ≤ ah f k 1 ∧ ah f k 1 ≤ 1000000
  | 0, _ => by simp [ah]
  | k + 1, h => by
    have := ah_bd k (fun j hj => h j (by omega))
    have l := lvB_bd (h k (by omega))
    simp only [ah, Nat.add_sub_cancel, if_neg (Nat.succ_ne_zero k)]
    omega
theorem wr_in {x y : Int} (hx : 0 ≤ x) (hx' : x ≤ 1000000) (hy : 0 ≤ y) (hy' : y ≤ 10000) : wrap64 (x * y) = x * y := by
  have h1 : 0 ≤ x * y := Int.mul_nonneg hx hy
  have h2 : x * y ≤ 1000000 * 10000 := Int.mul_le_mul hx' hy' hy (by omega)
  generalize x * y = z at *
  unfold wrap64; omega

theorem in_any (n f t : Int) (b : Bool) (w : World) (hb : Hid (inB n f t = b)) :
    Calls Tryz.prog 47 #[.int .i64 n, .int .i64 f, .int .i64 t] w fun e w' => e = .returned (.bool b) ∧ w = w' := by
  cases b
  · have ways : n < f ∨ (f ≤ n ∧ t < n) := by have := inB_not.1 hb.out; omega
    clear hb
    rcases ways with h1 | ⟨h1, h2⟩
    all_goals
      go_enter Tryz.func47, Tryz.ntmps47
      go_wp2_with fail
      go_ret
      refine ⟨ret_bool ?_, rfl⟩
      first | rfl | (simp; done) | (simp; omega)
  · obtain ⟨h1, h2⟩ := inB_iff.1 hb.out
    clear hb
    go_enter Tryz.func47, Tryz.ntmps47
    go_wp2_with fail
    go_ret
    refine ⟨ret_bool ?_, rfl⟩
    first | rfl | (simp; done) | (simp; omega)
theorem outr_any (n f t : Int) (b : Bool) (w : World) (hb : Hid (inB n f t = b)) :
    Calls Tryz.prog 39 #[.int .i64 n, .int .i64 f, .int .i64 t] w fun e w' => e = .returned (.bool (!b)) ∧ w = w' := by
  cases b
  · have ways : n < f ∨ (f ≤ n ∧ t < n) := by have := inB_not.1 hb.out; omega
    clear hb
    rcases ways with h1 | ⟨h1, h2⟩
    all_goals
      go_enter Tryz.func39, Tryz.ntmps39
      go_wp2_with fail
      go_ret
      refine ⟨ret_bool ?_, rfl⟩
      first | rfl | (simp; done) | (simp; omega)
  · obtain ⟨h1, h2⟩ := inB_iff.1 hb.out
    clear hb
    go_enter Tryz.func39, Tryz.ntmps39
    go_wp2_with fail
    go_ret
    refine ⟨ret_bool ?_, rfl⟩
    first | rfl | (simp; done) | (simp; omega)
set_option maxRecDepth 100000 in
set_option maxHeartbeats 1000000 in
theorem level_any (x0 x1 a0 a1 : Int) (b : Bool) (w : World) (i0 : I64 x0) (i1 : I64 x1) (h0 : 0 ≤ a0 ∧ a0 ≤ 10000) (h1 : 0 ≤ a1 ∧ a1 ≤ 1000000) (hb : Hid (lvB x0 x1 a0 a1 = b)) :
    Calls Tryz.prog 71 #[.agg #[.int .i64 x0, .int .i64 x1], .agg #[.int .i64 a0, .int .i64 a1]] w fun e w' => e = .returned (.bool b) ∧ Below w.heap.size w w' := by
  obtain ⟨h00, h01⟩ := h0
  obtain ⟨h10, h11⟩ := h1
  have hb := hb.out
  unfold lvB at hb
  cases e0 : inB x0 (a0 + 1) 10000
  · rw [e0] at hb
    obtain rfl : b = false := by rw [← hb]; rfl
    have E0 := Lib.hid e0
    clear hb e0
    go_enter Tryz.func71, Tryz.ntmps71
    go_wp2_with fail
    refine (in_any _ _ _ _ _ E0).mono ?_
    rintro e1 w9 ⟨rfl, rfl⟩
    go_wp2_with fail
    go_ret
    refine ⟨rfl, ?_⟩
    all_goals (repeat (first | exact Below.refl _ _ | exact HB.out | exact below_in _ (by assumption) | assumption | exact Nat.le_refl _ | refine Below.setCell ?_ (by first | (simp; done) | (simp; omega) | omega) _ | refine Below.alloc ?_ (by first | exact Nat.le_refl _ | (simp; done) | (simp; omega) | omega) _ | refine Below.drew ?_))
  · rw [e0] at hb
    have E0 := Lib.hid e0
    obtain ⟨f0, f1⟩ := inB_iff.1 e0
    clear e0
    cases e1 : inB x1 0 1000000
    · rw [e1] at hb
      obtain rfl : b = false := by rw [← hb]; rfl
      have E1 := Lib.hid e1
      clear hb e1
      go_enter Tryz.func71, Tryz.ntmps71
      go_wp2_with fail
      refine (in_any _ _ _ _ _ E0).mono ?_
      rintro e1 w9 ⟨rfl, rfl⟩
      go_wp2_with fail
      refine (in_any _ _ _ _ _ E1).mono ?_
      rintro e1 w9 ⟨rfl, rfl⟩
      go_wp2_with fail
      go_ret
      refine ⟨rfl, ?_⟩
      all_goals (repeat (first | exact Below.refl _ _ | exact HB.out | exact below_in _ (by assumption) | assumption | exact Nat.le_refl _ | refine Below.setCell ?_ (by first | (simp; done) | (simp; omega) | omega) _ | refine Below.alloc ?_ (by first | exact Nat.le_refl _ | (simp; done) | (simp; omega) | omega) _ | refine Below.drew ?_))
    · rw [e1] at hb
      have E1 := Lib.hid e1
      obtain ⟨g0, g1⟩ := inB_iff.1 e1
      have HB := Lib.hid hb
      clear hb e1
      go_enter Tryz.func71, Tryz.ntmps71
      go_wp2_with fail
      refine (in_any _ _ _ _ _ E0).mono ?_
      rintro e1 w9 ⟨rfl, rfl⟩
      go_wp2_with fail
      refine (in_any _ _ _ _ _ E1).mono ?_
      rintro e1 w9 ⟨rfl, rfl⟩
      go_wp2_with fail
      go_ret
      refine ⟨ret_bool ?_, ?_⟩
      · rw [← HB.out, wr_in (by omega) (by omega) (by omega) (by omega), wr_in (by omega) (by omega) (by omega) (by omega)]; rfl
      all_goals (repeat (first | exact Below.refl _ _ | exact HB.out | exact below_in _ (by assumption) | assumption | exact Nat.le_refl _ | refine Below.setCell ?_ (by first | (simp; done) | (simp; omega) | omega) _ | refine Below.alloc ?_ (by first | exact Nat.le_refl _ | (simp; done) | (simp; omega) | omega) _ | refine Below.drew ?_))
set_option maxRecDepth 100000 in
theorem nap_any (a b c : Int) (r : Bool) (w : World) (hb : Hid (npB a b c = r)) :
    Calls Tryz.prog 73 #[.agg #[.int .i64 a, .int .i64 b, .int .i64 c]] w fun e w' => e = .returned (.bool r) ∧ Below w.heap.size w w' := by
  have hb := hb.out
  unfold npB at hb
  obtain ⟨r0, e0⟩ : ∃ z, inB a 0 1000000 = z := ⟨_, rfl⟩
  obtain ⟨r1, e1⟩ : ∃ z, inB b 0 100000000 = z := ⟨_, rfl⟩
  obtain ⟨r2, e2⟩ : ∃ z, inB c 0 100000000 = z := ⟨_, rfl⟩
  rw [e0, e1, e2] at hb
  have C0 := Lib.hid (fun w => in_any _ _ _ _ w (Lib.hid e0))
  have C1 := Lib.hid (fun w => in_any _ _ _ _ w (Lib.hid e1))
  have C2 := Lib.hid (fun w => in_any _ _ _ _ w (Lib.hid e2))
  clear e0 e1 e2
  subst hb
  cases r0
  ·
    go_enter Tryz.func73, Tryz.ntmps73
    go_wp2_with fail
    refine (C0.out _).mono ?_
    rintro e1 w9 ⟨rfl, rfl⟩
    go_wp2_with fail
    go_ret
    refine ⟨rfl, ?_⟩
    all_goals (repeat (first | exact Below.refl _ _ | exact HB.out | exact below_in _ (by assumption) | assumption | exact Nat.le_refl _ | refine Below.setCell ?_ (by first | (simp; done) | (simp; omega) | omega) _ | refine Below.alloc ?_ (by first | exact Nat.le_refl _ | (simp; done) | (simp; omega) | omega) _ | refine Below.drew ?_))
  · cases r1
    ·
      go_enter Tryz.func73, Tryz.ntmps73
      go_wp2_with fail
      refine (C0.out _).mono ?_
      rintro e1 w9 ⟨rfl, rfl⟩
      go_wp2_with fail
      refine (C1.out _).mono ?_
      rintro e1 w9 ⟨rfl, rfl⟩
      go_wp2_with fail
      go_ret
      refine ⟨rfl, ?_⟩
      all_goals (repeat (first | exact Below.refl _ _ | exact HB.out | exact below_in _ (by assumption) | assumption | exact Nat.le_refl _ | refine Below.setCell ?_ (by first | (simp; done) | (simp; omega) | omega) _ | refine Below.alloc ?_ (by first | exact Nat.le_refl _ | (simp; done) | (simp; omega) | omega) _ | refine Below.drew ?_))
    ·
      go_enter Tryz.func73, Tryz.ntmps73
      go_wp2_with fail
      refine (C0.out _).mono ?_
      rintro e1 w9 ⟨rfl, rfl⟩
      go_wp2_with fail
      refine (C1.out _).mono ?_
      rintro e1 w9 ⟨rfl, rfl⟩
      go_wp2_with fail
      refine (C2.out _).mono ?_
      rintro e1 w9 ⟨rfl, rfl⟩
      go_wp2_with fail
      go_ret
      refine ⟨by cases r2 <;> rfl, ?_⟩
      all_goals (repeat (first | exact Below.refl _ _ | exact HB.out | exact below_in _ (by assumption) | assumption | exact Nat.le_refl _ | refine Below.setCell ?_ (by first | (simp; done) | (simp; omega) | omega) _ | refine Below.alloc ?_ (by first | exact Nat.le_refl _ | (simp; done) | (simp; omega) | omega) _ | refine Below.drew ?_))

theorem lev_ah {f : Nat → Nat → Int} (k j : Nat) : ah f (k + 1) j = f k j := by simp [ah]
set_option maxRecDepth 100000 in
set_option maxHeartbeats 1000000 in
theorem first_lev (a : Option Addr) (n c : Nat) (f : Nat → Nat → Int) (r : Int) (w : World) (h : Hid (Open.RowsIn w a n 2 f)) (hn : n ≤ 1000) (hr : Hid (frI (lev f) n = r)) :
    Calls Tryz.prog 70 #[.slice a n c, .func (.func 71) #[] #[]] w fun e w' => e = .returned (.int .i64 r) ∧ Below w.heap.size w w' := by
  go_enter Tryz.func70, Tryz.ntmps70
  go_wp2_with fail
  have B0 : Hid (Box (w.alloc (.cells #[.int .i64 0, .int .i64 0] 88)) w.heap.size #[.int .i64 (ah f 0 0), .int .i64 (ah f 0 1)] 88) := Lib.hid (Box.new w _ _)
  have HB0 : Hid (Below w.heap.size w (w.alloc (.cells #[.int .i64 0, .int .i64 0] 88))) := Lib.hid ((Below.refl w.heap.size w).alloc (Nat.le_refl _) _)
  generalize w.alloc (.cells #[.int .i64 0, .int .i64 0] 88) = W at B0 HB0 ⊢
  go_loopw [10] (fun i wr => ∃ k : Nat, k ≤ n ∧ i = .int .i64 k ∧ Hid (∀ j, j < k → lev f j = true) ∧ Hid (Below w.heap.size w wr) ∧ Hid (Box wr w.heap.size #[.int .i64 (ah f k 0), .int .i64 (ah f k 1)] 88)) (fun i _ => n - (intOf i).toNat)
  case atStart => exact ⟨0, by omega, rfl, Lib.hid (fun j hj => by omega), HB0, B0⟩
  case round =>
    clear B0 HB0
    obtain ⟨k, hk, rfl, HL, HB, B⟩ := hrel
    by_cases hlt : k < n
    · obtain ⟨b, off, rfl, hbl, c0, c1, i0, i1⟩ := rows_at2 h k hlt
      have c0 := keep HB.out c0 hbl
      have c1 := keep HB.out c1 hbl
      obtain ⟨b0, b1, b2, b3⟩ := ah_bd k HL.out
      obtain ⟨v, hv⟩ : ∃ v, lev f k = v := ⟨_, rfl⟩
      have HV := Lib.hid hv
      have C := Lib.hid (fun w => level_any (f k 0) (f k 1) (ah f k 0) (ah f k 1) v w i0 i1 ⟨b0, b1⟩ ⟨b2, b3⟩ (Lib.hid hv))
      have bl := B.out.lt
      have bc := (B.out.alloc (.cells #[.int .i64 (f k 0), .int .i64 (f k 1)] 88)).cell
      have AH : Hid (ah f (k + 1) 0 = f k 0 ∧ ah f (k + 1) 1 = f k 1) := Lib.hid ⟨lev_ah _ _, lev_ah _ _⟩
      clear hv
      generalize f k 0 = x0 at *
      generalize f k 1 = x1 at *
      generalize ah f k 0 = a0 at *
      generalize ah f k 1 = a1 at *
      have X := Lib.hid (Box.new wr #[.int .i64 x0, .int .i64 x1] 88)
      cases v
      · go_wp2_with fail
        refine (C.out _).mono ?_
        rintro e1 w5 ⟨rfl, k5⟩
        have HB5 := Lib.hid (HB.out.trans (((Below.refl w.heap.size wr).alloc (by omega) _).trans (k5.mono (by simp; omega))))
        clear k5 bc
        go_wp2_with fail
        go_ret
        refine ⟨Kit.ret_int ?_, HB5.out⟩
        have e := hr.out
        unfold frI at e
        rw [fb_hit HL.out HV.out n hlt, if_pos hlt] at e
        exact e
      · go_wp2_with fail
        refine (C.out _).mono ?_
        rintro e1 w5 ⟨rfl, k5⟩
        have HB5 := Lib.hid (HB.out.trans (((Below.refl w.heap.size wr).alloc (by omega) _).trans (k5.mono (by simp; omega))))
        have X5 := Lib.hid (X.out.next k5)
        have B5 := Lib.hid ((B.out.alloc (.cells #[.int .i64 x0, .int .i64 x1] 88)).next k5)
        have xc := X5.out.cell
        have bc5 := B5.out.cell
        have bf5 := B5.out.frozen
        clear k5 bc
        go_wp2_with fail
        go_roundw
        case rel => exact ⟨k + 1, by omega, by go_num, Lib.hid (fun j hj => by
          by_cases e : j = k
          · subst e; exact HV.out
          · exact HL.out j (by omega)), Lib.hid ((HB5.out.setCell (by simp) _).setCell (by simp) _), Lib.hid (by rw [AH.out.1, AH.out.2]; exact (B5.out.set 0 _).set 1 _)⟩
        case measure => simp [intOf]; omega
    · obtain rfl : k = n := by omega
      go_wp2_with fail
      go_ret
      refine ⟨Kit.ret_int ?_, HB.out⟩
      have e := hr.out
      unfold frI at e
      rw [fb_all k HL.out, if_neg (by omega)] at e
      exact e
end Go.Proofs.YtlafeijkpnpdeaaGreat.PowA

/- Whether a platform may be: all naps; the program's check. -/
namespace Go.Proofs.YtlafeijkpnpdeaaGreat.PowB
open Go.RowKit Base Kit Conf PowA
set_option linter.unusedVariables false
set_option linter.unusedSimpArgs false

theorem nap1_any (a b c : Int) (x : Value) (r : Bool) (B : Nat) (w : World) (hx : ∃ x0 x1 x2 : Int, x = .agg #[.int .i64 x0, .int .i64 x1, .int .i64 x2]) (hB : w.cell? ⟨B, 0, none⟩ = some (.func (.func 73) #[] #[])) (hb : Hid (npB a b c = r)) :
    Calls Tryz.prog 100 #[.agg #[.int .i64 a, .int .i64 b, .int .i64 c], x, .pointer (some ⟨B, 0, none⟩)] w fun e w' => e = .returned (.bool r) ∧ Below w.heap.size w w' := by
  obtain ⟨x0, x1, x2, rfl⟩ := hx
  have hlt := lt_of_cell hB
  go_enter Tryz.func100, Tryz.ntmps100
  go_wp2_with fail
  refine (nap_any a b c r _ hb).mono ?_
  rintro e1 w5 ⟨rfl, k5⟩
  have HB5 := Lib.hid ((((Below.refl w.heap.size w).alloc (Nat.le_refl _) (.cells #[.int .i64 a, .int .i64 b, .int .i64 c] 120)).alloc (by simp) (.cells #[.int .i64 x0, .int .i64 x1, .int .i64 x2] 120)).trans (k5.mono (by simp; omega)))
  clear k5
  go_wp2_with fail
  go_ret
  exact ⟨rfl, HB5.out⟩
set_option maxRecDepth 100000 in
set_option maxHeartbeats 1000000 in
theorem first_nap (a : Option Addr) (n c : Nat) (f : Nat → Nat → Int) (r : Int) (B : Nat) (w : World) (h : Hid (Open.RowsIn w a n 3 f)) (hn : n ≤ 1000) (hB : w.cell? ⟨B, 0, none⟩ = some (.func (.func 73) #[] #[])) (hr : Hid (frI (nap f) n = r)) :
    Calls Tryz.prog 99 #[.slice a n c, .func (.func 100) #[] #[.pointer (some ⟨B, 0, none⟩)]] w fun e w' => e = .returned (.int .i64 r) ∧ Below w.heap.size w w' := by
  have hBl := lt_of_cell hB
  have HBC := Lib.hid (fun w1 (hb : Below w.heap.size w w1) => keep hb hB hBl)
  clear hB
  go_enter Tryz.func99, Tryz.ntmps99
  go_wp2_with fail
  have B0 := Lib.hid (Box.new w #[.int .i64 0, .int .i64 0, .int .i64 0] 120)
  have HB0 : Hid (Below w.heap.size w (w.alloc (.cells #[.int .i64 0, .int .i64 0, .int .i64 0] 120))) := Lib.hid ((Below.refl w.heap.size w).alloc (Nat.le_refl _) _)
  generalize w.alloc (.cells #[.int .i64 0, .int .i64 0, .int .i64 0] 120) = W at B0 HB0 ⊢
  go_loopw [10] (fun i wr => ∃ k : Nat, k ≤ n ∧ i = .int .i64 k ∧ Hid (∀ j, j < k → nap f j = true) ∧ Hid (Below w.heap.size w wr) ∧ ∃ a0 a1 a2 : Int, Hid (Box wr w.heap.size #[.int .i64 a0, .int .i64 a1, .int .i64 a2] 120)) (fun i _ => n - (intOf i).toNat)
  case atStart => exact ⟨0, by omega, rfl, Lib.hid (fun j hj => by omega), HB0, _, _, _, B0⟩
  case round =>
    clear B0 HB0
    obtain ⟨k, hk, rfl, HL, HB, a0, a1, a2, B1⟩ := hrel
    by_cases hlt : k < n
    · obtain ⟨b, off, rfl, hbl, c0, c1, c2, i0, i1, i2⟩ := rows_at3 h k hlt
      have c0 := keep HB.out c0 hbl
      have c1 := keep HB.out c1 hbl
      have c2 := keep HB.out c2 hbl
      obtain ⟨v, hv⟩ : ∃ v, nap f k = v := ⟨_, rfl⟩
      have HV := Lib.hid hv
      have hcl := HBC.out _ (HB.out.alloc HB.out.size (.cells #[.int .i64 (f k 0), .int .i64 (f k 1), .int .i64 (f k 2)] 120))
      have C := Lib.hid (nap1_any (f k 0) (f k 1) (f k 2) (.agg #[.int .i64 a0, .int .i64 a1, .int .i64 a2]) v B _ ⟨a0, a1, a2, rfl⟩ hcl (Lib.hid hv))
      have bl := B1.out.lt
      have bc := (B1.out.alloc (.cells #[.int .i64 (f k 0), .int .i64 (f k 1), .int .i64 (f k 2)] 120)).cell
      clear hv hcl
      generalize f k 0 = x0 at *
      generalize f k 1 = x1 at *
      generalize f k 2 = x2 at *
      have X := Lib.hid (Box.new wr #[.int .i64 x0, .int .i64 x1, .int .i64 x2] 120)
      cases v
      · go_wp2_with fail
        refine C.out.mono ?_
        rintro e1 w5 ⟨rfl, k5⟩
        have HB5 := Lib.hid (HB.out.trans (((Below.refl w.heap.size wr).alloc (by omega) _).trans (k5.mono (by simp; omega))))
        clear k5 bc
        go_wp2_with fail
        go_ret
        refine ⟨Kit.ret_int ?_, HB5.out⟩
        have e := hr.out
        unfold frI at e
        rw [fb_hit HL.out HV.out n hlt, if_pos hlt] at e
        exact e
      · go_wp2_with fail
        refine C.out.mono ?_
        rintro e1 w5 ⟨rfl, k5⟩
        have HB5 := Lib.hid (HB.out.trans (((Below.refl w.heap.size wr).alloc (by omega) _).trans (k5.mono (by simp; omega))))
        have X5 := Lib.hid (X.out.next k5)
        have B5 := Lib.hid ((B1.out.alloc (.cells #[.int .i64 x0, .int .i64 x1, .int .i64 x2] 120)).next k5)
        have xc := X5.out.cell
        have bc5 := B5.out.cell
        have bf5 := B5.out.frozen
        clear k5 bc
        go_wp2_with fail
        go_roundw
        case rel => exact ⟨k + 1, by omega, by go_num, Lib.hid (fun j hj => by
          by_cases e : j = k
          · subst e; exact HV.out
          · exact HL.out j (by omega)), Lib.hid (((HB5.out.setCell (by simp) _).setCell (by simp) _).setCell (by simp) _), x0, x1, x2, Lib.hid (((B5.out.set 0 _).set 1 _).set 2 _)⟩
        case measure => simp [intOf]; omega
    · obtain rfl : k = n := by omega
      go_wp2_with fail
      go_ret
      refine ⟨Kit.ret_int ?_, HB.out⟩
      have e := hr.out
      unfold frI at e
      rw [fb_all k HL.out, if_neg (by omega)] at e
      exact e
set_option maxRecDepth 100000 in
theorem all_nap (a : Option Addr) (n c : Nat) (f : Nat → Nat → Int) (r : Bool) (w : World) (h : Hid (Open.RowsIn w a n 3 f)) (hr : Hid (allN f n = r)) :
    Calls Tryz.prog 72 #[.slice a n c, .int .i64 4, .func (.func 73) #[] #[]] w fun e w' => e = .returned (.bool r) ∧ Below w.heap.size w w' := by
  have hm := h.out.1
  have hr := hr.out
  unfold allN at hr
  by_cases hn : n ≤ 4
  · have hn' : ((n : Nat) : Int) ≤ 4 := by omega
    rw [show decide (n ≤ 4) = true from by simpa using hn, Bool.true_and] at hr
    obtain ⟨z, hz⟩ : ∃ z, frI (nap f) n = z := ⟨_, rfl⟩
    have bn : (Box.new w #[.func (.func 73) #[] #[]] 140).cell 0 = (Box.new w #[.func (.func 73) #[] #[]] 140).cell 0 := rfl
    have bc : (w.alloc (.cells #[.func (.func 73) #[] #[]] 140)).cell? ⟨w.heap.size, 0, none⟩ = some (.func (.func 73) #[] #[]) := (Box.new w #[.func (.func 73) #[] #[]] 140).cell 0
    have C := Lib.hid (first_nap a n c f z w.heap.size _ (rows_alloc h _) (by omega) bc (Lib.hid hz))
    have zr : (z < 0 ∧ r = true) ∨ (0 ≤ z ∧ r = false) := by
      rw [← hz, ← hr]
      have := fb_le (nap f) n
      unfold frI
      by_cases e : fb (nap f) n < n
      · right; rw [if_pos e]; exact ⟨by omega, by simp; omega⟩
      · left; rw [if_neg e]; exact ⟨by omega, by simp; omega⟩
    clear hz hr bc bn
    rcases zr with ⟨hz, rfl⟩ | ⟨hz, rfl⟩
    all_goals
      go_enter Tryz.func72, Tryz.ntmps72
      go_wp2_with fail
      refine C.out.mono ?_
      rintro e1 w5 ⟨rfl, k5⟩
      have HB := Lib.hid (below_in _ k5)
      clear k5
      go_wp2_with fail
      go_ret
      refine ⟨ret_bool ?_, HB.out⟩
      first | rfl | (simp; done) | (simp; omega)
  · have hn' : 4 < ((n : Nat) : Int) := by omega
    rw [show decide (n ≤ 4) = false from by simpa using hn, Bool.false_and] at hr
    subst hr
    clear hn
    go_enter Tryz.func72, Tryz.ntmps72
    go_wp2_with fail
    first
      | go_ret
      | (refine ⟨fun _ h => (by cases h), ?_⟩; go_wp2; go_ret)
    refine ⟨ret_bool ?_, (Below.refl _ _).alloc (Nat.le_refl _) _⟩
    first | rfl | (simp; done) | (simp; omega)
end Go.Proofs.YtlafeijkpnpdeaaGreat.PowB

/- Whether a platform may be: the program's check. -/
namespace Go.Proofs.YtlafeijkpnpdeaaGreat.PowC
open Go.RowKit Base Kit Conf PowA PowB
set_option linter.unusedVariables false
set_option linter.unusedSimpArgs false

/-- what stays: the configuration's block -/
structure Pst (w0 w : World) (p : PowC) : Prop where
  bel : Below w0.heap.size w0 w
  box : Box w w0.heap.size #[.slice p.la p.ln p.lc, .slice p.na p.nn p.nc, .int .i64 p.sw, .int .i64 p.id, .int .i64 p.ch, .int .i64 p.qu, .int .i64 p.sl, .int .i64 p.pp] 28
theorem pst_next {w0 w w1 : World} {p : PowC} (h : Hid (Pst w0 w p)) (k : Below w.heap.size w w1) : Hid (Pst w0 w1 p) := Lib.hid ⟨below_next h.out.bel k, h.out.box.next k⟩
theorem pst_in (w : World) (p : PowC) : Hid (Pst w (w.alloc (.cells #[.slice p.la p.ln p.lc, .slice p.na p.nn p.nc, .int .i64 p.sw, .int .i64 p.id, .int .i64 p.ch, .int .i64 p.qu, .int .i64 p.sl, .int .i64 p.pp] 28)) p) := Lib.hid ⟨(Below.refl _ _).alloc (Nat.le_refl _) _, Box.new _ _ _⟩
theorem frI_cases {P : Nat → Bool} {n : Nat} : (fb P n < n ∧ frI P n = (fb P n : Int)) ∨ (fb P n = n ∧ frI P n = -1) := by
  have := fb_le P n
  unfold frI
  by_cases h : fb P n < n
  · exact .inl ⟨h, if_pos h⟩
  · exact .inr ⟨by omega, if_neg h⟩
set_option maxRecDepth 100000 in
set_option maxHeartbeats 4000000 in
theorem power_any (p : PowC) (w : World) (ok : p.Ok w) (er k : Int) (hr : Hid (powR p = (er, k))) :
    Calls Tryz.prog 45 #[.agg #[.slice p.la p.ln p.lc, .slice p.na p.nn p.nc, .int .i64 p.sw, .int .i64 p.id, .int .i64 p.ch, .int .i64 p.qu, .int .i64 p.sl, .int .i64 p.pp]] w fun e w' => e = .returned (.tuple #[.int .i64 er, .int .i64 k]) ∧ Below w.heap.size w w' := by
  have S := pst_in w p
  have hm := ok.lev.out.1
  have hm2 := ok.nap.out.1
  have HL := ok.lev
  have HN := ok.nap
  have hr := hr.out
  unfold powR at hr
  clear ok
  by_cases h1 : p.ln < 1 ∨ 6 < p.ln
  · rw [if_pos h1] at hr
    obtain ⟨rfl, rfl⟩ : er = 27 ∧ k = 0 := by simp only [Prod.mk.injEq] at hr; exact ⟨hr.1.symm, hr.2.symm⟩
    have C1 := Lib.hid (fun w => in_any p.ln 1 6 false w (Lib.hid (inB_not.2 (by omega))))
    clear hr h1
    go_enter Tryz.func45, Tryz.ntmps45
    go_wp2_with fail
    generalize w.alloc (.cells #[.slice p.la p.ln p.lc, .slice p.na p.nn p.nc, .int .i64 p.sw, .int .i64 p.id, .int .i64 p.ch, .int .i64 p.qu, .int .i64 p.sl, .int .i64 p.pp] 28) = w1 at S ⊢
    refine (C1.out _).mono ?_
    rintro e1 w9 ⟨rfl, rfl⟩
    go_wp2_with fail
    go_ret2
    exact ⟨rfl, S.out.bel⟩
  · rw [if_neg h1] at hr
    have C1 := Lib.hid (fun w => in_any p.ln 1 6 true w (Lib.hid (inB_iff.2 (by omega))))
    have hln : p.ln ≤ 6 := by omega
    obtain ⟨z, hz⟩ : ∃ z, frI (lev p.lf) p.ln = z := ⟨_, rfl⟩
    have C2 := Lib.hid (fun w h => first_lev p.la p.ln p.lc p.lf z w h (by omega) (Lib.hid hz))
    rcases frI_cases (P := lev p.lf) (n := p.ln) with ⟨hf, hz2⟩ | ⟨hf, hz2⟩
    · rw [if_pos hf] at hr
      rw [hz] at hz2
      rw [← hz2] at hr
      have z0 : 0 ≤ z := by omega
      obtain ⟨rfl, rfl⟩ : er = 27 ∧ z = k := by simp only [Prod.mk.injEq] at hr; exact ⟨hr.1.symm, hr.2⟩
      clear hr hz hz2 hf h1
      go_enter Tryz.func45, Tryz.ntmps45
      go_wp2_with fail
      generalize w.alloc (.cells #[.slice p.la p.ln p.lc, .slice p.na p.nn p.nc, .int .i64 p.sw, .int .i64 p.id, .int .i64 p.ch, .int .i64 p.qu, .int .i64 p.sl, .int .i64 p.pp] 28) = w1 at S ⊢
      have bc := S.out.box.cell
      refine (C1.out _).mono ?_
      rintro e1 w9 ⟨rfl, rfl⟩
      go_wp2_with fail
      refine (C2.out _ (Lib.hid (rows_below HL.out S.out.bel (Nat.le_refl _)))).mono ?_
      rintro e1 w2 ⟨rfl, hb2⟩
      have S := pst_next S hb2
      clear hb2 bc
      go_wp2_with fail
      go_ret2
      exact ⟨rfl, S.out.bel⟩
    · rw [if_neg (by omega)] at hr
      rw [hz] at hz2
      subst hz2
      obtain ⟨r, hrr⟩ : ∃ r, rest p = r := ⟨_, rfl⟩
      rw [hrr] at hr
      unfold rest at hrr
      obtain ⟨r0, e0⟩ : ∃ r, allN p.nf p.nn = r := ⟨_, rfl⟩
      obtain ⟨r1, e1⟩ : ∃ r, inB p.sw 0 100000000 = r := ⟨_, rfl⟩
      obtain ⟨r2, e2⟩ : ∃ r, inB p.id 0 1000000 = r := ⟨_, rfl⟩
      obtain ⟨r3, e3⟩ : ∃ r, inB p.ch 0 1000000 = r := ⟨_, rfl⟩
      obtain ⟨r4, e4⟩ : ∃ r, inB p.qu 1 1000000000 = r := ⟨_, rfl⟩
      obtain ⟨r5, e5⟩ : ∃ r, inB p.sl 1 1000000 = r := ⟨_, rfl⟩
      obtain ⟨r6, e6⟩ : ∃ r, inB p.pp 0 100000 = r := ⟨_, rfl⟩
      rw [e0, e1, e2, e3, e4, e5, e6] at hrr
      have D0 := Lib.hid (fun w h => all_nap p.na p.nn p.nc p.nf r0 w h (Lib.hid e0))
      have D1 := Lib.hid (fun w => in_any _ _ _ _ w (Lib.hid e1))
      have D2 := Lib.hid (fun w => in_any _ _ _ _ w (Lib.hid e2))
      have D3 := Lib.hid (fun w => in_any _ _ _ _ w (Lib.hid e3))
      have D4 := Lib.hid (fun w => in_any _ _ _ _ w (Lib.hid e4))
      have D5 := Lib.hid (fun w => in_any _ _ _ _ w (Lib.hid e5))
      have D6 := Lib.hid (fun w => in_any _ _ _ _ w (Lib.hid e6))
      clear e0 e1 e2 e3 e4 e5 e6 hz h1 hf
      have HR := Lib.hid hr
      have HRR := Lib.hid hrr
      clear hr hrr
      go_enter Tryz.func45, Tryz.ntmps45
      go_wp2_with fail
      generalize w.alloc (.cells #[.slice p.la p.ln p.lc, .slice p.na p.nn p.nc, .int .i64 p.sw, .int .i64 p.id, .int .i64 p.ch, .int .i64 p.qu, .int .i64 p.sl, .int .i64 p.pp] 28) = w1 at S ⊢
      have bc := S.out.box.cell
      refine (C1.out _).mono ?_
      rintro e1 w9 ⟨rfl, rfl⟩
      go_wp2_with fail
      refine (C2.out _ (Lib.hid (rows_below HL.out S.out.bel (Nat.le_refl _)))).mono ?_
      rintro e1 w2 ⟨rfl, hb2⟩
      have S := pst_next S hb2
      clear hb2 bc
      have bc := S.out.box.cell
      go_wp2_with fail
      refine (D0.out _ (Lib.hid (rows_below HN.out S.out.bel (Nat.le_refl _)))).mono ?_
      rintro e1 w3 ⟨rfl, hb3⟩
      have S := pst_next S hb3
      clear hb3 bc
      have bc := S.out.box.cell
      cases r0
      ·
        obtain rfl : false = r := by have e := HRR.out; simpa using e
        obtain ⟨rfl, rfl⟩ : er = 27 ∧ (p.ln : Int) = k := by have hr := HR.out; simp only [Bool.false_eq_true, if_false, Prod.mk.injEq] at hr; exact ⟨hr.1.symm, hr.2⟩
        go_wp2_with fail
        go_ret2
        exact ⟨rfl, S.out.bel⟩
      ·
        go_wp2_with fail
        refine (D1.out _).mono ?_
        rintro e1 w9 ⟨rfl, rfl⟩
        cases r1
        ·
          obtain rfl : false = r := by have e := HRR.out; simpa using e
          obtain ⟨rfl, rfl⟩ : er = 27 ∧ (p.ln : Int) = k := by have hr := HR.out; simp only [Bool.false_eq_true, if_false, Prod.mk.injEq] at hr; exact ⟨hr.1.symm, hr.2⟩
          go_wp2_with fail
          go_ret2
          exact ⟨rfl, S.out.bel⟩
        ·
          go_wp2_with fail
          refine (D2.out _).mono ?_
          rintro e1 w9 ⟨rfl, rfl⟩
          cases r2
          ·
            obtain rfl : false = r := by have e := HRR.out; simpa using e
            obtain ⟨rfl, rfl⟩ : er = 27 ∧ (p.ln : Int) = k := by have hr := HR.out; simp only [Bool.false_eq_true, if_false, Prod.mk.injEq] at hr; exact ⟨hr.1.symm, hr.2⟩
            go_wp2_with fail
            go_ret2
            exact ⟨rfl, S.out.bel⟩
          ·
            go_wp2_with fail
            refine (D3.out _).mono ?_
            rintro e1 w9 ⟨rfl, rfl⟩
            cases r3
            ·
              obtain rfl : false = r := by have e := HRR.out; simpa using e
              obtain ⟨rfl, rfl⟩ : er = 27 ∧ (p.ln : Int) = k := by have hr := HR.out; simp only [Bool.false_eq_true, if_false, Prod.mk.injEq] at hr; exact ⟨hr.1.symm, hr.2⟩
              go_wp2_with fail
              go_ret2
              exact ⟨rfl, S.out.bel⟩
            ·
              go_wp2_with fail
              refine (D4.out _).mono ?_
              rintro e1 w9 ⟨rfl, rfl⟩
              cases r4
              ·
                obtain rfl : false = r := by have e := HRR.out; simpa using e
                obtain ⟨rfl, rfl⟩ : er = 27 ∧ (p.ln : Int) = k := by have hr := HR.out; simp only [Bool.false_eq_true, if_false, Prod.mk.injEq] at hr; exact ⟨hr.1.symm, hr.2⟩
                go_wp2_with fail
                go_ret2
                exact ⟨rfl, S.out.bel⟩
              ·
                go_wp2_with fail
                refine (D5.out _).mono ?_
                rintro e1 w9 ⟨rfl, rfl⟩
                cases r5
                ·
                  obtain rfl : false = r := by have e := HRR.out; simpa using e
                  obtain ⟨rfl, rfl⟩ : er = 27 ∧ (p.ln : Int) = k := by have hr := HR.out; simp only [Bool.false_eq_true, if_false, Prod.mk.injEq] at hr; exact ⟨hr.1.symm, hr.2⟩
                  go_wp2_with fail
                  go_ret2
                  exact ⟨rfl, S.out.bel⟩
                ·
                  go_wp2_with fail
                  refine (D6.out _).mono ?_
                  rintro e1 w9 ⟨rfl, rfl⟩
                  cases r6
                  ·
                    obtain rfl : false = r := by have e := HRR.out; simpa using e
                    obtain ⟨rfl, rfl⟩ : er = 27 ∧ (p.ln : Int) = k := by have hr := HR.out; simp only [Bool.false_eq_true, if_false, Prod.mk.injEq] at hr; exact ⟨hr.1.symm, hr.2⟩
                    go_wp2_with fail
                    go_ret2
                    exact ⟨rfl, S.out.bel⟩
                  · obtain rfl : true = r := HRR.out
                    obtain ⟨rfl, rfl⟩ : er = 0 ∧ k = 0 := by have hr := HR.out; simp only [if_true, Prod.mk.injEq] at hr; exact ⟨hr.1.symm, hr.2.symm⟩
                    go_wp2_with fail
                    go_ret2
                    exact ⟨rfl, S.out.bel⟩
end Go.Proofs.YtlafeijkpnpdeaaGreat.PowC

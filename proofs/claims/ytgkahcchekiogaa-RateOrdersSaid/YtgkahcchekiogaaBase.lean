/- Small laws on worlds: what is kept of an older world. -/
import Derived.WalkKit
import Derived.WalkSmall
import Derived.Lib.Hide
namespace Go.Proofs.Ytgkahcchekiogaa.Base
open Go.RowKit
set_option linter.unusedVariables false

theorem lt_of_cell {w : World} {a : Addr} {v : Value} (h : w.cell? a = some v) : a.block < w.heap.size := by
  unfold World.cell? at h
  refine Nat.lt_of_not_le fun hle => ?_
  rw [Array.getElem?_eq_none hle] at h
  cases h
theorem keep {W w1 : World} {B : Nat} (hb : Below B W w1) {a : Addr} {v : Value} (h : W.cell? a = some v) (hB : a.block < B) : w1.cell? a = some v := by
  rw [hb.cell hB]; exact h
theorem keepf {W w1 : World} {B : Nat} (hb : Below B W w1) {a : Addr} {x : Bool} (h : W.frozen? a = x) (hB : a.block < B) : w1.frozen? a = x := by
  rw [hb.frozen hB]; exact h
theorem bcell {W w1 : World} (hb : Below W.heap.size W w1) : (∀ b o, b < W.heap.size → w1.cell? ⟨b, o, none⟩ = W.cell? ⟨b, o, none⟩) ∧ (∀ b o, b < W.heap.size → w1.frozen? ⟨b, o, none⟩ = W.frozen? ⟨b, o, none⟩) :=
  ⟨fun b o h => hb.cell (p := ⟨b, o, none⟩) h, fun b o h => hb.frozen (p := ⟨b, o, none⟩) h⟩
theorem alloc_keep {w : World} {o : Obj} {a : Addr} {v : Value} (h : w.cell? a = some v) : (w.alloc o).cell? a = some v := by
  rw [World.cell?_of_block (w := w) (Below.heap_alloc w o a.block (lt_of_cell h))]; exact h
theorem alloc_keepf {w : World} {o : Obj} {a : Addr} {x : Bool} (h : w.frozen? a = x) (hl : a.block < w.heap.size) : (w.alloc o).frozen? a = x := by
  rw [World.frozen?_of_block (w := w) (Below.heap_alloc w o a.block hl)]; exact h
theorem set_keep {w : World} {p a : Addr} {u v : Value} (h : w.cell? a = some v) (hp : a.block ≠ p.block) : (w.setCell p u).cell? a = some v := by
  rw [World.cell?_of_block (w := w) (Below.heap_setCell w p u a.block hp)]; exact h
theorem set_keepf {w : World} {p a : Addr} {u : Value} {x : Bool} (h : w.frozen? a = x) (hp : a.block ≠ p.block) : (w.setCell p u).frozen? a = x := by
  rw [World.frozen?_of_block (w := w) (Below.heap_setCell w p u a.block hp)]; exact h
/-- a cell that holds a value and may be written: kept as one fact -/
def Cell (w : World) (b o : Nat) (v : Value) : Prop := w.cell? ⟨b, o, none⟩ = some v ∧ w.frozen? ⟨b, o, none⟩ = false
theorem Cell.c {w : World} {b o : Nat} {v : Value} (h : Cell w b o v) : w.cell? ⟨b, o, none⟩ = some v := h.1
theorem Cell.f {w : World} {b o : Nat} {v : Value} (h : Cell w b o v) : w.frozen? ⟨b, o, none⟩ = false := h.2
theorem Cell.lt {w : World} {b o : Nat} {v : Value} (h : Cell w b o v) : b < w.heap.size := lt_of_cell h.1
theorem Cell.below {w w1 : World} {B b o : Nat} {v : Value} (h : Cell w b o v) (hb : Below B w w1) (hB : b < B) : Cell w1 b o v := ⟨keep hb h.1 hB, keepf hb h.2 hB⟩
theorem Cell.alloc {w : World} {b o : Nat} {v : Value} (h : Cell w b o v) (x : Obj) : Cell (w.alloc x) b o v := ⟨alloc_keep h.1, alloc_keepf h.2 h.lt⟩
theorem Cell.set {w : World} {b o : Nat} {v : Value} (h : Cell w b o v) (p : Addr) (u : Value) (hp : b ≠ p.block) : Cell (w.setCell p u) b o v := ⟨set_keep h.1 hp, set_keepf h.2 hp⟩
theorem Cell.drew {w : World} {b o : Nat} {v : Value} (h : Cell w b o v) : Cell w.drew b o v := h
theorem Cell.drewN {w : World} {b o : Nat} {v : Value} (h : Cell w b o v) (n : Nat) : Cell (w.drewN n) b o v := h
/-- append of one value to a slice that the call owns -/
theorem append1 {P : Program} (w : World) {ops : Array Oper} {rest : List Oper} {o : Oper} {a : Act} {Q : Exit → Act → World → Prop} (hgd : o.guard = .none) (s x : Operand) (t : TypeId)
    (ho : o.op = .call { callee := .builtin .append, args := #[s, x], argTypes := #[t, t] })
    (base : Nat) (e : TypeId) (z : Value) (bytes : Nat) (ht : P.underlying t = some (.slice e)) (hinfo : (P.info? e).map (fun i => (i.zero, i.size, i.bytes)) = some (some z, 1, bytes)) (hzs : z.cells.size = 1) (T : TypeId) (u : Value)
    (v : Value) (n : Nat) (xs : List Value) (hs : a.eval s = v) (hown : w.ownsRow base e 1 v n xs)
    (hx : a.eval x = .slice (some ⟨w.heap.size, 0, .none⟩) 1 1) (h1 : u.oneCell' = true) (hn : n + 1 ≤ maxLen) (hbytes : (n + 1) * bytes ≤ 140737488355328) (hbase : base ≤ w.heap.size)
    (h : ∀ v' w', w'.ownsRow base e 1 v' (n + 1) (xs ++ [u]) → w.heap.size ≤ w'.heap.size → Below base w w' → (w.alloc (.cells #[u] T)).grownBy w' v.ownBlock → wpList P ops Q rest (a.put o.dst v') w') :
    wpList P ops Q (o :: rest) a (w.alloc (.cells #[u] T)) := by
  obtain ⟨i0, hi, hz0, hz1, hz2⟩ := info_parts hinfo
  refine wpList_append_own _ hgd s x t ho base e i0 z 1 bytes ht hi hz0 hz1 hz2 hzs (by decide) v n xs hs (hown.alloc _) ⟨w.heap.size, 0, .none⟩ 1 1 [u] hx rfl ?_ ?_ hn hbytes (by simp; omega) ?_
  · intro j y hj
    match j, hj with
    | 0, hj => simp at hj; subst hj; go_simp
    | j + 1, hj => simp at hj
  · intro y hy; simp at hy; subst hy; exact h1
  · intro v' w' ho' hg _
    have hsz := hg.size
    simp at hsz
    exact h v' w' ho' (by omega) (((Below.refl base w).alloc hbase _).grown hg (by simp; omega) (fun k hk => (hown.lt k hk).1)) hg

theorem ownsRow_below {w w1 : World} {base : Nat} {e : TypeId} {size : Nat} {v : Value} {n : Nat} {xs : List Value} (h : w.ownsRow base e size v n xs) {B : Nat} (hb : Below B w w1) (hB : ∀ g, v.ownBlock = some g → g < B) : w1.ownsRow base e size v n xs := by
  obtain ⟨h1, h2⟩ := h
  refine ⟨h1, ?_⟩
  rcases h2 with h2 | ⟨g, cap, cur, hv, hg, hh, r⟩
  · exact Or.inl h2
  · refine Or.inr ⟨g, cap, cur, hv, hg, ?_, r⟩
    rw [hb.block g (hB g (by rw [hv]; rfl))]; exact hh
theorem ownsRow_keep {w w1 : World} {base : Nat} {e : TypeId} {size : Nat} {v : Value} {n : Nat} {xs : List Value} (h : w.ownsRow base e size v n xs) (hb : Below w.heap.size w w1) : w1.ownsRow base e size v n xs :=
  ownsRow_below h hb (fun g hg => (h.lt g hg).2)
theorem ownsRow_open {w : World} {base : Nat} {e : TypeId} {size : Nat} {v : Value} {n : Nat} {xs : List Value} (h : w.ownsRow base e size v n xs) (hn : n ≠ 0) : ∃ g cap, v = .slice (some ⟨g, 0, none⟩) n cap ∧ base ≤ g ∧ g < w.heap.size := by
  obtain ⟨h1, h2⟩ := id h
  rcases h2 with ⟨_, h2⟩ | ⟨g, cap, cur, hv, hg, hh, r⟩
  · exact absurd h2 hn
  · exact ⟨g, cap, hv, hg, (h.lt g (by rw [hv]; rfl)).2⟩
theorem ownsRow_drewN {w : World} {base : Nat} {e : TypeId} {size : Nat} {v : Value} {n : Nat} {xs : List Value} (h : w.ownsRow base e size v n xs) (k : Nat) : (w.drewN k).ownsRow base e size v n xs := h
theorem sizes {W w1 : World} {B : Nat} (hb : Below B W w1) : W.heap.size ≤ w1.heap.size := hb.size
end Go.Proofs.Ytgkahcchekiogaa.Base

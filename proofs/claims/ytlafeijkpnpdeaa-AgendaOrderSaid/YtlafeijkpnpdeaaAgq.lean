/- The law AgendaOrder. -/
import Derived.Test.YtlafeijkpnpdeaaAgo
import Derived.Test.YtlafeijkpnpdeaaBoo
namespace Go.Proofs.Ytlafeijkpnpdeaa.Agq
open Go.RowKit Base Kit RefA Alt Held Agp Aga Agb Agc Agd Age Agf Agg Agh Agi Agj Agn Ago Boo
set_option linter.unusedVariables false
set_option linter.unusedSimpArgs false
/-- bytes, as they are read -/
def BytesIn (w : World) (a : Option Addr) (n : Nat) (f : Nat → Int) : Prop :=
  n ≤ 9223372036854775807 ∧ (n = 0 ∨ ∃ b off, a = some ⟨b, off, none⟩ ∧ b < w.heap.size ∧ ∀ i, i < n → w.cell? ⟨b, off + i, none⟩ = some (.int .u8 (f i))) ∧ ∀ i, i < n → 0 ≤ f i ∧ f i ≤ 255
theorem bytes_below {w w1 : World} {B : Nat} {a : Option Addr} {n : Nat} {f : Nat → Int} (h : BytesIn w a n f) (hb : Below B w w1) (hB : w.heap.size ≤ B) : BytesIn w1 a n f := by
  obtain ⟨hn, h1, hf⟩ := h
  refine ⟨hn, ?_, hf⟩
  rcases h1 with h1 | ⟨b, off, e, hlt, hc⟩
  · exact .inl h1
  · exact .inr ⟨b, off, e, Nat.lt_of_lt_of_le hlt (hb.mono hB).size, fun i hi => keep hb (hc i hi) (Nat.lt_of_lt_of_le hlt hB)⟩
theorem bytes_at {w : World} {a : Option Addr} {n : Nat} {f : Nat → Int} (h : BytesIn w a n f) (k : Nat) (hk : k < n) : ∃ b off, a = some ⟨b, off, none⟩ ∧ w.cell? ⟨b, off + k, none⟩ = some (.int .u8 (f k)) ∧ 0 ≤ f k ∧ f k ≤ 255 := by
  rcases h.2.1 with h1 | ⟨b, off, e, h1, h2⟩
  · omega
  · exact ⟨b, off, e, h2 k hk, h.2.2 k hk⟩
theorem brow_out {f g : Nat → Bool} {n : Nat} (h : ∀ j, j < n → f j = g j) : brow f n = brow g n := by
  unfold brow
  exact List.map_congr_left fun j hj => by rw [h j (by simpa using hj)]
/-- an agenda, and what is gone -/
structure Od (w0 w : World) (B ab : Nat) (v : Value) (S : List E) (last : Int) (gb : Nat) (G : Nat → Bool) : Prop where
  bel : Below B w0 w
  hB : B = w0.heap.size
  A : Hid (Wk B w ab v S last 100)
  G : w.ownsRow B 4 1 (.slice (some ⟨gb, 0, none⟩) 101 101) 101 (brow G 101)
theorem od_sz {w0 w : World} {B ab : Nat} {v : Value} {S : List E} {last : Int} {gb : Nat} {G : Nat → Bool} (h : Hid (Od w0 w B ab v S last gb G)) : B ≤ w.heap.size := by
  have := h.out.bel.size; have := h.out.hB; omega
theorem own_own {w : World} {b1 b2 n1 n2 s1 s2 : Nat} {e1 e2 : TypeId} {v1 v2 : Value} {x1 x2 : List Value} (h : w.ownsRow b1 e1 s1 v1 n1 x1) (k : w.ownsRow b2 e2 s2 v2 n2 x2) (hne : e1 ≠ e2) {g : Nat} (hg : v1.ownBlock = some g) : v2.ownBlock ≠ some g := fun hg2 => by
  rcases k.2 with ⟨k1, _⟩ | ⟨g', cap, cur, k1, _, hh, _⟩
  · rw [k1] at hg2; cases hg2
  · rw [k1] at hg2
    simp only [Value.ownBlock, Option.some.injEq] at hg2
    subst hg2
    exact own_neR h (show Box w g' cur e2 from hh) hne hg
theorem od_next {w0 w w1 : World} {B ab : Nat} {v : Value} {S : List E} {last : Int} {gb : Nat} {G : Nat → Bool} (h : Hid (Od w0 w B ab v S last gb G)) (k : Below w.heap.size w w1) : Hid (Od w0 w1 B ab v S last gb G) :=
  Lib.hid ⟨h.out.bel.trans (k.mono (od_sz h)), h.out.hB, wk_next h.out.A k, own_below h.out.G k⟩
theorem od_mov {w0 w w1 : World} {B ab : Nat} {v v1 : Value} {S S1 : List E} {last last1 : Int} {gb : Nat} {G : Nat → Bool} (h : Hid (Od w0 w B ab v S last gb G)) (m : Mov ab v v1 w w1) (k : Hid (Wk B w1 ab v1 S1 last1 100)) : Hid (Od w0 w1 B ab v1 S1 last1 gb G) := by
  obtain ⟨L, x, i⟩ := h.out.A.out.ag
  refine Lib.hid ⟨wk_bel h.out.A h.out.bel (od_sz h) m, h.out.hB, k, own_altv h.out.G m.alt (fun g hg z => ?_)⟩
  rcases z with z | z
  · rw [z] at hg; exact own_neR h.out.G x.out.box (by decide) hg
  · exact own_own x.out.own h.out.G (by decide) z hg
theorem od_set {w0 w : World} {B ab : Nat} {v : Value} {S : List E} {last : Int} {gb : Nat} {G : Nat → Bool} (h : Hid (Od w0 w B ab v S last gb G)) (i : Nat) : Hid (Od w0 (w.setCell ⟨gb, i, none⟩ (.bool true)) B ab v S last gb (upd G i)) := by
  obtain ⟨L, x, iv⟩ := h.out.A.out.ag
  have hb := (own_lo h.out.G (g := gb) rfl).1
  have A : Alt (fun k => k = gb) w (w.setCell ⟨gb, i, none⟩ (.bool true)) := Alt.set _ _ _ rfl
  have n1 : ab ≠ gb := fun z => own_neR h.out.G x.out.box (by decide) (by rw [z]; rfl)
  have n2 : ∀ g, v.ownBlock = some g → g ≠ gb := fun g hg z => own_own x.out.own h.out.G (by decide) hg (by rw [z]; rfl)
  have O := (h.out.G.stored i (.bool true)).1
  rw [brow_set] at O
  exact Lib.hid ⟨A.below h.out.bel (od_sz h) (fun i hi => by rw [hi]; exact hb), h.out.hB, Lib.hid ⟨⟨L, Lib.hid ⟨box_alt x.out.box A n1, own_altv x.out.own A (fun g hg z => n2 g hg z), x.out.len⟩, iv⟩, h.out.A.out.lo, by simpa [World.setCell] using h.out.A.out.lt.1, fun g hg => by simpa [World.setCell] using h.out.A.out.lt.2 g hg⟩, O⟩
theorem od_cell {w0 w : World} {B ab : Nat} {v : Value} {S : List E} {last : Int} {gb : Nat} {G : Nat → Bool} (h : Hid (Od w0 w B ab v S last gb G)) (i : Nat) (hi : i < 101) : w.cell? ⟨gb, i, none⟩ = some (.bool (G i)) := by
  rw [h.out.G.cellAt i (by omega), brow_get _ _ _ hi]
theorem od_frz {w0 w : World} {B ab : Nat} {v : Value} {S : List E} {last : Int} {gb : Nat} {G : Nat → Bool} (h : Hid (Od w0 w B ab v S last gb G)) (i : Nat) : w.frozen? ⟨gb, i, none⟩ = false := h.out.G.frozenAt i
theorem od_up {w0 w : World} {B ab : Nat} {v : Value} {S : List E} {last : Int} {gb : Nat} {G : Nat → Bool} (h : Hid (Od w0 w B ab v S last gb G)) (i : Nat) (hi : 101 ≤ i) : Hid (Od w0 w B ab v S last gb (upd G i)) :=
  Lib.hid ⟨h.out.bel, h.out.hB, h.out.A, by rw [brow_out (g := G) (fun j hj => by unfold upd; rw [if_neg (by omega)])]; exact h.out.G⟩
theorem DropW {B : Nat} {ab : Nat} {v : Value} {S : List E} {last most : Int} (id : Int) {w : World} (h : Hid (Wk B w ab v S last most)) (hB : B ≤ w.heap.size) : Calls Try.prog 16 #[.pointer (some ⟨ab, 0, none⟩), .int .i64 id] w fun e w' => e = .returned (.bool (has id S)) ∧ ∃ v', Hid (Wk B w' ab v' (del id S) last most) ∧ Mov ab v v' w w' := by
  obtain ⟨L, a, i⟩ := h.out.ag
  exact (Drop_any ab v L S last most id w a i).mono fun e w' ⟨h1, v', L', h2, h3, h4⟩ => ⟨h1, v', wk_mov h hB h4 h2 h3, h4⟩
/-- an agenda, and a slice of what came -/
structure Oe (w0 w : World) (B ab : Nat) (v : Value) (S1 : List E) (last : Int) (gb : Nat) (G : Nat → Bool) (b2 : Nat) (u : Value) (S : List E) : Prop where
  O : Hid (Od w0 w B ab v S1 last gb G)
  r : w.ownsRow b2 33 3 u S.length (encE S)
  nb : u.ownBlock ≠ some gb
theorem oe_next {w0 w w1 : World} {B ab : Nat} {v : Value} {S1 : List E} {last : Int} {gb : Nat} {G : Nat → Bool} {b2 : Nat} {u : Value} {S : List E} (h : Hid (Oe w0 w B ab v S1 last gb G b2 u S)) (k : Below w.heap.size w w1) : Hid (Oe w0 w1 B ab v S1 last gb G b2 u S) := Lib.hid ⟨od_next h.out.O k, own_below h.out.r k, h.out.nb⟩
theorem oe_set {w0 w : World} {B ab : Nat} {v : Value} {S1 : List E} {last : Int} {gb : Nat} {G : Nat → Bool} {b2 : Nat} {u : Value} {S : List E} (h : Hid (Oe w0 w B ab v S1 last gb G b2 u S)) (i : Nat) : Hid (Oe w0 (w.setCell ⟨gb, i, none⟩ (.bool true)) B ab v S1 last gb (upd G i) b2 u S) :=
  Lib.hid ⟨od_set h.out.O i, own_altv h.out.r (Alt.set (S := fun k => k = gb) _ _ _ rfl) (fun g hg z => h.out.nb (by rw [hg, z])), h.out.nb⟩
end Go.Proofs.Ytlafeijkpnpdeaa.Agq

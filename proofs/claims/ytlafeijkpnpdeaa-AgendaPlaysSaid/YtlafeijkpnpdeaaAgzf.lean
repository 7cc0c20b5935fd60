/- law03: an agenda and the reference's, side by side. -/
import Derived.Test.YtlafeijkpnpdeaaAgu
import Derived.Test.YtlafeijkpnpdeaaAgv
import Derived.Test.YtlafeijkpnpdeaaAgze
import Derived.Test.YtlafeijkpnpdeaaAgzd
namespace Go.Proofs.Ytlafeijkpnpdeaa.Agzf
open Go.RowKit Go.Shelf Base Kit RefA Alt Held Agp Aga Agb Agc Agd Age Agf Agg Agh Agi Agj Agn Agt Agu Agv Agw Agze
set_option linter.unusedVariables false
set_option linter.unusedSimpArgs false
theorem own_own {w : World} {b1 b2 n1 n2 s1 s2 : Nat} {e1 e2 : TypeId} {u v : Value} {xs ys : List Value} (h : w.ownsRow b1 e1 s1 u n1 xs) (k : w.ownsRow b2 e2 s2 v n2 ys) (hne : e1 ≠ e2) (g : Nat) (hu : u.ownBlock = some g) : v.ownBlock ≠ some g := by
  intro hv
  rcases h.2 with ⟨h1, _⟩ | ⟨g1, c1, d1, h1, _, hh1, _⟩
  · rw [h1] at hu; cases hu
  · rcases k.2 with ⟨k1, _⟩ | ⟨g2, c2, d2, k1, _, hh2, _⟩
    · rw [k1] at hv; cases hv
    · rw [h1] at hu
      rw [k1] at hv
      simp only [Value.ownBlock, Option.some.injEq] at hu hv
      subst hu
      subst hv
      rw [hh1] at hh2
      simp at hh2
      exact hne hh2.2
/-- an agenda and the reference's -/
structure Pl (w0 w : World) (ab rb : Nat) (S : List E) (l : Int) (T : List E) (m most : Int) : Prop where
  bel : Below w0.heap.size w0 w
  wk : ∃ v, Hid (Wk w0.heap.size w ab v S l most)
  rf : ∃ u, Hid (Rf w rb u T m most)
  lo : w0.heap.size ≤ rb
theorem pl_next {w0 w w1 : World} {ab rb : Nat} {S T : List E} {l m most : Int} (h : Hid (Pl w0 w ab rb S l T m most)) (k : Below w.heap.size w w1) : Hid (Pl w0 w1 ab rb S l T m most) := by
  obtain ⟨v, hv⟩ := h.out.wk
  obtain ⟨u, hu⟩ := h.out.rf
  exact Lib.hid ⟨below_next h.out.bel k, ⟨v, wk_next hv k⟩, ⟨u, rf_next hu k⟩, h.out.lo⟩
theorem pl_a {w0 w w1 : World} {ab rb : Nat} {S T S' : List E} {l m l' most : Int} {v v' : Value} (h : Hid (Pl w0 w ab rb S l T m most)) (k : Hid (Wk w0.heap.size w ab v S l most)) (k' : Hid (Wk w0.heap.size w1 ab v' S' l' most)) (o : Mov ab v v' w w1) : Hid (Pl w0 w1 ab rb S' l' T m most) := by
  obtain ⟨u, hu⟩ := h.out.rf
  obtain ⟨L, a, i⟩ := k.out.ag
  refine Lib.hid ⟨wk_bel k h.out.bel h.out.bel.size o, ⟨v', k'⟩, ⟨u, rf_alt hu o.alt ?_ (fun g hg => ?_)⟩, h.out.lo⟩
  · rintro (z | z)
    · exact box_ne hu.out.box a.out.box (by decide) z
    · exact own_neR a.out.own hu.out.box (by decide) z
  · rintro (z | z)
    · subst z; exact own_neR hu.out.own a.out.box (by decide) hg
    · exact own_own a.out.own hu.out.own (by decide) g z hg
theorem pl_r {w0 w w1 : World} {ab rb : Nat} {S T T' : List E} {l m m' most : Int} {u' : Value} (h : Hid (Pl w0 w ab rb S l T m most)) (k' : Hid (Rf w1 rb u' T' m' most)) (o : Rov rb u' w w1) : Hid (Pl w0 w1 ab rb S l T' m' most) := by
  obtain ⟨v, hv⟩ := h.out.wk
  obtain ⟨u, hu⟩ := h.out.rf
  obtain ⟨L, a, i⟩ := hv.out.ag
  have b2 : Box w1 ab _ _ := box_alt a.out.box o.alt (fun z => box_ne hu.out.box a.out.box (by decide) z.symm)
  have o2 := own_altv a.out.own o.alt (fun g hg z => own_neR a.out.own hu.out.box (by decide) (by rw [hg, z]))
  exact Lib.hid ⟨Alt.below h.out.bel o.alt h.out.bel.size (fun i hi => by rw [hi]; exact h.out.lo), ⟨v, Lib.hid ⟨⟨L, Lib.hid ⟨b2, o2, a.out.len⟩, i⟩, hv.out.lo, b2.lt, fun g hg => (own_lo o2 hg).2⟩⟩, ⟨u', k'⟩, h.out.lo⟩
/-- what stays of a box that is neither's -/
structure Xb (w : World) (xb : Nat) (x0 x1 x2 : Int) : Prop where
  box : Box w xb #[.int .i64 x0, .int .i64 x1, .int .i64 x2] 42
variable {w0 w : World} {ab rb xb : Nat} {S T : List E} {l m most x0 x1 x2 : Int}
theorem xb_a {w1 : World} {v v' : Value} {S' : List E} (X : Hid (Xb w xb x0 x1 x2)) (k : Hid (Wk w0.heap.size w ab v S l most)) (o : Mov ab v v' w w1) : Hid (Xb w1 xb x0 x1 x2) := by
  obtain ⟨L, a, i⟩ := k.out.ag
  refine Lib.hid ⟨box_alt X.out.box o.alt ?_⟩
  rintro (z | z)
  · exact box_ne X.out.box a.out.box (by decide) z
  · exact own_neR a.out.own X.out.box (by decide) z
theorem xb_r {w1 : World} {u' u : Value} (X : Hid (Xb w xb x0 x1 x2)) (hu : Hid (Rf w rb u T m most)) (o : Rov rb u' w w1) : Hid (Xb w1 xb x0 x1 x2) :=
  Lib.hid ⟨box_alt X.out.box o.alt (fun z => box_ne X.out.box hu.out.box (by decide) z)⟩
theorem AddP (at1 what : Int) (h : Hid (Pl w0 w ab rb S l T m most)) (X : Hid (Xb w xb x0 x1 x2)) (hm : (S.length : Int) < most) (hm2 : most ≤ 1000) (l0 : 0 ≤ l) (l1 : l ≤ 1000000) : Calls Try.prog 8 #[.pointer (some ⟨ab, 0, none⟩), .int .i64 at1, .int .i64 what] w fun e w' => e = .returned (.tuple #[.int .i64 (l + 1), .int .i64 0]) ∧ Hid (Pl w0 w' ab rb (ins (at1, l + 1, what) S) (l + 1) T m most) ∧ Hid (Xb w' xb x0 x1 x2) := by
  obtain ⟨v, hv⟩ := h.out.wk
  exact (AddW at1 what hv h.out.bel.size hm hm2 l0 l1).mono fun e w' ⟨h1, v', h2, h3⟩ => ⟨h1, pl_a h hv h2 h3, xb_a (S' := []) X hv h3⟩
theorem AddF (at1 what : Int) (h : Hid (Pl w0 w ab rb S l T m most)) (X : Hid (Xb w xb x0 x1 x2)) (hm : most ≤ (S.length : Int)) : Calls Try.prog 8 #[.pointer (some ⟨ab, 0, none⟩), .int .i64 at1, .int .i64 what] w fun e w' => e = .returned (.tuple #[.int .i64 0, .int .i64 5]) ∧ Hid (Pl w0 w' ab rb S l T m most) ∧ Hid (Xb w' xb x0 x1 x2) := by
  obtain ⟨v, hv⟩ := h.out.wk
  obtain ⟨L, a, i⟩ := hv.out.ag
  exact (Add_full ab v L l most at1 what w a (by rw [inv_len i]; exact hm)).mono fun e w' ⟨h1, h2⟩ => ⟨h1, pl_next h h2, Lib.hid ⟨X.out.box.next h2⟩⟩
theorem RAddP (at1 what : Int) (h : Hid (Pl w0 w ab rb S l T m most)) (X : Hid (Xb w xb x0 x1 x2)) (hm : (T.length : Int) < most) (hm2 : most ≤ 1000) (l0 : 0 ≤ m) (l1 : m ≤ 1000000) : Calls Try.prog 22 #[.pointer (some ⟨rb, 0, none⟩), .int .i64 at1, .int .i64 what] w fun e w' => e = .returned (.tuple #[.int .i64 (m + 1), .int .i64 0]) ∧ Hid (Pl w0 w' ab rb S l (ins (at1, m + 1, what) T) (m + 1) most) ∧ Hid (Xb w' xb x0 x1 x2) := by
  obtain ⟨u, hu⟩ := h.out.rf
  exact (RAdd_any rb u T m most at1 what w hu hm hm2 l0 l1).mono fun e w' ⟨h1, v', h2, h3⟩ => ⟨h1, pl_r h h2 h3, xb_r X hu h3⟩
theorem RAddF (at1 what : Int) (h : Hid (Pl w0 w ab rb S l T m most)) (X : Hid (Xb w xb x0 x1 x2)) (hm : most ≤ (T.length : Int)) : Calls Try.prog 22 #[.pointer (some ⟨rb, 0, none⟩), .int .i64 at1, .int .i64 what] w fun e w' => e = .returned (.tuple #[.int .i64 0, .int .i64 5]) ∧ Hid (Pl w0 w' ab rb S l T m most) ∧ Hid (Xb w' xb x0 x1 x2) := by
  obtain ⟨u, hu⟩ := h.out.rf
  exact (RAdd_full rb u T m most at1 what w hu hm).mono fun e w' ⟨h1, h2⟩ => ⟨h1, pl_next h h2, Lib.hid ⟨X.out.box.next h2⟩⟩
theorem DropP (id : Int) (h : Hid (Pl w0 w ab rb S l T m most)) (X : Hid (Xb w xb x0 x1 x2)) : Calls Try.prog 16 #[.pointer (some ⟨ab, 0, none⟩), .int .i64 id] w fun e w' => e = .returned (.bool (has id S)) ∧ Hid (Pl w0 w' ab rb (del id S) l T m most) ∧ Hid (Xb w' xb x0 x1 x2) := by
  obtain ⟨v, hv⟩ := h.out.wk
  obtain ⟨L, a, i⟩ := hv.out.ag
  exact (Drop_any ab v L S l most id w a i).mono fun e w' ⟨h1, v', L', h2, h3, h4⟩ => ⟨h1, pl_a h hv (wk_mov hv h.out.bel.size h4 h2 h3) h4, xb_a (S' := []) X hv h4⟩
theorem RDropP (id : Int) (h : Hid (Pl w0 w ab rb S l T m most)) (X : Hid (Xb w xb x0 x1 x2)) : Calls Try.prog 23 #[.pointer (some ⟨rb, 0, none⟩), .int .i64 id] w fun e w' => e = .returned (.bool (has id T)) ∧ Hid (Pl w0 w' ab rb S l (del id T) m most) ∧ Hid (Xb w' xb x0 x1 x2) := by
  obtain ⟨u, hu⟩ := h.out.rf
  exact (RDrop_any rb u T m most id w hu).mono fun e w' ⟨h1, v', h2, h3⟩ => ⟨h1, pl_r h h2 h3, xb_r X hu h3⟩
theorem DueP (now : Int) (h : Hid (Pl w0 w ab rb S l T m most)) (X : Hid (Xb w xb x0 x1 x2)) : Calls Try.prog 10 #[.pointer (some ⟨ab, 0, none⟩), .int .i64 now] w fun e w' => ∃ u, e = .returned u ∧ Hid (Pl w0 w' ab rb (rstS now S) l T m most) ∧ Hid (Xb w' xb x0 x1 x2) ∧ Hid (w'.ownsRow w.heap.size 33 3 u (dueS now S).length (encE (dueS now S))) := by
  obtain ⟨v, hv⟩ := h.out.wk
  exact (DueW now hv h.out.bel.size).mono fun e w' ⟨u, v', h1, h2, h3, h4, h5⟩ => ⟨u, h1, pl_a h hv h2 h3, xb_a (S' := []) X hv h3, Lib.hid h5⟩
theorem RDueP (now : Int) (h : Hid (Pl w0 w ab rb S l T m most)) (X : Hid (Xb w xb x0 x1 x2)) {B : Nat} {u : Value} {M : List E} (R : Hid (w.ownsRow B 33 3 u M.length (encE M))) : Calls Try.prog 24 #[.pointer (some ⟨rb, 0, none⟩), .int .i64 now] w fun e w' => ∃ x, e = .returned x ∧ Hid (Pl w0 w' ab rb S l (rstS now T) m most) ∧ Hid (Xb w' xb x0 x1 x2) ∧ Hid (w'.ownsRow w.heap.size 45 3 x (dueS now T).length (encE (dueS now T))) ∧ Hid (w'.ownsRow B 33 3 u M.length (encE M)) := by
  obtain ⟨u2, hu⟩ := h.out.rf
  exact (RDue_any rb u2 T m most now w hu).mono fun e w' ⟨x, u', h1, h2, h3, h4⟩ => ⟨x, h1, pl_r h h3 h4, xb_r X hu h4, Lib.hid h2, Lib.hid (own_altv R.out h4.alt (fun g hg z => own_neR R.out hu.out.box (by decide) (by rw [hg, z])))⟩
end Go.Proofs.Ytlafeijkpnpdeaa.Agzf

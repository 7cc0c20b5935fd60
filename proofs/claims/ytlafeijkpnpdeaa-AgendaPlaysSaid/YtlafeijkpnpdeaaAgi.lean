/- Agenda: contracts over lists in order; All; works. -/
import Derived.Test.YtlafeijkpnpdeaaAgh
namespace Go.Proofs.Ytlafeijkpnpdeaa.Agi
open Go.RowKit Base Kit Alt Held Agp Aga Agb Agc Agd Age Agf Agg Agh
set_option linter.unusedVariables false
set_option linter.unusedSimpArgs false
/-- an agenda of entries in order, that was made behind an entry -/
structure Wk (B : Nat) (w : World) (ab : Nat) (v : Value) (S : List E) (last most : Int) : Prop where
  ag : ∃ L, Hid (Ag w ab v L last most) ∧ Inv L S last
  lo : B ≤ ab ∧ ∀ g, v.ownBlock = some g → B ≤ g
  lt : ab < w.heap.size ∧ ∀ g, v.ownBlock = some g → g < w.heap.size
theorem wk_next {B : Nat} {w w1 : World} {ab : Nat} {v : Value} {S : List E} {last most : Int} (h : Hid (Wk B w ab v S last most)) (k : Below w.heap.size w w1) : Hid (Wk B w1 ab v S last most) := by
  obtain ⟨L, a, i⟩ := h.out.ag
  exact Lib.hid ⟨⟨L, ag_next a k, i⟩, h.out.lo, Nat.lt_of_lt_of_le h.out.lt.1 k.size, fun g hg => Nat.lt_of_lt_of_le (h.out.lt.2 g hg) k.size⟩
theorem wk_len {B : Nat} {w : World} {ab : Nat} {v : Value} {S : List E} {last most : Int} (h : Hid (Wk B w ab v S last most)) : S.length ≤ 1000 := by
  obtain ⟨L, a, i⟩ := h.out.ag
  have := a.out.len
  have := inv_len i
  omega
/-- behind a call on it -/
theorem wk_mov {B : Nat} {w w1 : World} {ab : Nat} {v v1 : Value} {S S1 L1 : List E} {last last1 most : Int} (h : Hid (Wk B w ab v S last most)) (hB : B ≤ w.heap.size) (m : Mov ab v v1 w w1) (a : Hid (Ag w1 ab v1 L1 last1 most)) (i : Inv L1 S1 last1) : Hid (Wk B w1 ab v1 S1 last1 most) :=
  Lib.hid ⟨⟨L1, a, i⟩, ⟨h.out.lo.1, fun g hg => by rcases m.new g hg with z | z; exact h.out.lo.2 g z; omega⟩, a.out.box.lt, fun g hg => (own_lo a.out.own hg).2⟩
theorem wk_bel {B : Nat} {w0 w w1 : World} {ab : Nat} {v v1 : Value} {S : List E} {last most : Int} (h : Hid (Wk B w ab v S last most)) (b : Below B w0 w) (hB : B ≤ w.heap.size) (m : Mov ab v v1 w w1) : Below B w0 w1 :=
  m.alt.below b hB (fun i hi => by
    rcases hi with hi | hi
    · rw [hi]; exact h.out.lo.1
    · exact h.out.lo.2 i hi)
/-- another agenda -/
theorem wk_other {B : Nat} {w w1 : World} {a1 a2 : Nat} {v1 v2 v3 : Value} {S1 S2 : List E} {l1 l2 m1 m2 : Int} (h : Hid (Wk B w a1 v1 S1 l1 m1)) (k : Hid (Wk B w a2 v2 S2 l2 m2)) (hab : a1 ≠ a2) (hv : ∀ g, v1.ownBlock = some g → v2.ownBlock ≠ some g) (m : Mov a1 v1 v3 w w1) : Hid (Wk B w1 a2 v2 S2 l2 m2) ∧ (∀ g, v3.ownBlock = some g → v2.ownBlock ≠ some g) := by
  obtain ⟨L1, x1, i1⟩ := h.out.ag
  obtain ⟨L2, x2, i2⟩ := k.out.ag
  have n1 : v1.ownBlock ≠ some a2 := own_neR x1.out.own x2.out.box (by decide)
  have n2 : v2.ownBlock ≠ some a1 := own_neR x2.out.own x1.out.box (by decide)
  have b2 : Box w1 a2 _ _ := box_alt x2.out.box m.alt (fun z => by rcases z with z | z; exact hab z.symm; exact n1 z)
  have o2 := own_altv x2.out.own m.alt (fun g hg z => by
    rcases z with z | z
    · rw [z] at hg; exact n2 hg
    · exact hv g z hg)
  refine ⟨Lib.hid ⟨⟨L2, Lib.hid ⟨b2, o2, x2.out.len⟩, i2⟩, k.out.lo, b2.lt, fun g hg => (own_lo o2 hg).2⟩, fun g hg => ?_⟩
  rcases m.new g hg with z | z
  · exact hv g z
  · intro z2; have := k.out.lt.2 g z2; omega
/-- a row of entries behind a call on an agenda -/
theorem row_mov {B B2 n : Nat} {w w1 : World} {ab : Nat} {v v1 u : Value} {S : List E} {last most : Int} {xs : List Value} (h : Hid (Wk B w ab v S last most)) (o : w.ownsRow B2 33 3 u n xs) (hd : ∀ g, v.ownBlock = some g → u.ownBlock ≠ some g) (m : Mov ab v v1 w w1) : w1.ownsRow B2 33 3 u n xs ∧ (∀ g, v1.ownBlock = some g → u.ownBlock ≠ some g) := by
  obtain ⟨L, x, i⟩ := h.out.ag
  have n2 : u.ownBlock ≠ some ab := own_neR o x.out.box (by decide)
  refine ⟨own_altv o m.alt (fun g hg z => ?_), fun g hg => ?_⟩
  · rcases z with z | z
    · rw [z] at hg; exact n2 hg
    · exact hd g z hg
  · rcases m.new g hg with z | z
    · exact hd g z
    · intro z2; have := (own_lo o z2).2; omega
theorem NewW (mst : Int) (w : World) (B : Nat) (hB : B ≤ w.heap.size) : Calls Try.prog 7 #[.int .i64 mst] w fun e w' => e = .returned (.pointer (some ⟨w.heap.size, 0, none⟩)) ∧ Hid (Wk B w' w.heap.size (.slice none 0 0) [] 0 mst) ∧ Below w.heap.size w w' := by
  refine (New_any mst w).mono fun e w' ⟨h1, h2, h3⟩ => ⟨h1, Lib.hid ⟨⟨[], h2, inv_nil 0⟩, ⟨hB, fun g hg => by cases hg⟩, h2.out.box.lt, fun g hg => by cases hg⟩, h3⟩
theorem AddW {B : Nat} {ab : Nat} {v : Value} {S : List E} {last most : Int} (at1 what : Int) {w : World} (h : Hid (Wk B w ab v S last most)) (hB : B ≤ w.heap.size) (hm : (S.length : Int) < most) (hm2 : most ≤ 1000) (l0 : 0 ≤ last) (l1 : last ≤ 1000000) : Calls Try.prog 8 #[.pointer (some ⟨ab, 0, none⟩), .int .i64 at1, .int .i64 what] w fun e w' => e = .returned (.tuple #[.int .i64 (last + 1), .int .i64 0]) ∧ ∃ v', Hid (Wk B w' ab v' (ins (at1, last + 1, what) S) (last + 1) most) ∧ Mov ab v v' w w' := by
  obtain ⟨L, a, i⟩ := h.out.ag
  refine (Add_any ab v L last most at1 what w a (by rw [inv_len i]; exact hm) hm2 l0 l1).mono fun e w' ⟨h1, v', h2, h3⟩ => ⟨h1, v', wk_mov h hB h3 h2 (inv_add i l0 _ rfl), h3⟩
theorem DueW {B : Nat} {ab : Nat} {v : Value} {S : List E} {last most : Int} (now : Int) {w : World} (h : Hid (Wk B w ab v S last most)) (hB : B ≤ w.heap.size) : Calls Try.prog 10 #[.pointer (some ⟨ab, 0, none⟩), .int .i64 now] w fun e w' => ∃ u v', e = .returned u ∧ Hid (Wk B w' ab v' (rstS now S) last most) ∧ Mov ab v v' w w' ∧ v'.ownBlock = v.ownBlock ∧ w'.ownsRow w.heap.size 33 3 u (dueS now S).length (encE (dueS now S)) := by
  obtain ⟨L, a, i⟩ := h.out.ag
  exact (Due_any ab v L S last most now w a i).mono fun e w' ⟨u, v', L', h1, h2, h3, h4, h5, h6⟩ => ⟨u, v', h1, wk_mov h hB h4 h2 h3, h4, h5, h6⟩
theorem LenW {B : Nat} {ab : Nat} {v : Value} {S : List E} {last most : Int} {w : World} (h : Hid (Wk B w ab v S last most)) : Calls Try.prog 11 #[.pointer (some ⟨ab, 0, none⟩)] w fun e w' => e = .returned (.int .i64 (S.length : Int)) ∧ w = w' := by
  obtain ⟨L, a, i⟩ := h.out.ag
  have := Len_any ab v L last most w a
  rw [inv_len i] at this
  exact this
theorem All_any (a : Option Addr) (w : World) : Calls Try.prog 20 #[.pointer a] w fun e w' => e = .returned (.func (.func 27) #[] #[.pointer (some ⟨w.heap.size, 0, none⟩)]) ∧ w' = w.alloc (.cells #[.pointer a] 23) := by
  go_enter Try.func20, Try.ntmps20
  go_wp2_with fail
  go_ret
  exact ⟨rfl, rfl⟩
theorem row_at {w : World} {B n : Nat} {u : Value} {M : List E} (h : w.ownsRow B 33 3 u n (encE M)) (hn : M.length = n) (i : Nat) (hi : i < n) {x0 x1 x2 : Int} (e : Hid (at_ M i = (x0, x1, x2))) : ∃ g cap, u = .slice (some ⟨g, 0, none⟩) n cap ∧ g < w.heap.size ∧ EC w g i x0 x1 x2 := by
  obtain ⟨g, cap, rfl, _, hlt⟩ := own_form h (fun e => by
    have h1 := h.2
    rw [e] at h1
    rcases h1 with ⟨_, h2⟩ | ⟨g, cap, cur, hv, _⟩
    · omega
    · simp at hv)
  obtain ⟨a, b, c⟩ := enc_at M i (by omega)
  rw [e.out] at a b c
  refine ⟨g, cap, rfl, hlt, ?_⟩
  unfold EC
  rw [World.ownsRow.cellAt h (i * 3) (by omega), World.ownsRow.cellAt h (i * 3 + 1) (by omega), World.ownsRow.cellAt h (i * 3 + 2) (by omega)]
  exact ⟨a, b, c⟩
theorem fne (f : Fn) (a c : Array Value) (w : World) : (binOp .neq 58 (.func f a c) .nilFunc).run Try.prog w = .ok (.bool true) w := by kernel_rfl
theorem feq (f : Fn) (a c : Array Value) (w : World) : (binOp .eql 58 (.func f a c) .nilFunc).run Try.prog w = .ok (.bool false) w := by kernel_rfl
attribute [local go_sem] fne feq
theorem wS1 : ins (3, 0 + 1 + 1, 30) (ins (5, 0 + 1, 50) []) = [(3, 2, 30), (5, 1, 50)] := by decide
theorem wS2 : dueS 4 [(3, 2, 30), (5, 1, 50)] = [(3, 2, 30)] := by decide
theorem wS3 : rstS 4 [(3, 2, 30), (5, 1, 50)] = [(5, 1, 50)] := by decide
set_option maxRecDepth 100000 in
set_option maxHeartbeats 2000000 in
theorem works_any (w : World) : Calls Try.prog 9 #[] w fun e w' => e = .returned (.bool true) ∧ Below w.heap.size w w' := by
  go_enter Try.func9, Try.ntmps9
  go_wp2_with fail
  obtain ⟨B, hBe⟩ : ∃ B, B = w.heap.size := ⟨_, rfl⟩
  refine (NewW 5 w B (by omega)).mono ?_
  rintro e w1 ⟨rfl, S, k⟩
  rw [← hBe] at k
  have K := Lib.hid k
  have hB : Hid (B ≤ w1.heap.size) := Lib.hid (by have := k.size; omega)
  replace hBe := Lib.hid hBe
  clear k
  generalize w.heap.size = ab at S ⊢
  go_wp2_with fail
  refine (AddW 5 50 S hB.out (by decide) (by decide) (by decide) (by decide)).mono ?_
  rintro e w2 ⟨rfl, v2, S2, M⟩
  replace K := Lib.hid (wk_bel S K.out hB.out M)
  replace hB := Lib.hid (Nat.le_trans hB.out M.alt.size)
  clear S M
  go_wp2_with fail
  refine (AddW 3 30 S2 hB.out (by decide) (by decide) (by decide) (by decide)).mono ?_
  rintro e w3 ⟨rfl, v3, S3, M⟩
  replace K := Lib.hid (wk_bel S2 K.out hB.out M)
  replace hB := Lib.hid (Nat.le_trans hB.out M.alt.size)
  rw [wS1] at S3
  clear S2 M
  go_wp2_with fail
  refine (DueW 4 S3 hB.out).mono ?_
  rintro e w4 ⟨u, v4, rfl, S4, M, -, O⟩
  replace K := Lib.hid (wk_bel S3 K.out hB.out M)
  rw [wS3] at S4
  rw [wS2] at O
  have CL := Lib.hid (LenW S4)
  obtain ⟨g, cap, rfl, hlt, c0, c1, c2⟩ := row_at O rfl 0 (by decide) (x0 := 3) (x1 := 2) (x2 := 30) (Lib.hid rfl)
  clear S3 S4 M O hB
  go_wp2_with fail
  refine CL.out.mono ?_
  rintro e w5 ⟨rfl, e9⟩
  cases e9
  go_wp2_with fail
  refine (All_any _ _).mono ?_
  rintro e w5 ⟨rfl, rfl⟩
  go_wp2_with fail
  go_ret
  have K2 := K.out
  rw [hBe.out] at K2
  exact ⟨rfl, below_next K2 ((Below.refl _ _).alloc (Nat.le_refl _) _)⟩
end Go.Proofs.Ytlafeijkpnpdeaa.Agi

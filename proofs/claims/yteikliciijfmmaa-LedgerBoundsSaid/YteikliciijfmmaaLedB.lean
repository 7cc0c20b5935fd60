/- Walks of package ledger: Used, Out, Piece, Spend, Refill, All. -/
import Derived.Test.YteikliciijfmmaaLedA
namespace Go.Proofs.Yteikliciijfmmaa.LedB
open Go.RowKit Base Kit WideA WideB Plain FitA FitB FitC Conf Alt RefA LedA
set_option linter.unusedVariables false
set_option linter.unusedSimpArgs false

/-- a ledger, since a world -/
structure Ls (w0 w : World) (W : PowC) (q : Int) (bud : Nat → Int) (n : Nat) (l : Nat) (v : Value) (a : Nat → Nat) (cy : Nat → Int) : Prop where
  bel : Below w0.heap.size w0 w
  hl : w0.heap.size ≤ l
  ha : ∀ i, i < n → w0.heap.size ≤ a i
  hv : ∀ g, v.ownBlock = some g → w0.heap.size ≤ g
  lm : Hid (Lm W q bud n w l v a cy)
  lev : Hid (Open.RowsIn w0 W.la W.ln 2 W.lf)
  cyb : ∀ i, i < n → 0 ≤ cy i ∧ cy i ≤ 1099511627776
  hn : n ≤ 100
  budI : ∀ i, i < n → I64 (bud i)
  qI : I64 q
theorem ls_next {w0 w w1 : World} {W : PowC} {q : Int} {bud : Nat → Int} {n l : Nat} {v : Value} {a : Nat → Nat} {cy : Nat → Int} (h : Hid (Ls w0 w W q bud n l v a cy)) (k : Below w.heap.size w w1) : Hid (Ls w0 w1 W q bud n l v a cy) :=
  Lib.hid ⟨below_next h.out.bel k, h.out.hl, h.out.ha, h.out.hv, Lib.hid (h.out.lm.out.next k), h.out.lev, h.out.cyb, h.out.hn, h.out.budI, h.out.qI⟩
theorem ls_drew {w0 w : World} {W : PowC} {q : Int} {bud : Nat → Int} {n l : Nat} {v : Value} {a : Nat → Nat} {cy : Nat → Int} (h : Hid (Ls w0 w W q bud n l v a cy)) : Hid (Ls w0 w.drew W q bud n l v a cy) := ls_next h ((Below.refl _ _).drew)
theorem ls_lev {w0 w : World} {W : PowC} {q : Int} {bud : Nat → Int} {n l : Nat} {v : Value} {a : Nat → Nat} {cy : Nat → Int} (h : Hid (Ls w0 w W q bud n l v a cy)) : Hid (Open.RowsIn w W.la W.ln 2 W.lf) := Lib.hid (rows_below h.out.lev.out h.out.bel (Nat.le_refl _))
theorem ls_acc {w0 w : World} {W : PowC} {q : Int} {bud : Nat → Int} {n l : Nat} {v : Value} {a : Nat → Nat} {cy : Nat → Int} (h : Hid (Ls w0 w W q bud n l v a cy)) (i : Nat) (hi : i < n) : Hid (Box w (a i) #[.int .i64 (bud i), .int .i64 q, .slice W.la W.ln W.lc, .slice W.na W.nn W.nc, .int .i64 W.sw, .int .i64 W.id, .int .i64 W.ch, .int .i64 W.qu, .int .i64 W.sl, .int .i64 W.pp, .int .i64 (cy i)] 123) := Lib.hid (h.out.lm.out.acc i hi)
theorem ls_cy {w0 w : World} {W : PowC} {q : Int} {bud : Nat → Int} {n l : Nat} {v : Value} {a : Nat → Nat} {cy : Nat → Int} (h : Hid (Ls w0 w W q bud n l v a cy)) (i : Nat) (hi : i < n) : I64 (cy i) := by have := h.out.cyb i hi; exact ⟨by omega, by omega⟩
theorem fnd_in {n : Nat} {a : Nat → Nat} {k : Nat} (h : k < n) : fnd n a (k : Int) = some ⟨a k, 0, none⟩ := by unfold fnd; rw [if_pos ⟨by omega, by omega⟩, Int.toNat_natCast]
theorem fnd_out {n : Nat} {a : Nat → Nat} {p : Int} (h : ¬ (0 ≤ p ∧ p < (n : Int))) : fnd n a p = none := by unfold fnd; rw [if_neg h]

def usedP (W : PowC) (n : Nat) (cy : Nat → Int) (p : Int) : Int := if 0 ≤ p ∧ p < (n : Int) then (cst W (cy p.toNat)).1 else 0
def outP (W : PowC) (bud : Nat → Int) (n : Nat) (cy : Nat → Int) (p : Int) : Bool := if 0 ≤ p ∧ p < (n : Int) then decide (bud p.toNat ≤ (cst W (cy p.toNat)).1) else true
def pieceP (W : PowC) (q : Int) (bud : Nat → Int) (n : Nat) (cy : Nat → Int) (p x : Int) : Int := if outP W bud n cy p = true ∨ x < 1 then 0 else if x < q then x else q
def upd (cy : Nat → Int) (k : Nat) (x : Int) : Nat → Int := fun i => if i = k then x else cy i
def spendP (W : PowC) (n : Nat) (cy : Nat → Int) (p x : Int) : Int × (Nat → Int) :=
  if ¬ (0 ≤ p ∧ p < (n : Int)) ∨ x < 0 then (2, cy) else if 1099511627776 - cy p.toNat < x ∨ (cst W (cy p.toNat + x)).2 ≠ 0 then (6, cy) else (0, upd cy p.toNat (cy p.toNat + x))

section
variable {w0 w : World} {W : PowC} {q : Int} {bud : Nat → Int} {n l : Nat} {v : Value} {a : Nat → Nat} {cy : Nat → Int}
set_option maxRecDepth 100000 in
theorem ls_used (h : Hid (Ls w0 w W q bud n l v a cy)) (p : Int) (u : Int) (hu : Hid (usedP W n cy p = u)) :
    Calls Try.prog 31 #[.pointer (some ⟨l, 0, none⟩), .int .i64 p] w fun e w' => e = .returned (.int .i64 u) ∧ Below w.heap.size w w' := by
  have hu := hu.out
  unfold usedP at hu
  by_cases hp : 0 ≤ p ∧ p < (n : Int)
  · rw [if_pos hp] at hu
    obtain ⟨k, rfl⟩ := Int.eq_ofNat_of_zero_le hp.1
    have hk : k < n := by omega
    rw [Int.toNat_natCast] at hu
    have C1 := Lib.hid (find_any W q bud n w l v a cy k h.out.lm h.out.hn (some ⟨a k, 0, none⟩) (Lib.hid (fnd_in hk)))
    have C2 := Lib.hid (used_any W w (a k) (bud k) q (cy k) u (ls_acc h k hk) (ls_lev h) (ls_cy h k hk) (Lib.hid hu))
    clear hu hp
    go_enter Try.func31, Try.ntmps31
    go_wp2_with fail
    refine C1.out.mono ?_
    rintro e w1 ⟨rfl, rfl⟩
    go_wp2_with fail
    refine C2.out.mono ?_
    rintro e w2 ⟨rfl, hb2⟩
    have HS := Lib.hid hb2
    clear hb2
    go_wp2_with fail
    go_ret
    exact ⟨rfl, HS.out⟩
  · rw [if_neg hp] at hu
    subst hu
    have C1 := Lib.hid (find_any W q bud n w l v a cy p h.out.lm h.out.hn none (Lib.hid (fnd_out hp)))
    clear hp
    go_enter Try.func31, Try.ntmps31
    go_wp2_with fail
    refine C1.out.mono ?_
    rintro e w1 ⟨rfl, rfl⟩
    go_wp2_with fail
    go_ret
    exact ⟨rfl, Below.refl _ _⟩
set_option maxRecDepth 100000 in
theorem ls_out (h : Hid (Ls w0 w W q bud n l v a cy)) (p : Int) (u : Bool) (hu : Hid (outP W bud n cy p = u)) :
    Calls Try.prog 47 #[.pointer (some ⟨l, 0, none⟩), .int .i64 p] w fun e w' => e = .returned (.bool u) ∧ Below w.heap.size w w' := by
  have hu := hu.out
  unfold outP at hu
  by_cases hp : 0 ≤ p ∧ p < (n : Int)
  · rw [if_pos hp] at hu
    obtain ⟨k, rfl⟩ := Int.eq_ofNat_of_zero_le hp.1
    have hk : k < n := by omega
    rw [Int.toNat_natCast] at hu
    have C1 := Lib.hid (find_any W q bud n w l v a cy k h.out.lm h.out.hn (some ⟨a k, 0, none⟩) (Lib.hid (fnd_in hk)))
    have C2 := Lib.hid (out_any W w (a k) (bud k) q (cy k) u (ls_acc h k hk) (ls_lev h) (ls_cy h k hk) (Lib.hid hu))
    clear hu hp
    go_enter Try.func47, Try.ntmps47
    go_wp2_with fail
    refine C1.out.mono ?_
    rintro e w1 ⟨rfl, rfl⟩
    go_wp2_with fail
    refine C2.out.mono ?_
    rintro e w2 ⟨rfl, hb2⟩
    have HS := Lib.hid hb2
    clear hb2
    go_wp2_with fail
    go_ret
    exact ⟨rfl, HS.out⟩
  · rw [if_neg hp] at hu
    subst hu
    have C1 := Lib.hid (find_any W q bud n w l v a cy p h.out.lm h.out.hn none (Lib.hid (fnd_out hp)))
    clear hp
    go_enter Try.func47, Try.ntmps47
    go_wp2_with fail
    refine C1.out.mono ?_
    rintro e w1 ⟨rfl, rfl⟩
    go_wp2_with fail
    go_ret
    exact ⟨rfl, Below.refl _ _⟩
set_option maxRecDepth 100000 in
theorem ls_piece (h : Hid (Ls w0 w W q bud n l v a cy)) (p x : Int) (hx : I64 x) (u : Int) (hu : Hid (pieceP W q bud n cy p x = u)) :
    Calls Try.prog 29 #[.pointer (some ⟨l, 0, none⟩), .int .i64 p, .int .i64 x] w fun e w' => e = .returned (.int .i64 u) ∧ Below w.heap.size w w' := by
  have hu := hu.out
  have hq := h.out.qI
  unfold pieceP outP at hu
  by_cases hp : 0 ≤ p ∧ p < (n : Int)
  · rw [if_pos hp] at hu
    obtain ⟨k, rfl⟩ := Int.eq_ofNat_of_zero_le hp.1
    have hk : k < n := by omega
    rw [Int.toNat_natCast] at hu
    have C1 := Lib.hid (find_any W q bud n w l v a cy k h.out.lm h.out.hn (some ⟨a k, 0, none⟩) (Lib.hid (fnd_in hk)))
    obtain ⟨o, ho⟩ : ∃ o, decide (bud k ≤ (cst W (cy k)).1) = o := ⟨_, rfl⟩
    have C2 := Lib.hid (out_any W w (a k) (bud k) q (cy k) o (ls_acc h k hk) (ls_lev h) (ls_cy h k hk) (Lib.hid ho))
    rw [ho] at hu
    clear ho hp
    by_cases hx1 : x < 1
    · rw [if_pos (.inr hx1)] at hu
      subst hu
      go_enter Try.func29, Try.ntmps29
      go_wp2_with fail
      refine C1.out.mono ?_
      rintro e w1 ⟨rfl, rfl⟩
      go_wp2_with fail
      go_ret
      exact ⟨rfl, Below.refl _ _⟩
    · have hx2 : 1 ≤ x := by omega
      cases o
      · rw [if_neg (by simp; omega)] at hu
        have HU := Lib.hid hu
        clear hu hx1
        go_enter Try.func29, Try.ntmps29
        go_wp2_with fail
        refine C1.out.mono ?_
        rintro e w1 ⟨rfl, rfl⟩
        go_wp2_with fail
        refine C2.out.mono ?_
        rintro e w2 ⟨rfl, hb2⟩
        have HS := Lib.hid hb2
        have HL := ls_next h hb2
        have bc := (ls_acc HL k hk).out.cell
        clear hb2
        go_wp2_with fail
        all_goals go_ret
        all_goals exact ⟨Kit.ret_int (by rw [← HU.out]; (repeat' split) <;> omega), HS.out⟩
      · rw [if_pos (.inl rfl)] at hu
        subst hu
        clear hx1
        go_enter Try.func29, Try.ntmps29
        go_wp2_with fail
        refine C1.out.mono ?_
        rintro e w1 ⟨rfl, rfl⟩
        go_wp2_with fail
        refine C2.out.mono ?_
        rintro e w2 ⟨rfl, hb2⟩
        have HS := Lib.hid hb2
        clear hb2
        go_wp2_with fail
        go_ret
        exact ⟨rfl, HS.out⟩
  · rw [if_neg hp, if_pos (.inl rfl)] at hu
    subst hu
    have C1 := Lib.hid (find_any W q bud n w l v a cy p h.out.lm h.out.hn none (Lib.hid (fnd_out hp)))
    clear hp
    go_enter Try.func29, Try.ntmps29
    go_wp2_with fail
    refine C1.out.mono ?_
    rintro e w1 ⟨rfl, rfl⟩
    go_wp2_with fail
    go_ret
    exact ⟨rfl, Below.refl _ _⟩
end
end Go.Proofs.Yteikliciijfmmaa.LedB

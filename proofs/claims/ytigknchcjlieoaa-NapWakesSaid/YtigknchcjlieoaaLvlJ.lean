/- Package level and its reference: Best. -/
import Derived.Test.YtigknchcjlieoaaLvlI
import Derived.Test.YtigknchcjlieoaaSame
namespace Go.Proofs.Ytigknchcjlieoaa.LvlJ
open Go.RowKit Go.Shelf Base Kit Conf PowA PowB PowC PowR WideB Alt RefA LvlA LvlB LvlC LvlD LvlE LvlF LvlG LvlH LvlI
set_option linter.unusedVariables false
set_option linter.unusedSimpArgs false

theorem encL_row (L : List Nat) : encL L = row (fun i => ((L.getD i 0 : Nat) : Int)) L.length := by
  apply List.ext_getElem?
  intro i
  by_cases h : i < L.length
  · rw [row_get _ _ _ h]; simp [encL, h]
  · rw [List.getElem?_eq_none (by simp [encL]; omega), List.getElem?_eq_none (by simp [row]; omega)]
theorem alw_lt {p : PowC} {x : X5} {e : Int} : ∀ {k : Nat} {y : Nat}, y ∈ alw p x e k → y < k ∧ endP p x y ≤ e
  | 0, y, h => by simp [alw] at h
  | k + 1, y, h => by
    unfold alw at h
    split at h
    · rename_i hk
      rcases List.mem_append.1 h with h | h
      · have := alw_lt h; exact ⟨by omega, this.2⟩
      · simp at h; subst h; exact ⟨by omega, hk⟩
    · have := alw_lt h; exact ⟨by omega, this.2⟩
theorem alwL_mem {p : PowC} {x : X5} {e : Int} {y : Nat} (h : y ∈ alwL p x e) : MayP p x ∧ y < p.ln ∧ endP p x y ≤ e := by
  unfold alwL at h
  split at h
  · rename_i m; exact ⟨m, alw_lt h⟩
  · simp at h
theorem alwL_get {p : PowC} {x : X5} {e : Int} {i : Nat} (h : i < (alwL p x e).length) : MayP p x ∧ (alwL p x e).getD i 0 < p.ln ∧ endP p x ((alwL p x e).getD i 0) ≤ e := by
  have : (alwL p x e).getD i 0 ∈ alwL p x e := by simp [h]
  exact alwL_mem this
theorem own_zero {w : World} {base n : Nat} {e : TypeId} {size : Nat} {v : Value} {xs : List Value} (h : w.ownsRow base e size v n xs) : ∃ a c, v = .slice a n c := by
  rcases h.2 with ⟨rfl, rfl⟩ | ⟨g, cap, cur, rfl, _⟩
  · exact ⟨_, _, rfl⟩
  · exact ⟨_, _, rfl⟩
/-- the one that takes least -/
def bestR (p : PowC) (x : X5) (e : Int) : Int := if (alwL p x e).length = 0 then -1 else ((bst (costP p x) (fun i => (alwL p x e).getD i 0) ((alwL p x e).length - 1) : Nat) : Int)
set_option maxRecDepth 100000 in
set_option maxHeartbeats 4000000 in
theorem Best_any (p : PowC) (x : X5) (e : Int) (w : World) (ok : p.Ok w) (h100 : p.ln ≤ 100) (r : Int) (hr : Hid (bestR p x e = r)) :
    Calls Try.prog 17 #[.agg #[.slice p.la p.ln p.lc, .slice p.na p.nn p.nc, .int .i64 p.sw, .int .i64 p.id, .int .i64 p.ch, .int .i64 p.qu, .int .i64 p.sl, .int .i64 p.pp], .agg #[.int .i64 x.now, .int .i64 x.base, .int .i64 x.dn, .int .i64 x.lv, .int .i64 x.lf], .int .i64 e] w fun e w' => e = .returned (.int .i64 r) ∧ Below w.heap.size w w' := by
  have hr := hr.out
  have A := Lib.hid (fun w1 (h : Below w.heap.size w w1) => Allowed_any p x e w1 (ok.below h (Nat.le_refl _)) h100 _ (Lib.hid rfl))
  have G := Lib.hid (fun i (h : i < (alwL p x e).length) => alwL_get h)
  have ln := alwL_len p x e
  unfold bestR at hr
  generalize alwL p x e = L at hr A G ln
  have b1 := (Box.new w #[.slice p.la p.ln p.lc, .slice p.na p.nn p.nc, .int .i64 p.sw, .int .i64 p.id, .int .i64 p.ch, .int .i64 p.qu, .int .i64 p.sl, .int .i64 p.pp] 25).alloc (.cells #[.int .i64 x.now, .int .i64 x.base, .int .i64 x.dn, .int .i64 x.lv, .int .i64 x.lf] 34)
  have b2 := Box.new (w.alloc (.cells #[.slice p.la p.ln p.lc, .slice p.na p.nn p.nc, .int .i64 p.sw, .int .i64 p.id, .int .i64 p.ch, .int .i64 p.qu, .int .i64 p.sl, .int .i64 p.pp] 25)) #[.int .i64 x.now, .int .i64 x.base, .int .i64 x.dn, .int .i64 x.lv, .int .i64 x.lf] 34
  rw [World.size_alloc] at b2
  have B1 := Lib.hid b1
  have B2 := Lib.hid b2
  clear b1 b2
  have bb := Lib.hid (((Below.refl w.heap.size w).alloc (Nat.le_refl _) (.cells #[.slice p.la p.ln p.lc, .slice p.na p.nn p.nc, .int .i64 p.sw, .int .i64 p.id, .int .i64 p.ch, .int .i64 p.qu, .int .i64 p.sl, .int .i64 p.pp] 25)).alloc (by simp) (.cells #[.int .i64 x.now, .int .i64 x.base, .int .i64 x.dn, .int .i64 x.lv, .int .i64 x.lf] 34))
  go_enter Try.func17, Try.ntmps17
  go_wp2_with fail
  refine (A.out _ bb.out).mono ?_
  rintro e1 w5 ⟨v, rfl, hown, k5⟩
  have HB := Lib.hid (below_next bb.out k5)
  have x1 := Lib.hid ((B1.out.next k5))
  have x2 := Lib.hid ((B2.out.next k5))
  clear k5
  by_cases h0 : L.length = 0
  · rw [if_pos h0] at hr
    subst hr
    obtain ⟨a, c, rfl⟩ := own_zero hown
    rw [h0]
    go_wp2_with fail
    go_ret
    exact ⟨rfl, HB.out⟩
  · rw [if_neg h0] at hr
    obtain ⟨g, cap, rfl, lg0, lg⟩ := ownsRow_open hown h0
    have may := (G.out 0 (by omega)).1
    have hg : Hid (∀ i, i < L.length → w5.cell? ⟨g, i, none⟩ = some (.int .i64 ((L.getD i 0 : Nat) : Int))) := Lib.hid (fun i hi => by
      have hown' := hown
      rw [encL_row] at hown'
      have := hown'.cells (g := g) rfl i _ (row_get _ _ i hi)
      rw [Open.add_none, Nat.zero_add] at this
      exact this)
    obtain ⟨m, hm⟩ : ∃ m, bst (costP p x) (fun i => L.getD i 0) (L.length - 1) = m := ⟨_, rfl⟩
    rw [hm] at hr
    subst hr
    have M := Lib.hid (min_any p x (w.heap.size + 1) w.heap.size g L.length cap (fun i => L.getD i 0) w5 (ok.below HB.out (Nat.le_refl _)) may (fun i hi => (G.out i hi).2.1) (by omega) (by omega) (Lib.hid x2.out.cell) (Lib.hid x1.out.cell) x2.out.lt x1.out.lt lg hg m (Lib.hid hm))
    clear may hg hm
    have h0' : ((L.length : Int) == 0) = false := by simpa using h0
    go_wp2_with (go_at_call 41; refine M.out.mono ?_; rintro e1 w6 ⟨rfl, k6⟩; have HB6 := Lib.hid (below_next HB.out k6); clear k6)
    go_ret
    exact ⟨rfl, HB6.out⟩
end Go.Proofs.Ytigknchcjlieoaa.LvlJ

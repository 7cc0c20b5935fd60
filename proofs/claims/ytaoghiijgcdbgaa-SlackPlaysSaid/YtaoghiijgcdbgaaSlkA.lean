/- Walks of package slack: what has no loop over a function. -/
import Derived.Test.YtaoghiijgcdbgaaKit
import Derived.Test.YtaoghiijgcdbgaaAlt
import Derived.Test.YtaoghiijgcdbgaaWideA
namespace Go.Proofs.Ytaoghiijgcdbgaa.SlkA
open Go.RowKit Base Kit WideA Alt RefA
set_option linter.unusedVariables false
set_option linter.unusedSimpArgs false

/-- a row of pointers -/
def prow (a : Nat → Nat) (n : Nat) : List Value := (List.range n).map fun i => .pointer (some ⟨a i, 0, none⟩)
theorem prow_succ (a : Nat → Nat) (n : Nat) : prow a (n + 1) = prow a n ++ [.pointer (some ⟨a n, 0, none⟩)] := by simp [prow, List.range_succ]
theorem prow_get (a : Nat → Nat) (n i : Nat) (h : i < n) : (prow a n)[i]? = some (.pointer (some ⟨a i, 0, none⟩)) := by simp [prow, h]
theorem prow_congr {a b : Nat → Nat} {n : Nat} (h : ∀ i, i < n → a i = b i) : prow a n = prow b n := by
  unfold prow; apply List.map_congr_left; intro i hi; rw [h i (by simpa using hi)]
theorem own_slice {w : World} {v : Value} {n : Nat} {a : Nat → Nat} {e : TypeId} (h : w.ownsRow 0 e 1 v n (prow a n)) : ∃ A c, v = .slice A n c ∧ ∀ i, i < n → ∃ g, A = some ⟨g, 0, none⟩ ∧ w.cell? ⟨g, i, none⟩ = some (.pointer (some ⟨a i, 0, none⟩)) := by
  rcases id h.2 with ⟨h1, h2⟩ | ⟨g, cap, cur, hv, hg, hh, r⟩
  · subst h2; exact ⟨none, 0, h1, fun i hi => by omega⟩
  · refine ⟨_, _, hv, fun i hi => ⟨g, rfl, ?_⟩⟩
    have := h.cells (g := g) (by rw [hv]; rfl) i _ (prow_get a n i hi)
    rw [Open.add_none] at this
    simpa using this
theorem own_ne' {w : World} {base : Nat} {e T : TypeId} {size n b : Nat} {v : Value} {xs : List Value} {vs : Array Value} (h : w.ownsRow base e size v n xs) (k : Box w b vs T) (hne : e ≠ T) : v.ownBlock ≠ some b := by
  rcases h.2 with ⟨h', _⟩ | ⟨g', cap', cur, hv, hg, hh, r⟩
  · rw [h']; simp [Value.ownBlock]
  · rw [hv]
    intro e1
    have e1 : g' = b := by simpa [Value.ownBlock] using e1
    subst e1
    unfold Box at k
    rw [hh] at k
    simp at k
    exact hne k.2
theorem own_alt' {S : Nat → Prop} {w w1 : World} {base n : Nat} {v : Value} {e : TypeId} {size : Nat} {xs : List Value} (h : w.ownsRow base e size v n xs) (k : Alt S w w1) (hs : ∀ g, v.ownBlock = some g → ¬ S g) : w1.ownsRow base e size v n xs := by
  have hl := h.lt
  obtain ⟨h1, h2⟩ := h
  refine ⟨h1, ?_⟩
  rcases h2 with h2 | ⟨g, cap, cur, hv, hg, hh, r⟩
  · exact .inl h2
  · have hb : v.ownBlock = some g := by rw [hv]; rfl
    exact .inr ⟨g, cap, cur, hv, hg, (k.block g (hl g hb).2 (hs g hb)).trans hh, r⟩

/-- a slack's state -/
structure SS where
  (room : Int) (has : Nat → Int) (dn : Nat → Bool)
structure SOk (n : Nat) (x : SS) : Prop where
  hn : n ≤ 100
  r0 : 0 ≤ x.room
  r1 : x.room ≤ 9223372036854775807
  h0 : ∀ i, i < n → 0 ≤ x.has i ∧ x.has i ≤ 9223372036854775807
/-- a slack in memory -/
structure Sk (w : World) (s n : Nat) (v : Value) (a : Nat → Nat) (x : SS) : Prop where
  box : Box w s #[.int .i64 x.room, v, .bool true] 48
  own : w.ownsRow 0 67 1 v n (prow a n)
  acc : ∀ i, i < n → Box w (a i) #[.int .i64 (x.has i), .bool (x.dn i)] 69
  inj : ∀ i j, i < n → j < n → a i = a j → i = j
def In (s n : Nat) (a : Nat → Nat) (i : Nat) : Prop := i = s ∨ ∃ k, k < n ∧ i = a k
section
variable {w : World} {s n : Nat} {v : Value} {a : Nat → Nat} {x : SS}
theorem sk_alt {S : Nat → Prop} {w1 : World} (h : Hid (Sk w s n v a x)) (k : Alt S w w1) (h1 : ¬ S s) (h2 : ∀ i, i < n → ¬ S (a i)) (h3 : ∀ g, v.ownBlock = some g → ¬ S g) : Hid (Sk w1 s n v a x) :=
  Lib.hid ⟨box_alt h.out.box k h1, own_alt' h.out.own k h3, fun i hi => box_alt (h.out.acc i hi) k (h2 i hi), h.out.inj⟩
theorem sk_next {w1 : World} (h : Hid (Sk w s n v a x)) (k : Below w.heap.size w w1) : Hid (Sk w1 s n v a x) := sk_alt h (Alt.of_below (S := fun _ => False) k) id (fun _ _ => id) (fun _ _ => id)
theorem sk_congr {y : SS} (h : Hid (Sk w s n v a x)) (e1 : x.room = y.room) (e2 : ∀ i, i < n → x.has i = y.has i) (e3 : ∀ i, i < n → x.dn i = y.dn i) : Hid (Sk w s n v a y) :=
  Lib.hid ⟨by rw [← e1]; exact h.out.box, h.out.own, fun i hi => by rw [← e2 i hi, ← e3 i hi]; exact h.out.acc i hi, h.out.inj⟩
def updI (f : Nat → Int) (k : Nat) (v : Int) : Nat → Int := fun i => if i = k then v else f i
def updB (f : Nat → Bool) (k : Nat) (v : Bool) : Nat → Bool := fun i => if i = k then v else f i
/-- a process's cells are written -/
theorem sk_set {j : Nat} {u : Value} {k : Nat} {h' : Int} {d' : Bool} (h : Hid (Sk w s n v a x)) (hk : k < n) (e : (#[.int .i64 (x.has k), .bool (x.dn k)] : Array Value).setIfInBounds j u = #[.int .i64 h', .bool d']) :
    Hid (Sk (w.setCell ⟨a k, j, none⟩ u) s n v a ⟨x.room, updI x.has k h', updB x.dn k d'⟩) := by
  have hA : Alt (fun i => i = a k) w (w.setCell ⟨a k, j, none⟩ u) := Alt.set _ _ _ rfl
  have hb := h.out.acc k hk
  refine Lib.hid ⟨box_alt h.out.box hA (fun e => box_ne h.out.box hb (by decide) e), own_alt' h.out.own hA (fun g hg e => ?_), fun i hi => ?_, h.out.inj⟩
  · subst e; exact own_ne' h.out.own hb (by decide) hg
  · by_cases e1 : i = k
    · subst e1
      have := hb.set j u
      rw [e] at this
      simp only [updI, updB, if_pos rfl]
      exact this
    · simp only [updI, updB, if_neg e1]
      exact box_alt (h.out.acc i hi) hA (fun e2 => e1 (h.out.inj i k hi hk e2))
theorem sk_room (h : Hid (Sk w s n v a x)) (r : Int) : Hid (Sk (w.setCell ⟨s, 0, none⟩ (.int .i64 r)) s n v a ⟨r, x.has, x.dn⟩) := by
  have hA : Alt (fun i => i = s) w (w.setCell ⟨s, 0, none⟩ (.int .i64 r)) := Alt.set _ _ _ rfl
  refine Lib.hid ⟨h.out.box.set 0 _, own_alt' h.out.own hA (fun g hg e => ?_), fun i hi => box_alt (h.out.acc i hi) hA (fun e => box_ne (h.out.acc i hi) h.out.box (by decide) e), h.out.inj⟩
  subst e; exact own_ne' h.out.own h.out.box (by decide) hg

def fnd (n : Nat) (a : Nat → Nat) (p : Int) : Option Addr := if 0 ≤ p ∧ p < (n : Int) then some ⟨a p.toNat, 0, none⟩ else none
theorem fnd_in {k : Nat} (h : k < n) : fnd n a (k : Int) = some ⟨a k, 0, none⟩ := by unfold fnd; rw [if_pos ⟨by omega, by omega⟩, Int.toNat_natCast]
theorem fnd_out {p : Int} (h : ¬ (0 ≤ p ∧ p < (n : Int))) : fnd n a p = none := by unfold fnd; rw [if_neg h]
set_option maxRecDepth 100000 in
theorem find_any (h : Hid (Sk w s n v a x)) (hn : n ≤ 100) (p : Int) (r : Option Addr) (hr : Hid (fnd n a p = r)) :
    Calls Try.prog 33 #[.pointer (some ⟨s, 0, none⟩), .int .i64 p] w fun e w' => e = .returned (.pointer r) ∧ w = w' := by
  obtain ⟨A, c, rfl, hA⟩ := own_slice h.out.own
  have bc := h.out.box.cell
  have hr := hr.out
  unfold fnd at hr
  by_cases hp : 0 ≤ p ∧ p < (n : Int)
  · rw [if_pos hp] at hr
    obtain ⟨h0, h1⟩ := hp
    obtain ⟨k, rfl⟩ := Int.eq_ofNat_of_zero_le h0
    obtain ⟨g, rfl, gc⟩ := hA k (by omega)
    rw [Int.toNat_natCast] at hr
    subst hr
    clear hA
    go_enter Try.func33, Try.ntmps33
    go_wp2_with fail
    go_ret
    exact ⟨rfl, rfl⟩
  · rw [if_neg hp] at hr
    subst hr
    have ways : p < 0 ∨ (0 ≤ p ∧ (n : Int) ≤ p) := by omega
    clear hA hp
    rcases ways with k | ⟨k1, k2⟩
    all_goals
      go_enter Try.func33, Try.ntmps33
      go_wp2_with fail
      go_ret
      exact ⟨rfl, rfl⟩
def ofP (n : Nat) (f : Nat → Int) (p : Int) : Int := if 0 ≤ p ∧ p < (n : Int) then f p.toNat else 0
theorem of_any (h : Hid (Sk w s n v a x)) (hn : n ≤ 100) (p u : Int) (hu : Hid (ofP n x.has p = u)) :
    Calls Try.prog 17 #[.pointer (some ⟨s, 0, none⟩), .int .i64 p] w fun e w' => e = .returned (.int .i64 u) ∧ w = w' := by
  have hu := hu.out
  unfold ofP at hu
  by_cases hp : 0 ≤ p ∧ p < (n : Int)
  · rw [if_pos hp] at hu
    obtain ⟨k, rfl⟩ := Int.eq_ofNat_of_zero_le hp.1
    have hk : k < n := by omega
    rw [Int.toNat_natCast] at hu
    subst hu
    have C1 := Lib.hid (find_any h hn k _ (Lib.hid (fnd_in hk)))
    have bc := (h.out.acc k hk).cell
    clear hp
    go_enter Try.func17, Try.ntmps17
    go_wp2_with fail
    refine C1.out.mono ?_
    rintro e w1 ⟨rfl, rfl⟩
    go_wp2_with fail
    go_ret
    exact ⟨rfl, rfl⟩
  · rw [if_neg hp] at hu
    subst hu
    have C1 := Lib.hid (find_any h hn p _ (Lib.hid (fnd_out hp)))
    clear hp
    go_enter Try.func17, Try.ntmps17
    go_wp2_with fail
    refine C1.out.mono ?_
    rintro e w1 ⟨rfl, rfl⟩
    go_wp2_with fail
    go_ret
    exact ⟨rfl, rfl⟩
theorem room_any (h : Hid (Sk w s n v a x)) :
    Calls Try.prog 16 #[.pointer (some ⟨s, 0, none⟩)] w fun e w' => e = .returned (.int .i64 x.room) ∧ w = w' := by
  have bc := h.out.box.cell
  go_enter Try.func16, Try.ntmps16
  go_wp2_with fail
  go_ret
  exact ⟨rfl, rfl⟩
theorem again_any (h : Hid (Sk w s n v a x)) (hn : n ≤ 100) (p : Int) :
    Calls Try.prog 21 #[.pointer (some ⟨s, 0, none⟩), .int .i64 p] w fun e w' => (∃ r, e = .returned r) ∧ Alt (In s n a) w w' ∧ Hid (Sk w' s n v a (if 0 ≤ p ∧ p < (n : Int) then ⟨x.room, x.has, updB x.dn p.toNat false⟩ else x)) := by
  by_cases hp : 0 ≤ p ∧ p < (n : Int)
  · rw [if_pos hp]
    obtain ⟨k, rfl⟩ := Int.eq_ofNat_of_zero_le hp.1
    have hk : k < n := by omega
    rw [Int.toNat_natCast]
    have C1 := Lib.hid (find_any h hn k _ (Lib.hid (fnd_in hk)))
    have bc := (h.out.acc k hk).cell
    have bf := (h.out.acc k hk).frozen
    have HS := sk_set (j := 1) (u := .bool false) (h' := x.has k) (d' := false) h hk rfl
    clear hp
    go_enter Try.func21, Try.ntmps21
    go_wp2_with fail
    refine C1.out.mono ?_
    rintro e w1 ⟨rfl, rfl⟩
    go_wp2_with fail
    go_end0
    refine ⟨⟨_, rfl⟩, Alt.set _ _ _ (.inr ⟨k, hk, rfl⟩), sk_congr HS rfl (fun i hi => ?_) (fun i hi => rfl)⟩
    show updI x.has k (x.has k) i = x.has i
    unfold updI; split
    · rename_i e; rw [e]
    · rfl
  · rw [if_neg hp]
    have C1 := Lib.hid (find_any h hn p _ (Lib.hid (fnd_out hp)))
    clear hp
    go_enter Try.func21, Try.ntmps21
    go_wp2_with fail
    refine C1.out.mono ?_
    rintro e w1 ⟨rfl, rfl⟩
    go_wp2_with fail
    go_end0
    exact ⟨⟨_, rfl⟩, Alt.refl _ _, h⟩
def mn (a b : Int) : Int := if b < a then b else a
def spendP (n : Nat) (x : SS) (p c : Int) : Int × SS :=
  if (0 ≤ p ∧ p < (n : Int)) ∧ 1 ≤ c then (mn (mn c x.room) (x.has p.toNat), ⟨x.room - mn (mn c x.room) (x.has p.toNat), updI x.has p.toNat (x.has p.toNat - mn (mn c x.room) (x.has p.toNat)), x.dn⟩) else (0, x)
set_option maxRecDepth 100000 in
set_option maxHeartbeats 1000000 in
theorem spend_any (h : Hid (Sk w s n v a x)) (ok : SOk n x) (p c : Int) (hc : I64 c) (r : Int) (y : SS) (hr : Hid (spendP n x p c = (r, y))) :
    Calls Try.prog 15 #[.pointer (some ⟨s, 0, none⟩), .int .i64 p, .int .i64 c] w fun e w' => e = .returned (.int .i64 r) ∧ Alt (In s n a) w w' ∧ Hid (Sk w' s n v a y) := by
  have hn := ok.hn
  have hr := hr.out
  unfold spendP at hr
  by_cases hp : 0 ≤ p ∧ p < (n : Int)
  · obtain ⟨k, rfl⟩ := Int.eq_ofNat_of_zero_le hp.1
    have hk : k < n := by omega
    rw [Int.toNat_natCast] at hr
    have C1 := Lib.hid (find_any h hn k _ (Lib.hid (fnd_in hk)))
    by_cases h1 : 1 ≤ c
    · rw [if_pos ⟨hp, h1⟩] at hr
      have ba := (h.out.acc k hk).cell
      have bb := h.out.box.cell
      obtain ⟨m, hm⟩ : ∃ m, mn (mn c x.room) (x.has k) = m := ⟨_, rfl⟩
      rw [hm] at hr
      simp only [Prod.mk.injEq] at hr
      obtain ⟨rfl, rfl⟩ := hr
      have HM := Lib.hid hm
      clear hp hm
      go_enter Try.func15, Try.ntmps15
      go_wp2_with fail
      refine C1.out.mono ?_
      rintro e w1 ⟨rfl, rfl⟩
      go_wp2_with fail
      go_quiet (fail)
      have hm2 : (if x.has k < (if x.room < c then x.room else c) then x.has k else if x.room < c then x.room else c) = m := HM.out
      rw [hm2]
      have mb : 0 ≤ m ∧ m ≤ x.room ∧ m ≤ x.has k := by
        have h0 := (ok.h0 k hk).1
        have r0 := ok.r0
        rw [← hm2]
        split <;> split <;> omega
      have H1 : Hid (Sk (w.drewN nq) s n v a x) := sk_next h ⟨rfl, rfl, rfl, Nat.le_refl _, fun _ _ => rfl⟩
      have H2 := sk_set (j := 0) (u := .int .i64 (x.has k - m)) (h' := x.has k - m) (d' := x.dn k) H1 hk rfl
      have H3 := sk_room H2 (x.room - m)
      have H4 := sk_congr (y := ⟨x.room - m, updI x.has k (x.has k - m), x.dn⟩) H3 rfl (fun i hi => rfl) (fun i hi => (by show updB x.dn k (x.dn k) i = x.dn i; unfold updB; split; rename_i e; rw [e]; rfl))
      clear ba bb hm2
      have ba := (H1.out.acc k hk).cell
      have bb := (H2.out.box).cell
      have fa := (H1.out.acc k hk).frozen
      have fb := (H2.out.box).frozen
      have h00 := (ok.h0 k hk).2
      have r00 := ok.r1
      obtain ⟨m0, m1, m2⟩ := mb
      clear H1 H2 H3
      go_wp2_with fail
      go_ret
      exact ⟨rfl, ((Alt.drewN w nq).trans (Alt.set _ _ _ (.inr ⟨k, hk, rfl⟩))).trans (Alt.set _ _ _ (.inl rfl)), H4⟩
    · rw [if_neg (fun e => h1 e.2)] at hr
      simp only [Prod.mk.injEq] at hr
      obtain ⟨rfl, rfl⟩ := hr
      have h1 : c < 1 := by omega
      clear hp
      go_enter Try.func15, Try.ntmps15
      go_wp2_with fail
      refine C1.out.mono ?_
      rintro e w1 ⟨rfl, rfl⟩
      go_wp2_with fail
      go_ret
      exact ⟨rfl, Alt.refl _ _, h⟩
  · rw [if_neg (fun e => hp e.1)] at hr
    simp only [Prod.mk.injEq] at hr
    obtain ⟨rfl, rfl⟩ := hr
    have C1 := Lib.hid (find_any h hn p _ (Lib.hid (fnd_out hp)))
    clear hp
    go_enter Try.func15, Try.ntmps15
    go_wp2_with fail
    refine C1.out.mono ?_
    rintro e w1 ⟨rfl, rfl⟩
    go_wp2_with fail
    go_ret
    exact ⟨rfl, Alt.refl _ _, h⟩
end
end Go.Proofs.Ytaoghiijgcdbgaa.SlkA

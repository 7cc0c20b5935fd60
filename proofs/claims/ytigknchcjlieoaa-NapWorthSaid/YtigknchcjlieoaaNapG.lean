/- Package nap: Best, and its reference. -/
import Derived.Test.YtigknchcjlieoaaNapF
namespace Go.Proofs.Ytigknchcjlieoaa.NapG
open Go.RowKit Go.Shelf Base Kit Conf PowA PowB PowC PowR WideB Alt RefA LvlA LvlG LvlH LvlI LvlJ OscPlain OscZ NapA NapB NapC NapD NapE NapF
set_option linter.unusedVariables false
set_option linter.unusedSimpArgs false

theorem snoc_lt {L : List Nat} {k i : Nat} (h : i < L.length) : (L ++ [k]).getD i 0 = L.getD i 0 := by
  rw [List.getD_eq_getElem?_getD, List.getD_eq_getElem?_getD, List.getElem?_append_left h]
theorem snoc_eq (L : List Nat) (k : Nat) : (L ++ [k]).getD L.length 0 = k := by
  rw [List.getD_eq_getElem?_getD, List.getElem?_append_right (Nat.le_refl _)]; simp
theorem bst_snoc (c : Nat → Int) (L : List Nat) (k : Nat) : ∀ i, i < L.length → bst c (fun i => (L ++ [k]).getD i 0) i = bst c (fun i => L.getD i 0) i
  | 0, h => snoc_lt h
  | i + 1, h => by
    unfold bst
    rw [bst_snoc c L k i (by omega)]
    simp only [snoc_lt h]
def bM (c : Nat → Int) (L : List Nat) : Nat := bst c (fun i => L.getD i 0) (L.length - 1)
theorem bM_one (c : Nat → Int) (k : Nat) {L : List Nat} (h : L.length = 0) : bM c (L ++ [k]) = k := by
  obtain rfl := List.length_eq_zero_iff.1 h
  rfl
theorem bM_snoc (c : Nat → Int) (k : Nat) {L : List Nat} (h : L.length ≠ 0) : bM c (L ++ [k]) = if c k < c (bM c L) then k else bM c L := by
  unfold bM
  obtain ⟨n, hn⟩ : ∃ n, L.length = n + 1 := ⟨L.length - 1, by omega⟩
  rw [List.length_append, List.length_singleton, hn]
  show bst c (fun i => (L ++ [k]).getD i 0) (n + 1) = _
  rw [bst, bst_snoc c L k n (by omega)]
  simp only [show n + 1 - 1 = n from rfl]
  rw [show (L ++ [k]).getD (n + 1) 0 = k from by rw [← hn]; exact snoc_eq L k]
/-- those that the best one is taken of -/
def lst (p : PowC) (now en : Int) (k : Nat) : List Nat := if 1099511627776 < en - now then [] else naw p now en k
def BestR (p : PowC) (now en : Int) : Int :=
  if (lst p now en p.nn).length = 0 then -1 else if p.id * (en - now) ≤ costN p (bM (fun k => costN p k now en) (lst p now en p.nn)) now en then -1 else (bM (fun k => costN p k now en) (lst p now en p.nn) : Int)
theorem naw_mem {p : PowC} {now en : Int} : ∀ {k y : Nat}, y ∈ naw p now en k → y < k ∧ 1 ≤ CntR p (y : Int) now en
  | 0, y, h => by simp [naw] at h
  | k + 1, y, h => by
    unfold naw at h
    split at h
    · rcases List.mem_append.1 h with h | h
      · have := naw_mem h; exact ⟨by omega, this.2⟩
      · obtain rfl := List.mem_singleton.1 h; exact ⟨by omega, by assumption⟩
    · have := naw_mem h; exact ⟨by omega, this.2⟩
theorem naw_fine {p : PowC} {now en : Int} {k y : Nat} (h : y ∈ naw p now en k) : y < p.nn ∧ MayN p now en ∧ 0 ≤ roomN p y now en := by
  obtain ⟨j, e, h1, h2, h3, -⟩ := cnt_ge (naw_mem h).2
  obtain rfl : y = j := by omega
  exact ⟨h1, h2, h3⟩
theorem mem_get {L : List Nat} {i : Nat} (h : i < L.length) : L.getD i 0 ∈ L := by
  rw [List.getD_eq_getElem?_getD, List.getElem?_eq_getElem h]
  exact List.getElem_mem h
theorem bM_mem (c : Nat → Int) {L : List Nat} (h : L.length ≠ 0) : bM c L ∈ L := by
  obtain ⟨j, hj, e⟩ := bst_in c (fun i => L.getD i 0) (L.length - 1)
  unfold bM
  rw [e]
  exact mem_get (by omega)

set_option maxRecDepth 100000 in
set_option maxHeartbeats 4000000 in
theorem Best_any (p : PowC) (now en : Int) (w : World) (ok : p.Ok w) (h100 : p.nn ≤ 100) (r : Int) (hr : Hid (BestR p now en = r)) :
    Calls Try.prog 28 #[.agg #[.slice p.la p.ln p.lc, .slice p.na p.nn p.nc, .int .i64 p.sw, .int .i64 p.id, .int .i64 p.ch, .int .i64 p.qu, .int .i64 p.sl, .int .i64 p.pp], .int .i64 now, .int .i64 en] w fun e w' => e = .returned (.int .i64 r) ∧ Below w.heap.size w w' := by
  have hr := hr.out
  have A := Lib.hid (fun w1 (h : Below w.heap.size w w1) => Allowed_any p now en w1 (ok.below h (Nat.le_refl _)) h100 _ (Lib.hid rfl))
  have G := Lib.hid (fun y (h : y ∈ nawL p now en) => naw_fine h)
  have ln := nawL_len p now en
  unfold BestR lst at hr
  rw [show naw p now en p.nn = nawL p now en from rfl] at hr
  generalize nawL p now en = L at hr A G ln
  have b1 := ((Box.new w #[.slice p.la p.ln p.lc, .slice p.na p.nn p.nc, .int .i64 p.sw, .int .i64 p.id, .int .i64 p.ch, .int .i64 p.qu, .int .i64 p.sl, .int .i64 p.pp] 25).alloc (.cells #[.int .i64 now] 3)).alloc (.cells #[.int .i64 en] 3)
  have b2 := (Box.new (w.alloc (.cells #[.slice p.la p.ln p.lc, .slice p.na p.nn p.nc, .int .i64 p.sw, .int .i64 p.id, .int .i64 p.ch, .int .i64 p.qu, .int .i64 p.sl, .int .i64 p.pp] 25)) #[.int .i64 now] 3).alloc (.cells #[.int .i64 en] 3)
  have b3 := Box.new ((w.alloc (.cells #[.slice p.la p.ln p.lc, .slice p.na p.nn p.nc, .int .i64 p.sw, .int .i64 p.id, .int .i64 p.ch, .int .i64 p.qu, .int .i64 p.sl, .int .i64 p.pp] 25)).alloc (.cells #[.int .i64 now] 3)) #[.int .i64 en] 3
  rw [World.size_alloc] at b2
  rw [World.size_alloc, World.size_alloc] at b3
  have K : Hid (Cap p now en w.heap.size (w.heap.size + 1) (w.heap.size + 1 + 1) (((w.alloc (.cells #[.slice p.la p.ln p.lc, .slice p.na p.nn p.nc, .int .i64 p.sw, .int .i64 p.id, .int .i64 p.ch, .int .i64 p.qu, .int .i64 p.sl, .int .i64 p.pp] 25)).alloc (.cells #[.int .i64 now] 3)).alloc (.cells #[.int .i64 en] 3))) :=
    Lib.hid ⟨b1.cell, b2.cell 0, b3.cell 0⟩
  have B1 := Lib.hid b1
  clear b1 b2 b3
  have bb := Lib.hid ((((Below.refl w.heap.size w).alloc (Nat.le_refl _) (.cells #[.slice p.la p.ln p.lc, .slice p.na p.nn p.nc, .int .i64 p.sw, .int .i64 p.id, .int .i64 p.ch, .int .i64 p.qu, .int .i64 p.sl, .int .i64 p.pp] 25)).alloc (by simp) (.cells #[.int .i64 now] 3)).alloc (by simp; omega) (.cells #[.int .i64 en] 3))
  go_enter Try.func28, Try.ntmps28
  go_wp2_with fail
  generalize ((w.alloc (.cells #[.slice p.la p.ln p.lc, .slice p.na p.nn p.nc, .int .i64 p.sw, .int .i64 p.id, .int .i64 p.ch, .int .i64 p.qu, .int .i64 p.sl, .int .i64 p.pp] 25)).alloc (.cells #[.int .i64 now] 3)).alloc (.cells #[.int .i64 en] 3) = W at K B1 bb ⊢
  refine (A.out _ bb.out).mono ?_
  rintro e1 w5 ⟨v, rfl, hown, k5⟩
  have HB := Lib.hid (below_next bb.out k5)
  have K := Lib.hid (cap_next K.out B1.out.lt k5)
  have B1 := Lib.hid (B1.out.next k5)
  clear k5
  obtain ⟨x1, x2, x3⟩ := K.out
  by_cases h0 : L.length = 0
  · rw [if_pos (by split; rfl; exact h0)] at hr
    subst hr
    obtain ⟨a, c, rfl⟩ := own_zero hown
    rw [h0]
    go_wp2_with fail
    go_ret
    exact ⟨rfl, HB.out⟩
  · obtain ⟨g, cap, rfl, lg0, lg⟩ := ownsRow_open hown h0
    have may := (G.out _ (mem_get (show 0 < L.length by omega))).2.1
    have m1 := may.2.1
    have m2 := may.2.2.1
    have m3 := may.2.2.2
    have h0' : ((L.length : Int) == 0) = false := by simpa using h0
    by_cases hlo : 1099511627776 < en - now
    · rw [if_pos hlo, if_pos (show ([] : List Nat).length = 0 from rfl)] at hr
      subst hr
      clear hown may
      go_wp2_with fail
      go_ret
      exact ⟨rfl, HB.out⟩
    · rw [if_neg hlo, if_neg h0] at hr
      have hl : en - now ≤ 1099511627776 := by omega
      have hg : Hid (∀ i, i < L.length → w5.cell? ⟨g, i, none⟩ = some (.int .i64 ((L.getD i 0 : Nat) : Int))) := Lib.hid (fun i hi => by
        have hown' := hown
        rw [encL_row] at hown'
        have := hown'.cells (g := g) rfl i _ (row_get _ _ i hi)
        rw [Open.add_none, Nat.zero_add] at this
        exact this)
      have hm0 := bM_mem (fun k => costN p k now en) h0
      obtain ⟨m, hm⟩ : ∃ m, bM (fun k => costN p k now en) L = m := ⟨_, rfl⟩
      rw [hm] at hr hm0
      have hgm := G.out m hm0
      have cb := cost_bd may hgm.1 hgm.2.2 hl
      have M := Lib.hid (min_any p now en w.heap.size (w.heap.size + 1) (w.heap.size + 1 + 1) g L.length cap (fun i => L.getD i 0) w5 (ok.below HB.out (Nat.le_refl _)) may (fun i hi => ⟨(G.out _ (mem_get hi)).1, (G.out _ (mem_get hi)).2.2⟩) hl (by omega) (by omega) K B1.out.lt lg hg m (Lib.hid hm))
      have pb := rest_bd may.1
      have ib := mul_bd pb.2.1.1 pb.2.1.2 (show 0 ≤ en - now by omega) hl
      obtain ⟨c, hc⟩ : ∃ c, costN p m now en = c := ⟨_, rfl⟩
      have D := Lib.hid (fun w1 (h : Below w.heap.size w w1) => cost_any p m now en w1 (ok.below h (Nat.le_refl _)) may hgm.1 hgm.2.2 hl c (Lib.hid hc))
      rw [hc] at hr cb
      obtain ⟨P, hP⟩ : ∃ P, p.id * (en - now) = P := ⟨_, rfl⟩
      rw [hP] at hr ib
      have HP := Lib.hid hP
      clear may hg hm hc hP pb hm0 hgm hown
      go_wp2_with fail
      refine M.out.mono ?_
      rintro e1 w6 ⟨rfl, k6⟩
      have HB := Lib.hid (below_next HB.out k6)
      have K := Lib.hid (cap_next K.out B1.out.lt k6)
      have B1 := Lib.hid (B1.out.next k6)
      clear k6 x1 x2 x3
      go_wp2_with fail
      have HB := below_drew HB
      have K : Hid (Cap p now en w.heap.size (w.heap.size + 1) (w.heap.size + 1 + 1) w6.drew) := Lib.hid (cap_next K.out B1.out.lt (Below.refl _ _).drew)
      have bd := K.out
      unfold Cap at bd
      have hw1 : IntKind.i64.wrap (en - now) = en - now := IntWalk.i64_in _ (by omega)
      have hw2 : IntKind.i64.wrap (p.id * (en - now)) = P := by rw [HP.out]; exact IntWalk.i64_in _ (by omega)
      have lt6 : w.heap.size < w6.drew.heap.size := B1.out.lt
      have LT6 := Lib.hid lt6
      clear lt6
      go_region_held3 (fun w' => (∀ i, w'.cell? ⟨w.heap.size, i, none⟩ = (#[.slice p.la p.ln p.lc, .slice p.na p.nn p.nc, .int .i64 p.sw, .int .i64 p.id, .int .i64 p.ch, .int .i64 p.qu, .int .i64 p.sl, .int .i64 p.pp] : Array Value)[i]?) ∧ w'.cell? ⟨w.heap.size + 1, 0, none⟩ = some (.int .i64 now) ∧ w'.cell? ⟨w.heap.size + 1 + 1, 0, none⟩ = some (.int .i64 en))
        (first
          | exact r5
          | exact bd)
        (first
          | (go_at_call 49; refine (D.out _ HB.out).mono ?_; rintro e1 w7 ⟨rfl, k7⟩; have HB7 := Lib.hid (below_next HB.out k7); have r5 := cap_next K.out LT6.out k7; unfold Cap at r5; clear k7))
      clear bd r5 hw1 hw2
      by_cases hge : P ≤ c
      · rw [if_pos hge] at hr
        subst hr
        go_wp2_with fail
        go_ret
        exact ⟨rfl, HB7.out⟩
      · rw [if_neg hge] at hr
        subst hr
        have hge : c < P := by omega
        go_wp2_with fail
        go_ret
        exact ⟨rfl, HB7.out⟩
end Go.Proofs.Ytigknchcjlieoaa.NapG

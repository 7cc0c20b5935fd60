/- Package level's laws: LevelStays. -/
import Derived.Test.YtigknchcjlieoaaLvlR
import Derived.Test.YtigknchcjlieoaaBoo
namespace Go.Proofs.Ytigknchcjlieoaa.LvlS
open Go.RowKit Go.Shelf Base Kit Conf PowA PowB PowC PowR WideB Alt RefA Boo LvlA LvlB LvlC LvlD LvlE LvlF LvlG LvlH LvlI LvlJ LvlK LvlM LvlN LvlP LvlQ LvlR
set_option linter.unusedVariables false
set_option linter.unusedSimpArgs false

def barr (F : Nat → Bool) (n : Nat) : Array Value := (brow F n).toArray
theorem barr_get (F : Nat → Bool) (n j : Nat) (h : j < n) : (barr F n)[j]? = some (.bool (F j)) := by
  unfold barr; rw [List.getElem?_toArray]; exact brow_get F n j h
theorem barr_set (F : Nat → Bool) (n i : Nat) (v : Bool) : (barr F n).setIfInBounds i (.bool v) = barr (fun j => if j = i then v else F j) n := by
  unfold barr; rw [List.setIfInBounds_toArray, brow_set]
theorem barr_congr {F G : Nat → Bool} {n : Nat} (h : ∀ j, F j = G j) : barr F n = barr G n := by
  rw [show F = G from funext h]
theorem own_box {w : World} {B g n : Nat} {F : Nat → Bool} {T : TypeId} (h : w.ownsRow B T 1 (.slice (some ⟨g, 0, none⟩) n n) n (brow F n)) : Box w g (barr F n) T := by
  obtain ⟨-, ⟨h1, -⟩ | ⟨g', cap, cur, h1, h2, h3, h4, h5, h6, h7⟩⟩ := h
  · cases h1
  · simp only [Value.slice.injEq, Option.some.injEq, Addr.mk.injEq, true_and, and_true] at h1
    obtain ⟨rfl, rfl⟩ := h1
    rw [Nat.mul_one] at h6 h7
    rw [List.take_of_length_le (by simp [h6])] at h7
    unfold Box barr
    rw [h3, ← h7]
/-- which ones are in a list -/
def isin (L : List Nat) (k : Nat) : Nat → Bool := fun j => decide (j ∈ L.take k)
theorem isin_0 (L : List Nat) (j : Nat) : isin L 0 j = false := by simp [isin]
theorem isin_step {L : List Nat} {k : Nat} (h : k < L.length) (j : Nat) : (if j = L.getD k 0 then true else isin L k j) = isin L (k + 1) j := by
  unfold isin
  rw [List.take_add_one, List.getD_eq_getElem?_getD, List.getElem?_eq_getElem h]
  by_cases e : j = L[k]
  · rw [if_pos (by simpa using e)]
    symm
    rw [decide_eq_true_iff, List.mem_append]
    right
    rw [e]
    exact List.mem_singleton.2 rfl
  · rw [if_neg (by simpa using e), decide_eq_decide, List.mem_append]
    refine ⟨.inl, fun h => ?_⟩
    rcases h with h | h
    · exact h
    · exact absurd (List.mem_singleton.1 h) e
theorem isin_end (L : List Nat) (j : Nat) : isin L L.length j = decide (j ∈ L) := by simp [isin]

/-- the loops' world -/
structure Lt (w5 w : World) (gA gB n : Nat) (F G : Nat → Bool) : Prop where
  bel : Below w5.heap.size w5 w
  ha : w5.heap.size ≤ gA
  hb : w5.heap.size ≤ gB
  ne : gA ≠ gB
  a : Box w gA (barr F n) 4
  b : Box w gB (barr G n) 4
theorem lt_setA {w5 w : World} {gA gB n i : Nat} {F G F' : Nat → Bool} (h : Hid (Lt w5 w gA gB n F G)) (hF : ∀ j, (if j = i then true else F j) = F' j) : Hid (Lt w5 (w.setCell ⟨gA, i, none⟩ (.bool true)) gA gB n F' G) := by
  refine Lib.hid ⟨h.out.bel.setCell h.out.ha _, h.out.ha, h.out.hb, h.out.ne, ?_, h.out.b.setOther _ _ (Ne.symm h.out.ne)⟩
  have := h.out.a.set i (.bool true)
  rw [barr_set, barr_congr hF] at this
  exact this
theorem lt_setB {w5 w : World} {gA gB n i : Nat} {F G G' : Nat → Bool} (h : Hid (Lt w5 w gA gB n F G)) (hF : ∀ j, (if j = i then true else G j) = G' j) : Hid (Lt w5 (w.setCell ⟨gB, i, none⟩ (.bool true)) gA gB n F G') := by
  refine Lib.hid ⟨h.out.bel.setCell h.out.hb _, h.out.ha, h.out.hb, h.out.ne, h.out.a.setOther _ _ h.out.ne, ?_⟩
  have := h.out.b.set i (.bool true)
  rw [barr_set, barr_congr hF] at this
  exact this
theorem lt_next {w5 w w1 : World} {gA gB n : Nat} {F G : Nat → Bool} (h : Hid (Lt w5 w gA gB n F G)) (k : Below w.heap.size w w1) : Hid (Lt w5 w1 gA gB n F G) :=
  Lib.hid ⟨below_next h.out.bel k, h.out.ha, h.out.hb, h.out.ne, h.out.a.next k, h.out.b.next k⟩
theorem lt_congr {w5 w : World} {gA gB n : Nat} {F G F' G' : Nat → Bool} (h : Hid (Lt w5 w gA gB n F G)) (hF : ∀ j, F j = F' j) (hG : ∀ j, G j = G' j) : Hid (Lt w5 w gA gB n F' G') := by
  rw [show F' = F from funext fun j => (hF j).symm, show G' = G from funext fun j => (hG j).symm]; exact h
theorem lt_make {w5 : World} {mk : World → World} {n : Nat} (h2 : ∀ w', Box (mk w') w'.heap.size (barr (fun _ => false) n) 4) (h3 : ∀ w', Below w'.heap.size w' (mk w')) :
    Hid (Lt w5 (mk (mk w5.drew)) w5.heap.size (mk w5.drew).heap.size n (fun _ => false) (fun _ => false)) := by
  have l1 := (h2 w5.drew).lt
  have b1 : Below w5.heap.size w5 (mk w5.drew) := below_next ((Below.refl _ _).drew) (h3 w5.drew)
  have l2 : w5.heap.size < (mk w5.drew).heap.size := l1
  exact Lib.hid ⟨below_next b1 (h3 _), Nat.le_refl _, Nat.le_of_lt l2, Nat.ne_of_lt l2, (h2 w5.drew).next (h3 _), h2 _⟩
theorem lt_swap {w5 w : World} {gA gB n : Nat} {F G : Nat → Bool} (h : Hid (Lt w5 w gA gB n F G)) : Hid (Lt w5 w gB gA n G F) :=
  Lib.hid ⟨h.out.bel, h.out.hb, h.out.ha, Ne.symm h.out.ne, h.out.b, h.out.a⟩
theorem lt_a {w5 w : World} {gA gB n k : Nat} {F G : Nat → Bool} (h : Hid (Lt w5 w gA gB n F G)) (hk : k < n) : w.cell? ⟨gA, k, none⟩ = some (.bool (F k)) := by
  rw [h.out.a.cell, barr_get _ _ _ hk]
theorem lt_b {w5 w : World} {gA gB n k : Nat} {F G : Nat → Bool} (h : Hid (Lt w5 w gA gB n F G)) (hk : k < n) : w.cell? ⟨gB, k, none⟩ = some (.bool (G k)) := by
  rw [h.out.b.cell, barr_get _ _ _ hk]
theorem grown_below' {w w' : World} (g : w.grownBy w' none) : Below w.heap.size w w' := ⟨g.os, g.tape, g.output, g.size, fun i hi => g.block i hi (by simp)⟩
theorem ln_below {w0 w w1 : World} {b : Nat} {p : PowC} {x : X5} {n0 n1 : Int} (h : Hid (Ln w0 w b p x n0 n1)) (k : Below w.heap.size w w1) : Hid (Ln w0 w1 b p x n0 n1) := ln_next h k
theorem stays_iff {p : PowC} {x : X5} {n0 n1 : Int} (may : MayP p x) (h : n0 ≤ n1) : (∀ j, j ∈ alwL p x n0 → j ∈ alwL p x n1) ∧ (∀ j k, j < k → k < p.ln → (j : Int) ≠ x.lv → (k : Int) ≠ x.lv → j ∈ alwL p x n0 → k ∈ alwL p x n0) := by
  refine ⟨fun j hj => ?_, fun j k hjk hk h1 h2 hj => ?_⟩
  · have := alwL_iff.1 hj
    exact alwL_iff.2 ⟨may, this.2.1, by omega⟩
  · have := alwL_iff.1 hj
    have e := endP_anti may (show j ≤ k by omega) hk h1 h2
    exact alwL_iff.2 ⟨may, hk, by omega⟩

set_option maxRecDepth 100000 in
set_option maxHeartbeats 8000000 in
theorem stays_x (p : PowC) (x : X5) (n0 n1 : Int) (w : World) (ok : p.Ok w) :
    Calls Try.prog 4 #[.agg #[.slice p.la p.ln p.lc, .slice p.na p.nn p.nc, .int .i64 p.sw, .int .i64 p.id, .int .i64 p.ch, .int .i64 p.qu, .int .i64 p.sl, .int .i64 p.pp], .agg #[.int .i64 x.now, .int .i64 x.base, .int .i64 x.dn, .int .i64 x.lv, .int .i64 x.lf], .agg #[.int .i64 n0, .int .i64 n1]] w fun e w' => e = .returned (.bool true) ∧ Below w.heap.size w w' := by
  have F := Lib.hid (fun w' ok b hb => few_any p w' ok b hb)
  have S := ln_in (x := x) (n0 := n0) (n1 := n1) w ok
  have bc := S.out.pb.cell
  have bx := S.out.xb.cell
  have bn := S.out.nb.cell
  by_cases hf : p.ln ≤ 100 ∧ p.nn ≤ 100
  · have h100 := hf.1
    have hf : decide (p.ln ≤ 100 ∧ p.nn ≤ 100) = true := by simpa using hf
    by_cases may : MayP p x
    · have hmay : decide (MayP p x) = true := by simpa using may
      have M := Lib.hid (fun w' ok => mayr_any p x w' ok true (Lib.hid hmay))
      by_cases hn : n1 < n0
      · skip
        go_enter Try.func4, Try.ntmps4
        go_wp2_with fail
        generalize ((w.alloc (.cells #[.slice p.la p.ln p.lc, .slice p.na p.nn p.nc, .int .i64 p.sw, .int .i64 p.id, .int .i64 p.ch, .int .i64 p.qu, .int .i64 p.sl, .int .i64 p.pp] 25)).alloc (.cells #[.int .i64 x.now, .int .i64 x.base, .int .i64 x.dn, .int .i64 x.lv, .int .i64 x.lf] 27)).alloc (.cells #[.int .i64 n0, .int .i64 n1] 28) = W at S bc bx bn ⊢
        refine (F.out _ S.out.ok true (Lib.hid hf)).mono ?_
        rintro e1 w2 ⟨rfl, hb2⟩
        have S := ln_next S hb2
        clear hb2 bc bx bn
        have bc := S.out.pb.cell
        have bx := S.out.xb.cell
        have bn := S.out.nb.cell
        go_wp2_with fail
        refine (M.out _ S.out.ok).mono ?_
        rintro e1 w2 ⟨rfl, hb2⟩
        have S := ln_next S hb2
        clear hb2 bc bx bn
        have bc := S.out.pb.cell
        have bx := S.out.xb.cell
        have bn := S.out.nb.cell
        go_wp2_with fail
        refine (works_any _).mono ?_
        rintro e1 w2 ⟨rfl, hb2⟩
        have S := ln_next S hb2
        clear hb2
        go_wp2_with fail
        go_ret
        exact ⟨rfl, S.out.bel⟩
      · have hn : n0 ≤ n1 := by omega
        have st := stays_iff may hn
        have hlv0 : 0 ≤ x.lv := may.2.1
        have hlv1 : x.lv < p.ln := may.2.2.1
        obtain ⟨m, hm⟩ := Int.eq_ofNat_of_zero_le hlv0
        have hmn : m < p.ln := by omega
        obtain ⟨ey, hey⟩ : ∃ ey, endP p x m = ey := ⟨_, rfl⟩
        have heR : endR p x x.lv = (ey, 0) := by
          unfold endR; rw [if_pos ⟨may, hlv0, hlv1⟩, hm, Int.toNat_natCast, hey]
        have hown : decide (m ∈ alwL p x n0) = decide (ey ≤ n0) := by
          rw [decide_eq_decide, alwL_iff, hey]
          exact ⟨fun h => h.2.2, fun h => ⟨may, hmn, h⟩⟩
        have hlt : ∀ e i, i < (alwL p x e).length → (alwL p x e).getD i 0 < p.ln := fun e i hi => (alwL_get hi).2.1
        have hlen : ∀ e, (alwL p x e).length ≤ p.ln := alwL_len p x
        have OWN := fun e v B w' (h : World.ownsRow w' B 3 1 v (alwL p x e).length (encL (alwL p x e))) => alwL_own (Lib.hid rfl) h100 h
        have C1 := fun w' ok e => Allowed_any p x e w' ok h100 _ (Lib.hid rfl)
        have C2 := fun w' ok => End_any p x x.lv w' ok _ (Lib.hid heR)
        dsimp only at C2
        clear may hmay hey heR
        obtain ⟨Lf, hLf⟩ : ∃ Lf : Int → List Nat, ∀ e, alwL p x e = Lf e := ⟨_, fun _ => rfl⟩
        simp only [hLf] at st hown hlt hlen OWN C1
        clear hLf
        have C1 := Lib.hid C1
        have C2 := Lib.hid C2
        have OWN := Lib.hid OWN
        have st := Lib.hid st
        have hown := Lib.hid hown
        have hlt := Lib.hid hlt
        have hlen := Lib.hid hlen
        have hM := Lib.hid hm
        clear hm
        obtain ⟨mk, hmk⟩ := Classical.axiomOfChoice (fun w' => make_bools w' p.ln (by omega))
        have hmk1 := Lib.hid (fun w' => (hmk w').1)
        have hmk2 := Lib.hid (fun w' => own_box (hmk w').2.1)
        have hmk3 := Lib.hid (fun w' => grown_below' (hmk w').2.2)
        clear hmk
        go_enter Try.func4, Try.ntmps4
        go_wp2_with fail
        generalize ((w.alloc (.cells #[.slice p.la p.ln p.lc, .slice p.na p.nn p.nc, .int .i64 p.sw, .int .i64 p.id, .int .i64 p.ch, .int .i64 p.qu, .int .i64 p.sl, .int .i64 p.pp] 25)).alloc (.cells #[.int .i64 x.now, .int .i64 x.base, .int .i64 x.dn, .int .i64 x.lv, .int .i64 x.lf] 27)).alloc (.cells #[.int .i64 n0, .int .i64 n1] 28) = W at S bc bx bn ⊢
        refine (F.out _ S.out.ok true (Lib.hid hf)).mono ?_
        rintro e1 w2 ⟨rfl, hb2⟩
        have S := ln_next S hb2
        clear hb2 bc bx bn
        have bc := S.out.pb.cell
        have bx := S.out.xb.cell
        have bn := S.out.nb.cell
        go_wp2_with fail
        refine (M.out _ S.out.ok).mono ?_
        rintro e1 w2 ⟨rfl, hb2⟩
        have S := ln_next S hb2
        clear hb2 bc bx bn
        have bc := S.out.pb.cell
        have bx := S.out.xb.cell
        have bn := S.out.nb.cell
        go_upto_region 3 with fail
        go_cut [7, 8] (fun l m wc => ∃ a1 c1 a2 c2, l = .slice a1 (Lf n0).length c1 ∧ m = .slice a2 (Lf n1).length c2 ∧ Hid (Ln w wc w.heap.size p x n0 n1) ∧ Hid (Open.RowsIn wc a1 (Lf n0).length 1 (fun i _ => (((Lf n0).getD i 0 : Nat) : Int))) ∧ Hid (Open.RowsIn wc a2 (Lf n1).length 1 (fun i _ => (((Lf n1).getD i 0 : Nat) : Int))))
        case first =>
          go_wp2_with fail
          have S := ln_drew S
          clear bc bx bn
          have bc := S.out.pb.cell
          have bx := S.out.xb.cell
          have bn := S.out.nb.cell
          go_region_held3 (fun w' => (∀ i, w'.cell? ⟨w.heap.size, i, none⟩ = (#[.slice p.la p.ln p.lc, .slice p.na p.nn p.nc, .int .i64 p.sw, .int .i64 p.id, .int .i64 p.ch, .int .i64 p.qu, .int .i64 p.sl, .int .i64 p.pp] : Array Value)[i]?) ∧ (∀ i, w'.cell? ⟨w.heap.size + 1, i, none⟩ = (#[.int .i64 x.now, .int .i64 x.base, .int .i64 x.dn, .int .i64 x.lv, .int .i64 x.lf] : Array Value)[i]?) ∧ (∀ i, w'.cell? ⟨w.heap.size + 1 + 1, i, none⟩ = (#[.int .i64 n0, .int .i64 n1] : Array Value)[i]?) ∧ Hid (Ln w w' w.heap.size p x n0 n1))
            (first | exact ⟨S5.out.pb.cell, S5.out.xb.cell, S5.out.nb.cell, S5⟩ | exact ⟨bc, bx, bn, S⟩)
            (first
              | (go_at_call 15; go_split_ands; rename_i hS; refine (of_any x _).mono ?_; rintro e1 w5 ⟨rfl, hb5⟩; have S5 := ln_next hS hb5; (try have R1 := rows_next R1 hb5); (try have R2 := rows_next R2 hb5); clear hb5)
              | (go_at_call 14; go_split_ands; rename_i hS; refine (C1.out _ (by exact hS.out.ok) _).mono ?_; rintro e1 w5 ⟨v1, rfl, own1, hb5⟩; have S5 := ln_next hS hb5; (try have R1 := rows_next R1 hb5); (try have R2 := rows_next R2 hb5); clear hb5; (try have R2 := R1); obtain ⟨a1, cp1, rfl, R1⟩ := OWN.out _ _ _ _ own1; clear own1))
          all_goals
            go_wp2_with fail
            go_meet
            first
              | exact ⟨_, _, _, _, rfl, rfl, S5, R1, R2⟩
              | exact ⟨_, _, _, _, rfl, rfl, S5, R2, R1⟩
        case rest =>
          clear S bc bx bn
          obtain ⟨a1, cp1, a2, cp2, rfl, rfl, S, R1, R2⟩ := hcut
          have bc := S.out.pb.cell
          have bx := S.out.xb.cell
          have bn := S.out.nb.cell
          obtain ⟨w6, rfl⟩ : ∃ w6, w6 = wc := ⟨_, rfl⟩
          go_upto_region 4 with fail
          go_cut [9, 10] (fun u v wd => ∃ gA gB, u = .slice (some ⟨gA, 0, none⟩) p.ln p.ln ∧ v = .slice (some ⟨gB, 0, none⟩) p.ln p.ln ∧ Hid (Lt w6 wd gA gB p.ln (fun _ => false) (fun _ => false)))
          case first =>
            go_wp2_with fail
            have hmk1 := hmk1.out
            have S := ln_drew S
            clear bc bx bn
            have bc := S.out.pb.cell
            have bx := S.out.xb.cell
            have bn := S.out.nb.cell
            have S1 := ln_next S (hmk3.out _)
            have S2 := ln_next S1 (hmk3.out _)
            go_region_held3 (fun w' => (∀ i, w'.cell? ⟨w.heap.size, i, none⟩ = (#[.slice p.la p.ln p.lc, .slice p.na p.nn p.nc, .int .i64 p.sw, .int .i64 p.id, .int .i64 p.ch, .int .i64 p.qu, .int .i64 p.sl, .int .i64 p.pp] : Array Value)[i]?) ∧ (∀ i, w'.cell? ⟨w.heap.size + 1, i, none⟩ = (#[.int .i64 x.now, .int .i64 x.base, .int .i64 x.dn, .int .i64 x.lv, .int .i64 x.lf] : Array Value)[i]?) ∧ (∀ i, w'.cell? ⟨w.heap.size + 1 + 1, i, none⟩ = (#[.int .i64 n0, .int .i64 n1] : Array Value)[i]?) ∧ Hid (Ln w w' w.heap.size p x n0 n1))
              (first | exact ⟨bc, bx, bn, S⟩ | exact ⟨S1.out.pb.cell, S1.out.xb.cell, S1.out.nb.cell, S1⟩ | exact ⟨S2.out.pb.cell, S2.out.xb.cell, S2.out.nb.cell, S2⟩)
              (fail)
            all_goals
              go_wp2_with fail
              go_meet
              first
                | exact ⟨_, _, rfl, rfl, lt_make hmk2.out hmk3.out⟩
                | exact ⟨_, _, rfl, rfl, lt_swap (lt_make hmk2.out hmk3.out)⟩
          case rest =>
            clear hmk1 hmk2 hmk3 mk C1 OWN
            clear bc bx bn
            have hl0 := hlen.out n0
            have hl1 := hlen.out n1
            obtain ⟨gA, gB, rfl, rfl, T⟩ := hcut
            have T := lt_congr T (fun j => (isin_0 (Lf n0) j).symm) (fun j => (isin_0 (Lf n1) j).symm)
            go_wp2_with fail
            go_loopw [11] (fun i wr => ∃ k : Nat, k ≤ (Lf n0).length ∧ i = .int .i64 k ∧ Hid (Lt w6 wr gA gB p.ln (isin (Lf n0) k) (isin (Lf n1) 0))) (fun i _ => (Lf n0).length - (intOf i).toNat)
            case atStart => exact ⟨0, by omega, rfl, T⟩
            case round =>
              clear T
              obtain ⟨k, hk, rfl, T⟩ := hrel
              by_cases hl : k < (Lf n0).length
              · have hy := hlt.out n0 k hl
                obtain ⟨b, off, rfl, hbl, c0, -⟩ := rows_at1 R1 k hl
                have st1 := Lib.hid (fun j => isin_step hl j)
                obtain ⟨y, ey⟩ : ∃ y, (Lf n0).getD k 0 = y := ⟨_, rfl⟩
                have c0 := keep T.out.bel c0 hbl
                rw [ey] at c0 hy st1
                clear ey
                have ca := lt_a T hy
                have fa := T.out.a.frozen y
                go_wp2_with fail
                go_roundw
                case rel => exact ⟨k + 1, by omega, by go_num, lt_setA T st1.out⟩
                case measure => simp [intOf]; omega
              · obtain rfl : k = (Lf n0).length := by omega
                clear hl hk R1
                go_wp2_with fail
                go_loopw [12] (fun i wr => ∃ k : Nat, k ≤ (Lf n1).length ∧ i = .int .i64 k ∧ Hid (Lt w6 wr gA gB p.ln (isin (Lf n0) (Lf n0).length) (isin (Lf n1) k))) (fun i _ => (Lf n1).length - (intOf i).toNat)
                case atStart => exact ⟨0, by omega, rfl, T⟩
                case round =>
                  clear T
                  obtain ⟨k, hk, rfl, T⟩ := hrel
                  by_cases hl : k < (Lf n1).length
                  · have hy := hlt.out n1 k hl
                    obtain ⟨b, off, rfl, hbl, c0, -⟩ := rows_at1 R2 k hl
                    have st1 := Lib.hid (fun j => isin_step hl j)
                    obtain ⟨y, ey⟩ : ∃ y, (Lf n1).getD k 0 = y := ⟨_, rfl⟩
                    have c0 := keep T.out.bel c0 hbl
                    rw [ey] at c0 hy st1
                    clear ey
                    have ca := lt_b T hy
                    have fa := T.out.b.frozen y
                    go_wp2_with fail
                    go_roundw
                    case rel => exact ⟨k + 1, by omega, by go_num, lt_setB T st1.out⟩
                    case measure => simp [intOf]; omega
                  · obtain rfl : k = (Lf n1).length := by omega
                    clear hl hk R2
                    have S := ln_next S T.out.bel
                    have bc := S.out.pb.cell
                    have bx := S.out.xb.cell
                    have bn := S.out.nb.cell
                    have H1 := st.out.1
                    have H2 := st.out.2
                    have H3 := hown.out
                    rw [hM.out] at H2
                    have eA := isin_end (Lf n0)
                    have eB := isin_end (Lf n1)
                    have H1 : ∀ j, isin (Lf n0) (Lf n0).length j = true → isin (Lf n1) (Lf n1).length j = true := fun j h => by
                      rw [eA, decide_eq_true_iff] at h
                      rw [eB, decide_eq_true_iff]
                      exact H1 j h
                    have H2 : ∀ j k, j < k → k < p.ln → j ≠ m → k ≠ m → isin (Lf n0) (Lf n0).length j = true → isin (Lf n0) (Lf n0).length k = true := fun j k a b c d h => by
                      rw [eA, decide_eq_true_iff] at h ⊢
                      exact H2 j k a b (by omega) (by omega) h
                    rw [← eA] at H3
                    generalize isin (Lf n0) (Lf n0).length = al at *
                    generalize isin (Lf n1) (Lf n1).length = be at *
                    have H1 := Lib.hid H1
                    have H2 := Lib.hid H2
                    have H3 := Lib.hid H3
                    clear eA eB
                    go_wp2_with fail
                    have T := lt_next T (Below.refl _ _).drew
                    have S := ln_drew S
                    clear bc bx bn
                    have bc := S.out.pb.cell
                    have bx := S.out.xb.cell
                    have bn := S.out.nb.cell
                    go_region_held3 (fun w' => (∀ i, w'.cell? ⟨w.heap.size, i, none⟩ = (#[.slice p.la p.ln p.lc, .slice p.na p.nn p.nc, .int .i64 p.sw, .int .i64 p.id, .int .i64 p.ch, .int .i64 p.qu, .int .i64 p.sl, .int .i64 p.pp] : Array Value)[i]?) ∧ (∀ i, w'.cell? ⟨w.heap.size + 1, i, none⟩ = (#[.int .i64 x.now, .int .i64 x.base, .int .i64 x.dn, .int .i64 x.lv, .int .i64 x.lf] : Array Value)[i]?) ∧ (∀ i, w'.cell? ⟨w.heap.size + 1 + 1, i, none⟩ = (#[.int .i64 n0, .int .i64 n1] : Array Value)[i]?) ∧ Hid (Ln w w' w.heap.size p x n0 n1))
                      (first | exact ⟨S5.out.pb.cell, S5.out.xb.cell, S5.out.nb.cell, S5⟩ | exact ⟨bc, bx, bn, S⟩)
                      (first
                        | (go_at_call 15; go_split_ands; rename_i hS; refine (of_any x _).mono ?_; rintro e1 w5 ⟨rfl, hb5⟩; have T := lt_next T hb5; have S5 := ln_next hS hb5; (try have R1 := rows_next R1 hb5); (try have R2 := rows_next R2 hb5); clear hb5)
                        | (go_at_call 22; go_split_ands; rename_i hS; refine (C2.out _ (by exact hS.out.ok)).mono ?_; rintro e1 w5 ⟨rfl, hb5⟩; have T := lt_next T hb5; have S5 := ln_next hS hb5; (try have R1 := rows_next R1 hb5); (try have R2 := rows_next R2 hb5); clear hb5))
                    have S := S5
                    clear S5 bc bx bn
                    have bc := S.out.pb.cell
                    have bx := S.out.xb.cell
                    have bn := S.out.nb.cell
                    go_wp2_with fail
                    have T := lt_next T (Below.refl _ _).drew
                    have S := ln_drew S
                    clear bc bx bn
                    have bc := S.out.pb.cell
                    have bx := S.out.xb.cell
                    have bn := S.out.nb.cell
                    have cA := lt_a T hmn
                    rw [H3.out] at cA
                    rw [hM.out] at bx
                    go_region_held3 (fun w' => (∀ i, w'.cell? ⟨w.heap.size + 1, i, none⟩ = (#[.int .i64 x.now, .int .i64 x.base, .int .i64 x.dn, .int .i64 (m : Int), .int .i64 x.lf] : Array Value)[i]?) ∧ (∀ i, w'.cell? ⟨w.heap.size + 1 + 1, i, none⟩ = (#[.int .i64 n0, .int .i64 n1] : Array Value)[i]?) ∧ w'.cell? ⟨gA, m, none⟩ = some (.bool (decide (ey ≤ n0))))
                      (exact ⟨bx, bn, cA⟩)
                      (fail)
                    go_wp2_with fail
                    have cA := Lib.hid (fun k (hk : k < p.ln) => lt_a T hk)
                    have cB := Lib.hid (fun k (hk : k < p.ln) => lt_b T hk)
                    go_loop [15] (fun i => ∃ k : Nat, k ≤ p.ln ∧ i = .int .i64 k) (fun i => p.ln - (intOf i).toNat)
                    case atStart => exact ⟨0, by omega, rfl⟩
                    case round =>
                      obtain ⟨k, hk, rfl⟩ := hrel
                      by_cases hl : k < p.ln
                      · have ck := cA.out k hl
                        have dk := cB.out k hl
                        have h1 := H1.out k
                        have h2 := Lib.hid (fun j (hj : j < k) => H2.out j k hj hl)
                        cases hak : al k
                        · rw [hak] at ck
                          clear h1
                          rw [hak] at h2
                          clear hak
                          go_wp2_with fail
                          go_loop [16] (fun i => ∃ j : Nat, j ≤ k ∧ i = .int .i64 j) (fun i => k - (intOf i).toNat)
                          case atStart => exact ⟨0, by omega, rfl⟩
                          case round =>
                            obtain ⟨j, hj, rfl⟩ := hrel
                            by_cases hjk : j < k
                            · have cj := cA.out j (by omega)
                              cases haj : al j
                              · rw [haj] at cj
                                clear haj
                                go_wp2_with fail
                                go_round
                                case rel => exact ⟨j + 1, by omega, by go_num⟩
                                case measure => simp [intOf]; omega
                              · rw [haj] at cj
                                have h3 := h2.out j hjk
                                rw [haj] at h3
                                clear haj
                                by_cases e1 : j = m
                                · subst e1
                                  clear h3
                                  go_wp2_with fail
                                  go_round
                                  case rel => exact ⟨j + 1, by omega, by go_num⟩
                                  case measure => simp [intOf]; omega
                                · by_cases e2 : k = m
                                  · subst e2
                                    clear h3
                                    have e1 : ((j : Int) != (k : Int)) = true := by rw [bne_iff_ne]; omega
                                    go_wp2_with fail
                                    go_round
                                    case rel => exact ⟨j + 1, by omega, by go_num⟩
                                    case measure => simp [intOf]; omega
                                  · have h4 := h3 e1 e2 rfl
                                    first
                                      | exact absurd h4 (by decide)
                                      | (clear h3 h4 e1 e2
                                         go_wp2_with fail
                                         go_round
                                         case rel => exact ⟨j + 1, by omega, by go_num⟩
                                         case measure => simp [intOf]; omega
                                        )
                            · obtain rfl : j = k := by omega
                              go_wp2_with fail
                              go_round
                              case rel => exact ⟨j + 1, by omega, by go_num⟩
                              case measure => simp [intOf]; omega
                        · rw [hak] at ck
                          rw [h1 hak] at dk
                          clear h1
                          rw [hak] at h2
                          clear hak
                          go_wp2_with fail
                          go_loop [16] (fun i => ∃ j : Nat, j ≤ k ∧ i = .int .i64 j) (fun i => k - (intOf i).toNat)
                          case atStart => exact ⟨0, by omega, rfl⟩
                          case round =>
                            obtain ⟨j, hj, rfl⟩ := hrel
                            by_cases hjk : j < k
                            · have cj := cA.out j (by omega)
                              cases haj : al j
                              · rw [haj] at cj
                                clear haj
                                go_wp2_with fail
                                go_round
                                case rel => exact ⟨j + 1, by omega, by go_num⟩
                                case measure => simp [intOf]; omega
                              · rw [haj] at cj
                                have h3 := h2.out j hjk
                                rw [haj] at h3
                                clear haj
                                by_cases e1 : j = m
                                · subst e1
                                  clear h3
                                  go_wp2_with fail
                                  go_round
                                  case rel => exact ⟨j + 1, by omega, by go_num⟩
                                  case measure => simp [intOf]; omega
                                · by_cases e2 : k = m
                                  · subst e2
                                    clear h3
                                    have e1 : ((j : Int) != (k : Int)) = true := by rw [bne_iff_ne]; omega
                                    go_wp2_with fail
                                    go_round
                                    case rel => exact ⟨j + 1, by omega, by go_num⟩
                                    case measure => simp [intOf]; omega
                                  · have h4 := h3 e1 e2 rfl
                                    first
                                      | exact absurd h4 (by decide)
                                      | (clear h3 h4 e1 e2
                                         go_wp2_with fail
                                         go_round
                                         case rel => exact ⟨j + 1, by omega, by go_num⟩
                                         case measure => simp [intOf]; omega
                                        )
                            · obtain rfl : j = k := by omega
                              go_wp2_with fail
                              go_round
                              case rel => exact ⟨j + 1, by omega, by go_num⟩
                              case measure => simp [intOf]; omega
                      · obtain rfl : k = p.ln := by omega
                        go_wp2_with fail
                        refine (works_any _).mono ?_
                        rintro e1 w2 ⟨rfl, hb2⟩
                        have S := ln_next S hb2
                        clear hb2
                        go_wp2_with fail
                        go_ret
                        exact ⟨rfl, S.out.bel⟩
    · have hmay : decide (MayP p x) = false := by simpa using may
      have M := Lib.hid (fun w' ok => mayr_any p x w' ok false (Lib.hid hmay))
      go_enter Try.func4, Try.ntmps4
      go_wp2_with fail
      generalize ((w.alloc (.cells #[.slice p.la p.ln p.lc, .slice p.na p.nn p.nc, .int .i64 p.sw, .int .i64 p.id, .int .i64 p.ch, .int .i64 p.qu, .int .i64 p.sl, .int .i64 p.pp] 25)).alloc (.cells #[.int .i64 x.now, .int .i64 x.base, .int .i64 x.dn, .int .i64 x.lv, .int .i64 x.lf] 27)).alloc (.cells #[.int .i64 n0, .int .i64 n1] 28) = W at S bc bx bn ⊢
      refine (F.out _ S.out.ok true (Lib.hid hf)).mono ?_
      rintro e1 w2 ⟨rfl, hb2⟩
      have S := ln_next S hb2
      clear hb2 bc bx bn
      have bc := S.out.pb.cell
      have bx := S.out.xb.cell
      have bn := S.out.nb.cell
      go_wp2_with fail
      refine (M.out _ S.out.ok).mono ?_
      rintro e1 w2 ⟨rfl, hb2⟩
      have S := ln_next S hb2
      clear hb2 bc bx bn
      have bc := S.out.pb.cell
      have bx := S.out.xb.cell
      have bn := S.out.nb.cell
      go_wp2_with fail
      refine (works_any _).mono ?_
      rintro e1 w2 ⟨rfl, hb2⟩
      have S := ln_next S hb2
      clear hb2
      go_wp2_with fail
      go_ret
      exact ⟨rfl, S.out.bel⟩
  · have hf : decide (p.ln ≤ 100 ∧ p.nn ≤ 100) = false := by simpa using hf
    go_enter Try.func4, Try.ntmps4
    go_wp2_with fail
    generalize ((w.alloc (.cells #[.slice p.la p.ln p.lc, .slice p.na p.nn p.nc, .int .i64 p.sw, .int .i64 p.id, .int .i64 p.ch, .int .i64 p.qu, .int .i64 p.sl, .int .i64 p.pp] 25)).alloc (.cells #[.int .i64 x.now, .int .i64 x.base, .int .i64 x.dn, .int .i64 x.lv, .int .i64 x.lf] 27)).alloc (.cells #[.int .i64 n0, .int .i64 n1] 28) = W at S bc bx bn ⊢
    refine (F.out _ S.out.ok false (Lib.hid hf)).mono ?_
    rintro e1 w2 ⟨rfl, hb2⟩
    have S := ln_next S hb2
    clear hb2 bc bx bn
    have bc := S.out.pb.cell
    have bx := S.out.xb.cell
    have bn := S.out.nb.cell
    go_wp2_with fail
    refine (works_any _).mono ?_
    rintro e1 w2 ⟨rfl, hb2⟩
    have S := ln_next S hb2
    clear hb2
    go_wp2_with fail
    go_ret
    exact ⟨rfl, S.out.bel⟩
theorem stays_law (p : PowC) (x0 x1 x2 x3 x4 n0 n1 : Int) (w : World) (ok : p.Ok w) (i0 : I64 x0) (i1 : I64 x1) (i2 : I64 x2) (i3 : I64 x3) (i4 : I64 x4) (h0 : I64 n0) (h1 : I64 n1) :
    Calls Try.prog 4 #[.agg #[.slice p.la p.ln p.lc, .slice p.na p.nn p.nc, .int .i64 p.sw, .int .i64 p.id, .int .i64 p.ch, .int .i64 p.qu, .int .i64 p.sl, .int .i64 p.pp], .agg #[.int .i64 x0, .int .i64 x1, .int .i64 x2, .int .i64 x3, .int .i64 x4], .agg #[.int .i64 n0, .int .i64 n1]] w fun e w' => e = .returned (.bool true) ∧ Below w.heap.size w w' :=
  stays_x p ⟨x0, x1, x2, x3, x4⟩ n0 n1 w ok
end Go.Proofs.Ytigknchcjlieoaa.LvlS

/- Package level's laws: LevelPicks, LevelEnough. -/
import Derived.Test.YtigknchcjlieoaaLvlQ
namespace Go.Proofs.Ytigknchcjlieoaa.LvlR
open Go.RowKit Go.Shelf Base Kit Conf PowA PowB PowC PowR WideB Alt RefA LvlA LvlB LvlC LvlD LvlE LvlF LvlG LvlH LvlI LvlJ LvlK LvlM LvlN LvlP LvlQ
set_option linter.unusedVariables false
set_option linter.unusedSimpArgs false

/-- a law's world: its three boxes -/
structure Ln (w0 w : World) (b : Nat) (p : PowC) (x : X5) (n0 n1 : Int) : Prop where
  bel : Below w0.heap.size w0 w
  ok : p.Ok w
  pb : Box w b #[.slice p.la p.ln p.lc, .slice p.na p.nn p.nc, .int .i64 p.sw, .int .i64 p.id, .int .i64 p.ch, .int .i64 p.qu, .int .i64 p.sl, .int .i64 p.pp] 25
  xb : Box w (b + 1) #[.int .i64 x.now, .int .i64 x.base, .int .i64 x.dn, .int .i64 x.lv, .int .i64 x.lf] 27
  nb : Box w (b + 1 + 1) #[.int .i64 n0, .int .i64 n1] 28
theorem ln_next {w0 w w1 : World} {b : Nat} {p : PowC} {x : X5} {n0 n1 : Int} (h : Hid (Ln w0 w b p x n0 n1)) (k : Below w.heap.size w w1) : Hid (Ln w0 w1 b p x n0 n1) :=
  Lib.hid ⟨below_next h.out.bel k, h.out.ok.below k (Nat.le_refl _), h.out.pb.next k, h.out.xb.next k, h.out.nb.next k⟩
theorem ln_drew {w0 w : World} {b : Nat} {p : PowC} {x : X5} {n0 n1 : Int} (h : Hid (Ln w0 w b p x n0 n1)) : Hid (Ln w0 w.drew b p x n0 n1) := ln_next h (Below.refl _ _).drew
theorem ln_in {p : PowC} {x : X5} {n0 n1 : Int} (w : World) (ok : p.Ok w) : Hid (Ln w (((w.alloc (.cells #[.slice p.la p.ln p.lc, .slice p.na p.nn p.nc, .int .i64 p.sw, .int .i64 p.id, .int .i64 p.ch, .int .i64 p.qu, .int .i64 p.sl, .int .i64 p.pp] 25)).alloc (.cells #[.int .i64 x.now, .int .i64 x.base, .int .i64 x.dn, .int .i64 x.lv, .int .i64 x.lf] 27)).alloc (.cells #[.int .i64 n0, .int .i64 n1] 28)) w.heap.size p x n0 n1) := by
  have b1 := (Box.new (w.alloc (.cells #[.slice p.la p.ln p.lc, .slice p.na p.nn p.nc, .int .i64 p.sw, .int .i64 p.id, .int .i64 p.ch, .int .i64 p.qu, .int .i64 p.sl, .int .i64 p.pp] 25)) #[.int .i64 x.now, .int .i64 x.base, .int .i64 x.dn, .int .i64 x.lv, .int .i64 x.lf] 27).alloc (.cells #[.int .i64 n0, .int .i64 n1] 28)
  have b2 := Box.new ((w.alloc (.cells #[.slice p.la p.ln p.lc, .slice p.na p.nn p.nc, .int .i64 p.sw, .int .i64 p.id, .int .i64 p.ch, .int .i64 p.qu, .int .i64 p.sl, .int .i64 p.pp] 25)).alloc (.cells #[.int .i64 x.now, .int .i64 x.base, .int .i64 x.dn, .int .i64 x.lv, .int .i64 x.lf] 27)) #[.int .i64 n0, .int .i64 n1] 28
  rw [World.size_alloc] at b1
  rw [World.size_alloc, World.size_alloc] at b2
  have hb : Below w.heap.size w (((w.alloc (.cells #[.slice p.la p.ln p.lc, .slice p.na p.nn p.nc, .int .i64 p.sw, .int .i64 p.id, .int .i64 p.ch, .int .i64 p.qu, .int .i64 p.sl, .int .i64 p.pp] 25)).alloc (.cells #[.int .i64 x.now, .int .i64 x.base, .int .i64 x.dn, .int .i64 x.lv, .int .i64 x.lf] 27)).alloc (.cells #[.int .i64 n0, .int .i64 n1] 28)) := (((Below.refl _ _).alloc (Nat.le_refl _) _).alloc (by simp) _).alloc (by simp; omega) _
  exact Lib.hid ⟨hb, ok.below hb (Nat.le_refl _), ((Box.new _ _ _).alloc _).alloc _, b1, b2⟩
theorem alwL_own {w : World} {B : Nat} {p : PowC} {x : X5} {e : Int} {v : Value} {L : List Nat} (hL : Hid (alwL p x e = L)) (h100 : p.ln ≤ 100) (hown : w.ownsRow B 3 1 v L.length (encL L)) :
    ∃ a cap, v = .slice a L.length cap ∧ Hid (Open.RowsIn w a L.length 1 (fun i _ => ((L.getD i 0 : Nat) : Int))) := by
  have := alwL_len p x e
  rw [hL.out] at this
  refine own_rows hown (by omega) (fun i hi => ?_)
  rw [← hL.out] at hi ⊢
  have := (alwL_get hi).2.1
  omega

set_option maxRecDepth 100000 in
set_option maxHeartbeats 8000000 in
theorem picks_x (p : PowC) (x : X5) (n0 n1 : Int) (w : World) (ok : p.Ok w) (hn1 : I64 n1) :
    Calls Try.prog 3 #[.agg #[.slice p.la p.ln p.lc, .slice p.na p.nn p.nc, .int .i64 p.sw, .int .i64 p.id, .int .i64 p.ch, .int .i64 p.qu, .int .i64 p.sl, .int .i64 p.pp], .agg #[.int .i64 x.now, .int .i64 x.base, .int .i64 x.dn, .int .i64 x.lv, .int .i64 x.lf], .agg #[.int .i64 n0, .int .i64 n1]] w fun e w' => e = .returned (.bool true) ∧ Below w.heap.size w w' := by
  have F := Lib.hid (fun w' ok b hb => few_any p w' ok b hb)
  have S := ln_in (x := x) (n0 := n0) (n1 := n1) w ok
  have bc := S.out.pb.cell
  have bx := S.out.xb.cell
  have bn := S.out.nb.cell
  by_cases hf : p.ln ≤ 100 ∧ p.nn ≤ 100
  · have h100 := hf.1
    have hf : decide (p.ln ≤ 100 ∧ p.nn ≤ 100) = true := by simpa using hf
    obtain ⟨L, hL⟩ : ∃ L, alwL p x n0 = L := ⟨_, rfl⟩
    obtain ⟨z, hz⟩ : ∃ z, bestR p x n0 = z := ⟨_, rfl⟩
    obtain ⟨y, hy⟩ : ∃ y, pickR p x n0 n1 = y := ⟨_, rfl⟩
    have C1 := Lib.hid (fun w' ok => Allowed_any p x n0 w' ok h100 L (Lib.hid hL))
    have C2 := Lib.hid (fun w' ok => Allowedr_any p x n0 w' ok h100 L (Lib.hid hL))
    have C3 := Lib.hid (fun w' ok => Best_any p x n0 w' ok h100 z (Lib.hid hz))
    have C4 := Lib.hid (fun w' ok => Bestr_any p x n0 w' ok h100 z (Lib.hid hz))
    have C5 := Lib.hid (fun w' ok => Pick_any p x n0 n1 hn1 w' ok h100 y (Lib.hid hy))
    have C6 := Lib.hid (fun w' ok => Pickr_any p x n0 n1 hn1 w' ok h100 y (Lib.hid hy))
    have HL := Lib.hid hL
    clear hL hz hy
    go_enter Try.func3, Try.ntmps3
    go_wp2_with fail
    generalize ((w.alloc (.cells #[.slice p.la p.ln p.lc, .slice p.na p.nn p.nc, .int .i64 p.sw, .int .i64 p.id, .int .i64 p.ch, .int .i64 p.qu, .int .i64 p.sl, .int .i64 p.pp] 25)).alloc (.cells #[.int .i64 x.now, .int .i64 x.base, .int .i64 x.dn, .int .i64 x.lv, .int .i64 x.lf] 27)).alloc (.cells #[.int .i64 n0, .int .i64 n1] 28) = W at S bc bx bn ⊢
    refine (F.out _ S.out.ok true (Lib.hid hf)).mono ?_
    rintro e1 w2 ⟨rfl, hb2⟩
    have S := ln_next S hb2
    clear hb2 bc bx bn
    have bc := S.out.pb.cell
    have bx := S.out.xb.cell
    have bn := S.out.nb.cell
    go_wp2_with fail
    have S := ln_drew S
    clear bc bx bn
    have bc := S.out.pb.cell
    have bx := S.out.xb.cell
    have bn := S.out.nb.cell
    go_region_held3 (fun w' => (∀ i, w'.cell? ⟨w.heap.size, i, none⟩ = (#[.slice p.la p.ln p.lc, .slice p.na p.nn p.nc, .int .i64 p.sw, .int .i64 p.id, .int .i64 p.ch, .int .i64 p.qu, .int .i64 p.sl, .int .i64 p.pp] : Array Value)[i]?) ∧ (∀ i, w'.cell? ⟨w.heap.size + 1, i, none⟩ = (#[.int .i64 x.now, .int .i64 x.base, .int .i64 x.dn, .int .i64 x.lv, .int .i64 x.lf] : Array Value)[i]?) ∧ (∀ i, w'.cell? ⟨w.heap.size + 1 + 1, i, none⟩ = (#[.int .i64 n0, .int .i64 n1] : Array Value)[i]?) ∧ Hid (Ln w w' w.heap.size p x n0 n1))
      (first | exact ⟨S5.out.pb.cell, S5.out.xb.cell, S5.out.nb.cell, S5⟩ | exact ⟨bc, bx, bn, S⟩)
      (first
        | (go_at_call 13; go_split_ands; rename_i hS; refine (Same.same_walk _ _ _ _ _ _ _ R1 R2).mono ?_; rintro e1 w5 ⟨rfl, hb5⟩; have S5 := ln_next hS hb5; (try have R1 := rows_next R1 hb5); (try have R2 := rows_next R2 hb5); clear hb5)
        | (go_at_call 15; go_split_ands; rename_i hS; refine (of_any x _).mono ?_; rintro e1 w5 ⟨rfl, hb5⟩; have S5 := ln_next hS hb5; (try have R1 := rows_next R1 hb5); (try have R2 := rows_next R2 hb5); clear hb5)
        | (go_at_call 14; go_split_ands; rename_i hS; refine (C1.out _ (by exact hS.out.ok)).mono ?_; rintro e1 w5 ⟨v1, rfl, own1, hb5⟩; have S5 := ln_next hS hb5; (try have R1 := rows_next R1 hb5); (try have R2 := rows_next R2 hb5); clear hb5; obtain ⟨a1, cp1, rfl, R1⟩ := alwL_own HL h100 own1; clear own1)
        | (go_at_call 16; go_split_ands; rename_i hS; refine (C2.out _ (by exact hS.out.ok)).mono ?_; rintro e1 w5 ⟨v1, rfl, own1, hb5⟩; have S5 := ln_next hS hb5; (try have R1 := rows_next R1 hb5); (try have R2 := rows_next R2 hb5); clear hb5; obtain ⟨a2, cp2, rfl, R2⟩ := alwL_own HL h100 own1; clear own1)
        | (go_at_call 17; go_split_ands; rename_i hS; refine (C3.out _ (by exact hS.out.ok)).mono ?_; rintro e1 w5 ⟨rfl, hb5⟩; have S5 := ln_next hS hb5; (try have R1 := rows_next R1 hb5); (try have R2 := rows_next R2 hb5); clear hb5)
        | (go_at_call 18; go_split_ands; rename_i hS; refine (C4.out _ (by exact hS.out.ok)).mono ?_; rintro e1 w5 ⟨rfl, hb5⟩; have S5 := ln_next hS hb5; (try have R1 := rows_next R1 hb5); (try have R2 := rows_next R2 hb5); clear hb5)
        | (go_at_call 19; go_split_ands; rename_i hS; refine (C5.out _ (by exact hS.out.ok)).mono ?_; rintro e1 w5 ⟨rfl, hb5⟩; have S5 := ln_next hS hb5; (try have R1 := rows_next R1 hb5); (try have R2 := rows_next R2 hb5); clear hb5)
        | (go_at_call 20; go_split_ands; rename_i hS; refine (C6.out _ (by exact hS.out.ok)).mono ?_; rintro e1 w5 ⟨rfl, hb5⟩; have S5 := ln_next hS hb5; (try have R1 := rows_next R1 hb5); (try have R2 := rows_next R2 hb5); clear hb5)
        | (go_at_call 12; go_split_ands; rename_i hS; refine (works_any _).mono ?_; rintro e1 w5 ⟨rfl, hb5⟩; have S5 := ln_next hS hb5; (try have R1 := rows_next R1 hb5); (try have R2 := rows_next R2 hb5); clear hb5))
    all_goals
      go_wp2_with fail
      go_ret
      exact ⟨rfl, S5.out.bel⟩
  · have hf : decide (p.ln ≤ 100 ∧ p.nn ≤ 100) = false := by simpa using hf
    go_enter Try.func3, Try.ntmps3
    go_wp2_with fail
    generalize ((w.alloc (.cells #[.slice p.la p.ln p.lc, .slice p.na p.nn p.nc, .int .i64 p.sw, .int .i64 p.id, .int .i64 p.ch, .int .i64 p.qu, .int .i64 p.sl, .int .i64 p.pp] 25)).alloc (.cells #[.int .i64 x.now, .int .i64 x.base, .int .i64 x.dn, .int .i64 x.lv, .int .i64 x.lf] 27)).alloc (.cells #[.int .i64 n0, .int .i64 n1] 28) = W at S bc bx bn ⊢
    refine (F.out _ S.out.ok false (Lib.hid hf)).mono ?_
    rintro e1 w2 ⟨rfl, hb2⟩
    have S := ln_next S hb2
    clear hb2 bc bx bn
    have bc := S.out.pb.cell
    have bx := S.out.xb.cell
    have bn := S.out.nb.cell
    go_wp2_with fail
    refine (works_any _).mono ?_
    rintro e1 w2 ⟨rfl, hb2⟩
    have S := ln_next S hb2
    clear hb2
    go_wp2_with fail
    go_ret
    exact ⟨rfl, S.out.bel⟩

set_option maxRecDepth 100000 in
set_option maxHeartbeats 8000000 in
theorem enough_x (p : PowC) (x : X5) (n0 n1 : Int) (w : World) (ok : p.Ok w) (hn1 : I64 n1) :
    Calls Try.prog 6 #[.agg #[.slice p.la p.ln p.lc, .slice p.na p.nn p.nc, .int .i64 p.sw, .int .i64 p.id, .int .i64 p.ch, .int .i64 p.qu, .int .i64 p.sl, .int .i64 p.pp], .agg #[.int .i64 x.now, .int .i64 x.base, .int .i64 x.dn, .int .i64 x.lv, .int .i64 x.lf], .agg #[.int .i64 n0, .int .i64 n1]] w fun e w' => e = .returned (.bool true) ∧ Below w.heap.size w w' := by
  have F := Lib.hid (fun w' ok b hb => few_any p w' ok b hb)
  have S := ln_in (x := x) (n0 := n0) (n1 := n1) w ok
  have bc := S.out.pb.cell
  have bx := S.out.xb.cell
  have bn := S.out.nb.cell
  by_cases hf : p.ln ≤ 100 ∧ p.nn ≤ 100
  · have h100 := hf.1
    have hf : decide (p.ln ≤ 100 ∧ p.nn ≤ 100) = true := by simpa using hf
    rcases enough (p := p) (x := x) (e := n0) (c := n1) with ⟨hy, hl⟩ | ⟨y, z, hy, hz, he, hc, hd, q1, q2, q3⟩
    · have C5 := Lib.hid (fun w' ok => Pick_any p x n0 n1 hn1 w' ok h100 _ (Lib.hid hy))
      obtain ⟨L, hL⟩ : ∃ L, alwL p x n0 = L := ⟨_, rfl⟩
      rw [hL] at hl
      have C1 := Lib.hid (fun w' ok => Allowed_any p x n0 w' ok h100 L (Lib.hid hL))
      have HL := Lib.hid hL
      clear hL hy
      go_enter Try.func6, Try.ntmps6
      go_wp2_with fail
      generalize ((w.alloc (.cells #[.slice p.la p.ln p.lc, .slice p.na p.nn p.nc, .int .i64 p.sw, .int .i64 p.id, .int .i64 p.ch, .int .i64 p.qu, .int .i64 p.sl, .int .i64 p.pp] 25)).alloc (.cells #[.int .i64 x.now, .int .i64 x.base, .int .i64 x.dn, .int .i64 x.lv, .int .i64 x.lf] 27)).alloc (.cells #[.int .i64 n0, .int .i64 n1] 28) = W at S bc bx bn ⊢
      refine (F.out _ S.out.ok true (Lib.hid hf)).mono ?_
      rintro e1 w2 ⟨rfl, hb2⟩
      have S := ln_next S hb2
      clear hb2 bc bx bn
      have bc := S.out.pb.cell
      have bx := S.out.xb.cell
      have bn := S.out.nb.cell
      go_wp2_with fail
      have S := ln_drew S
      clear bc bx bn
      have bc := S.out.pb.cell
      have bx := S.out.xb.cell
      have bn := S.out.nb.cell
      go_region_held3 (fun w' => (∀ i, w'.cell? ⟨w.heap.size, i, none⟩ = (#[.slice p.la p.ln p.lc, .slice p.na p.nn p.nc, .int .i64 p.sw, .int .i64 p.id, .int .i64 p.ch, .int .i64 p.qu, .int .i64 p.sl, .int .i64 p.pp] : Array Value)[i]?) ∧ (∀ i, w'.cell? ⟨w.heap.size + 1, i, none⟩ = (#[.int .i64 x.now, .int .i64 x.base, .int .i64 x.dn, .int .i64 x.lv, .int .i64 x.lf] : Array Value)[i]?) ∧ (∀ i, w'.cell? ⟨w.heap.size + 1 + 1, i, none⟩ = (#[.int .i64 n0, .int .i64 n1] : Array Value)[i]?) ∧ Hid (Ln w w' w.heap.size p x n0 n1))
        (first | exact ⟨S5.out.pb.cell, S5.out.xb.cell, S5.out.nb.cell, S5⟩ | exact ⟨bc, bx, bn, S⟩)
        (first
          | (go_at_call 15; go_split_ands; rename_i hS; refine (of_any x _).mono ?_; rintro e1 w5 ⟨rfl, hb5⟩; have S5 := ln_next hS hb5; (try have R1 := rows_next R1 hb5); (try have R2 := rows_next R2 hb5); clear hb5)
          | (go_at_call 19; go_split_ands; rename_i hS; refine (C5.out _ (by exact hS.out.ok)).mono ?_; rintro e1 w5 ⟨rfl, hb5⟩; have S5 := ln_next hS hb5; (try have R1 := rows_next R1 hb5); (try have R2 := rows_next R2 hb5); clear hb5))
      have S := S5
      clear S5 bc bx bn
      have bc := S.out.pb.cell
      have bx := S.out.xb.cell
      have bn := S.out.nb.cell
      go_wp2_with fail
      have S := ln_drew S
      clear bc bx bn
      have bc := S.out.pb.cell
      have bx := S.out.xb.cell
      have bn := S.out.nb.cell
      go_region_held3 (fun w' => (∀ i, w'.cell? ⟨w.heap.size, i, none⟩ = (#[.slice p.la p.ln p.lc, .slice p.na p.nn p.nc, .int .i64 p.sw, .int .i64 p.id, .int .i64 p.ch, .int .i64 p.qu, .int .i64 p.sl, .int .i64 p.pp] : Array Value)[i]?) ∧ (∀ i, w'.cell? ⟨w.heap.size + 1, i, none⟩ = (#[.int .i64 x.now, .int .i64 x.base, .int .i64 x.dn, .int .i64 x.lv, .int .i64 x.lf] : Array Value)[i]?) ∧ (∀ i, w'.cell? ⟨w.heap.size + 1 + 1, i, none⟩ = (#[.int .i64 n0, .int .i64 n1] : Array Value)[i]?) ∧ Hid (Ln w w' w.heap.size p x n0 n1))
        (first | exact ⟨S5.out.pb.cell, S5.out.xb.cell, S5.out.nb.cell, S5⟩ | exact ⟨bc, bx, bn, S⟩)
        (first
          | (go_at_call 15; go_split_ands; rename_i hS; refine (of_any x _).mono ?_; rintro e1 w5 ⟨rfl, hb5⟩; have S5 := ln_next hS hb5; (try have R1 := rows_next R1 hb5); (try have R2 := rows_next R2 hb5); clear hb5)
          | (go_at_call 14; go_split_ands; rename_i hS; refine (C1.out _ (by exact hS.out.ok)).mono ?_; rintro e1 w5 ⟨v1, rfl, own1, hb5⟩; have S5 := ln_next hS hb5; (try have R1 := rows_next R1 hb5); (try have R2 := rows_next R2 hb5); clear hb5; obtain ⟨a1, cp1, rfl, R1⟩ := alwL_own HL h100 own1; clear own1; rw [hl])
          | (go_at_call 12; go_split_ands; rename_i hS; refine (works_any _).mono ?_; rintro e1 w5 ⟨rfl, hb5⟩; have S5 := ln_next hS hb5; (try have R1 := rows_next R1 hb5); (try have R2 := rows_next R2 hb5); clear hb5))
      go_wp2_with fail
      go_ret
      exact ⟨rfl, S5.out.bel⟩
    · have C5 := Lib.hid (fun w' ok => Pick_any p x n0 n1 hn1 w' ok h100 _ (Lib.hid hy))
      have C3 := Lib.hid (fun w' ok => Best_any p x n0 w' ok h100 _ (Lib.hid hz))
      generalize endP p x y = ey at *
      generalize costP p x y = cy at *
      generalize costP p x z = cz at *
      have C1 := fun w' ok => End_any p x y w' ok _ (Lib.hid he)
      have C2 := fun w' ok => Cost_any p x y w' ok _ (Lib.hid hc)
      have C4 := fun w' ok => Cost_any p x z w' ok _ (Lib.hid hd)
      dsimp only at C1 C2 C4
      have C1 := Lib.hid C1
      have C2 := Lib.hid C2
      have C4 := Lib.hid C4
      clear hy hz he hc hd
      go_enter Try.func6, Try.ntmps6
      go_wp2_with fail
      generalize ((w.alloc (.cells #[.slice p.la p.ln p.lc, .slice p.na p.nn p.nc, .int .i64 p.sw, .int .i64 p.id, .int .i64 p.ch, .int .i64 p.qu, .int .i64 p.sl, .int .i64 p.pp] 25)).alloc (.cells #[.int .i64 x.now, .int .i64 x.base, .int .i64 x.dn, .int .i64 x.lv, .int .i64 x.lf] 27)).alloc (.cells #[.int .i64 n0, .int .i64 n1] 28) = W at S bc bx bn ⊢
      refine (F.out _ S.out.ok true (Lib.hid hf)).mono ?_
      rintro e1 w2 ⟨rfl, hb2⟩
      have S := ln_next S hb2
      clear hb2 bc bx bn
      have bc := S.out.pb.cell
      have bx := S.out.xb.cell
      have bn := S.out.nb.cell
      go_wp2_with fail
      have S := ln_drew S
      clear bc bx bn
      have bc := S.out.pb.cell
      have bx := S.out.xb.cell
      have bn := S.out.nb.cell
      go_region_held3 (fun w' => (∀ i, w'.cell? ⟨w.heap.size, i, none⟩ = (#[.slice p.la p.ln p.lc, .slice p.na p.nn p.nc, .int .i64 p.sw, .int .i64 p.id, .int .i64 p.ch, .int .i64 p.qu, .int .i64 p.sl, .int .i64 p.pp] : Array Value)[i]?) ∧ (∀ i, w'.cell? ⟨w.heap.size + 1, i, none⟩ = (#[.int .i64 x.now, .int .i64 x.base, .int .i64 x.dn, .int .i64 x.lv, .int .i64 x.lf] : Array Value)[i]?) ∧ (∀ i, w'.cell? ⟨w.heap.size + 1 + 1, i, none⟩ = (#[.int .i64 n0, .int .i64 n1] : Array Value)[i]?) ∧ Hid (Ln w w' w.heap.size p x n0 n1))
        (first | exact ⟨S5.out.pb.cell, S5.out.xb.cell, S5.out.nb.cell, S5⟩ | exact ⟨bc, bx, bn, S⟩)
        (first
          | (go_at_call 15; go_split_ands; rename_i hS; refine (of_any x _).mono ?_; rintro e1 w5 ⟨rfl, hb5⟩; have S5 := ln_next hS hb5; (try have R1 := rows_next R1 hb5); (try have R2 := rows_next R2 hb5); clear hb5)
          | (go_at_call 19; go_split_ands; rename_i hS; refine (C5.out _ (by exact hS.out.ok)).mono ?_; rintro e1 w5 ⟨rfl, hb5⟩; have S5 := ln_next hS hb5; (try have R1 := rows_next R1 hb5); (try have R2 := rows_next R2 hb5); clear hb5))
      have S := S5
      clear S5 bc bx bn
      have bc := S.out.pb.cell
      have bx := S.out.xb.cell
      have bn := S.out.nb.cell
      go_wp2_with fail
      have S := ln_drew S
      clear bc bx bn
      have bc := S.out.pb.cell
      have bx := S.out.xb.cell
      have bn := S.out.nb.cell
      go_region_held3 (fun w' => (∀ i, w'.cell? ⟨w.heap.size, i, none⟩ = (#[.slice p.la p.ln p.lc, .slice p.na p.nn p.nc, .int .i64 p.sw, .int .i64 p.id, .int .i64 p.ch, .int .i64 p.qu, .int .i64 p.sl, .int .i64 p.pp] : Array Value)[i]?) ∧ (∀ i, w'.cell? ⟨w.heap.size + 1, i, none⟩ = (#[.int .i64 x.now, .int .i64 x.base, .int .i64 x.dn, .int .i64 x.lv, .int .i64 x.lf] : Array Value)[i]?) ∧ (∀ i, w'.cell? ⟨w.heap.size + 1 + 1, i, none⟩ = (#[.int .i64 n0, .int .i64 n1] : Array Value)[i]?) ∧ Hid (Ln w w' w.heap.size p x n0 n1))
        (first | exact ⟨S5.out.pb.cell, S5.out.xb.cell, S5.out.nb.cell, S5⟩ | exact ⟨bc, bx, bn, S⟩)
        (first
          | (go_at_call 15; go_split_ands; rename_i hS; refine (of_any x _).mono ?_; rintro e1 w5 ⟨rfl, hb5⟩; have S5 := ln_next hS hb5; (try have R1 := rows_next R1 hb5); (try have R2 := rows_next R2 hb5); clear hb5)
          | (go_at_call 22; go_split_ands; rename_i hS; refine (C1.out _ (by exact hS.out.ok)).mono ?_; rintro e1 w5 ⟨rfl, hb5⟩; have S5 := ln_next hS hb5; (try have R1 := rows_next R1 hb5); (try have R2 := rows_next R2 hb5); clear hb5))
      have S := S5
      clear S5 bc bx bn
      have bc := S.out.pb.cell
      have bx := S.out.xb.cell
      have bn := S.out.nb.cell
      go_wp2_with fail
      have S := ln_drew S
      clear bc bx bn
      have bc := S.out.pb.cell
      have bx := S.out.xb.cell
      have bn := S.out.nb.cell
      go_region_held3 (fun w' => (∀ i, w'.cell? ⟨w.heap.size, i, none⟩ = (#[.slice p.la p.ln p.lc, .slice p.na p.nn p.nc, .int .i64 p.sw, .int .i64 p.id, .int .i64 p.ch, .int .i64 p.qu, .int .i64 p.sl, .int .i64 p.pp] : Array Value)[i]?) ∧ (∀ i, w'.cell? ⟨w.heap.size + 1, i, none⟩ = (#[.int .i64 x.now, .int .i64 x.base, .int .i64 x.dn, .int .i64 x.lv, .int .i64 x.lf] : Array Value)[i]?) ∧ (∀ i, w'.cell? ⟨w.heap.size + 1 + 1, i, none⟩ = (#[.int .i64 n0, .int .i64 n1] : Array Value)[i]?) ∧ Hid (Ln w w' w.heap.size p x n0 n1))
        (first | exact ⟨S5.out.pb.cell, S5.out.xb.cell, S5.out.nb.cell, S5⟩ | exact ⟨bc, bx, bn, S⟩)
        (first
          | (go_at_call 15; go_split_ands; rename_i hS; refine (of_any x _).mono ?_; rintro e1 w5 ⟨rfl, hb5⟩; have S5 := ln_next hS hb5; (try have R1 := rows_next R1 hb5); (try have R2 := rows_next R2 hb5); clear hb5)
          | (go_at_call 24; go_split_ands; rename_i hS; refine (C2.out _ (by exact hS.out.ok)).mono ?_; rintro e1 w5 ⟨rfl, hb5⟩; have S5 := ln_next hS hb5; (try have R1 := rows_next R1 hb5); (try have R2 := rows_next R2 hb5); clear hb5))
      have S := S5
      clear S5 bc bx bn
      have bc := S.out.pb.cell
      have bx := S.out.xb.cell
      have bn := S.out.nb.cell
      go_wp2_with fail
      have S := ln_drew S
      clear bc bx bn
      have bc := S.out.pb.cell
      have bx := S.out.xb.cell
      have bn := S.out.nb.cell
      go_region_held3 (fun w' => (∀ i, w'.cell? ⟨w.heap.size, i, none⟩ = (#[.slice p.la p.ln p.lc, .slice p.na p.nn p.nc, .int .i64 p.sw, .int .i64 p.id, .int .i64 p.ch, .int .i64 p.qu, .int .i64 p.sl, .int .i64 p.pp] : Array Value)[i]?) ∧ (∀ i, w'.cell? ⟨w.heap.size + 1, i, none⟩ = (#[.int .i64 x.now, .int .i64 x.base, .int .i64 x.dn, .int .i64 x.lv, .int .i64 x.lf] : Array Value)[i]?) ∧ (∀ i, w'.cell? ⟨w.heap.size + 1 + 1, i, none⟩ = (#[.int .i64 n0, .int .i64 n1] : Array Value)[i]?) ∧ Hid (Ln w w' w.heap.size p x n0 n1))
        (first | exact ⟨S5.out.pb.cell, S5.out.xb.cell, S5.out.nb.cell, S5⟩ | exact ⟨bc, bx, bn, S⟩)
        (first
          | (go_at_call 15; go_split_ands; rename_i hS; refine (of_any x _).mono ?_; rintro e1 w5 ⟨rfl, hb5⟩; have S5 := ln_next hS hb5; (try have R1 := rows_next R1 hb5); (try have R2 := rows_next R2 hb5); clear hb5)
          | (go_at_call 17; go_split_ands; rename_i hS; refine (C3.out _ (by exact hS.out.ok)).mono ?_; rintro e1 w5 ⟨rfl, hb5⟩; have S5 := ln_next hS hb5; (try have R1 := rows_next R1 hb5); (try have R2 := rows_next R2 hb5); clear hb5)
          | (go_at_call 24; go_split_ands; rename_i hS; refine (C4.out _ (by exact hS.out.ok)).mono ?_; rintro e1 w5 ⟨rfl, hb5⟩; have S5 := ln_next hS hb5; (try have R1 := rows_next R1 hb5); (try have R2 := rows_next R2 hb5); clear hb5))
      all_goals
        have S := S5
        clear S5 bc bx bn
        have bc := S.out.pb.cell
        have bx := S.out.xb.cell
        have bn := S.out.nb.cell
        go_wp2_with fail
        refine (works_any _).mono ?_
        rintro e1 w2 ⟨rfl, hb2⟩
        have S := ln_next S hb2
        clear hb2
        go_wp2_with fail
        go_ret
        exact ⟨rfl, S.out.bel⟩
  · have hf : decide (p.ln ≤ 100 ∧ p.nn ≤ 100) = false := by simpa using hf
    go_enter Try.func6, Try.ntmps6
    go_wp2_with fail
    generalize ((w.alloc (.cells #[.slice p.la p.ln p.lc, .slice p.na p.nn p.nc, .int .i64 p.sw, .int .i64 p.id, .int .i64 p.ch, .int .i64 p.qu, .int .i64 p.sl, .int .i64 p.pp] 25)).alloc (.cells #[.int .i64 x.now, .int .i64 x.base, .int .i64 x.dn, .int .i64 x.lv, .int .i64 x.lf] 27)).alloc (.cells #[.int .i64 n0, .int .i64 n1] 28) = W at S bc bx bn ⊢
    refine (F.out _ S.out.ok false (Lib.hid hf)).mono ?_
    rintro e1 w2 ⟨rfl, hb2⟩
    have S := ln_next S hb2
    clear hb2 bc bx bn
    have bc := S.out.pb.cell
    have bx := S.out.xb.cell
    have bn := S.out.nb.cell
    go_wp2_with fail
    refine (works_any _).mono ?_
    rintro e1 w2 ⟨rfl, hb2⟩
    have S := ln_next S hb2
    clear hb2
    go_wp2_with fail
    go_ret
    exact ⟨rfl, S.out.bel⟩

theorem picks_law (p : PowC) (x0 x1 x2 x3 x4 n0 n1 : Int) (w : World) (ok : p.Ok w) (i0 : I64 x0) (i1 : I64 x1) (i2 : I64 x2) (i3 : I64 x3) (i4 : I64 x4) (h0 : I64 n0) (h1 : I64 n1) :
    Calls Try.prog 3 #[.agg #[.slice p.la p.ln p.lc, .slice p.na p.nn p.nc, .int .i64 p.sw, .int .i64 p.id, .int .i64 p.ch, .int .i64 p.qu, .int .i64 p.sl, .int .i64 p.pp], .agg #[.int .i64 x0, .int .i64 x1, .int .i64 x2, .int .i64 x3, .int .i64 x4], .agg #[.int .i64 n0, .int .i64 n1]] w fun e w' => e = .returned (.bool true) ∧ Below w.heap.size w w' :=
  picks_x p ⟨x0, x1, x2, x3, x4⟩ n0 n1 w ok h1
theorem enough_law (p : PowC) (x0 x1 x2 x3 x4 n0 n1 : Int) (w : World) (ok : p.Ok w) (i0 : I64 x0) (i1 : I64 x1) (i2 : I64 x2) (i3 : I64 x3) (i4 : I64 x4) (h0 : I64 n0) (h1 : I64 n1) :
    Calls Try.prog 6 #[.agg #[.slice p.la p.ln p.lc, .slice p.na p.nn p.nc, .int .i64 p.sw, .int .i64 p.id, .int .i64 p.ch, .int .i64 p.qu, .int .i64 p.sl, .int .i64 p.pp], .agg #[.int .i64 x0, .int .i64 x1, .int .i64 x2, .int .i64 x3, .int .i64 x4], .agg #[.int .i64 n0, .int .i64 n1]] w fun e w' => e = .returned (.bool true) ∧ Below w.heap.size w w' :=
  enough_x p ⟨x0, x1, x2, x3, x4⟩ n0 n1 w ok h1
end Go.Proofs.Ytigknchcjlieoaa.LvlR

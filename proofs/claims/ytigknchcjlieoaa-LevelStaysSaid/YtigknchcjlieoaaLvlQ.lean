/- Package level's laws: LevelEnds. -/
import Derived.Test.YtigknchcjlieoaaLvlP
namespace Go.Proofs.Ytigknchcjlieoaa.LvlQ
open Go.RowKit Go.Shelf Base Kit Conf PowA PowB PowC PowR WideB Alt RefA LvlA LvlB LvlC LvlD LvlE LvlF LvlG LvlH LvlI LvlJ LvlK LvlM LvlN LvlP
set_option linter.unusedVariables false
set_option linter.unusedSimpArgs false

/-- a law's world: its two boxes -/
structure Lw (w0 w : World) (b : Nat) (p : PowC) (x : X5) : Prop where
  bel : Below w0.heap.size w0 w
  ok : p.Ok w
  pb : Box w b #[.slice p.la p.ln p.lc, .slice p.na p.nn p.nc, .int .i64 p.sw, .int .i64 p.id, .int .i64 p.ch, .int .i64 p.qu, .int .i64 p.sl, .int .i64 p.pp] 25
  xb : Box w (b + 1) #[.int .i64 x.now, .int .i64 x.base, .int .i64 x.dn, .int .i64 x.lv, .int .i64 x.lf] 27
theorem lw_next {w0 w w1 : World} {b : Nat} {p : PowC} {x : X5} (h : Hid (Lw w0 w b p x)) (k : Below w.heap.size w w1) : Hid (Lw w0 w1 b p x) :=
  Lib.hid ⟨below_next h.out.bel k, h.out.ok.below k (Nat.le_refl _), h.out.pb.next k, h.out.xb.next k⟩
theorem lw_drew {w0 w : World} {b : Nat} {p : PowC} {x : X5} (h : Hid (Lw w0 w b p x)) : Hid (Lw w0 w.drew b p x) := lw_next h (Below.refl _ _).drew
theorem lw_in {p : PowC} {x : X5} (w : World) (ok : p.Ok w) : Hid (Lw w ((w.alloc (.cells #[.slice p.la p.ln p.lc, .slice p.na p.nn p.nc, .int .i64 p.sw, .int .i64 p.id, .int .i64 p.ch, .int .i64 p.qu, .int .i64 p.sl, .int .i64 p.pp] 25)).alloc (.cells #[.int .i64 x.now, .int .i64 x.base, .int .i64 x.dn, .int .i64 x.lv, .int .i64 x.lf] 27)) w.heap.size p x) := by
  have b1 := Box.new (w.alloc (.cells #[.slice p.la p.ln p.lc, .slice p.na p.nn p.nc, .int .i64 p.sw, .int .i64 p.id, .int .i64 p.ch, .int .i64 p.qu, .int .i64 p.sl, .int .i64 p.pp] 25)) #[.int .i64 x.now, .int .i64 x.base, .int .i64 x.dn, .int .i64 x.lv, .int .i64 x.lf] 27
  rw [World.size_alloc] at b1
  have hb : Below w.heap.size w ((w.alloc (.cells #[.slice p.la p.ln p.lc, .slice p.na p.nn p.nc, .int .i64 p.sw, .int .i64 p.id, .int .i64 p.ch, .int .i64 p.qu, .int .i64 p.sl, .int .i64 p.pp] 25)).alloc (.cells #[.int .i64 x.now, .int .i64 x.base, .int .i64 x.dn, .int .i64 x.lv, .int .i64 x.lf] 27)) := ((Below.refl _ _).alloc (Nat.le_refl _) _).alloc (by simp) _
  exact Lib.hid ⟨hb, ok.below hb (Nat.le_refl _), (Box.new _ _ _).alloc _, b1⟩

set_option maxRecDepth 100000 in
set_option maxHeartbeats 4000000 in
theorem ends_x (p : PowC) (x : X5) (tt : Int) (w : World) (ok : p.Ok w) :
    Calls Try.prog 5 #[.agg #[.slice p.la p.ln p.lc, .slice p.na p.nn p.nc, .int .i64 p.sw, .int .i64 p.id, .int .i64 p.ch, .int .i64 p.qu, .int .i64 p.sl, .int .i64 p.pp], .agg #[.int .i64 x.now, .int .i64 x.base, .int .i64 x.dn, .int .i64 x.lv, .int .i64 x.lf], .int .i64 tt] w fun e w' => e = .returned (.bool true) ∧ Below w.heap.size w w' := by
  obtain ⟨⟨r1, r2⟩, hr⟩ : ∃ r, endR p x tt = r := ⟨_, rfl⟩
  obtain ⟨⟨c1, c2⟩, hc⟩ : ∃ r, costR p x tt = r := ⟨_, rfl⟩
  have F := Lib.hid (fun w' ok b hb => few_any p w' ok b hb)
  have C1 := fun w' ok => End_any p x tt w' ok _ (Lib.hid hr)
  have C2 := fun w' ok => Endr_any p x tt w' ok _ (Lib.hid hr)
  have C3 := fun w' ok => Cost_any p x tt w' ok _ (Lib.hid hc)
  have C4 := fun w' ok => Costr_any p x tt w' ok _ (Lib.hid hc)
  dsimp only at C1 C2 C3 C4
  have C1 := Lib.hid C1
  have C2 := Lib.hid C2
  have C3 := Lib.hid C3
  have C4 := Lib.hid C4
  clear hr hc
  have S := lw_in (x := x) w ok
  have bc := S.out.pb.cell
  have bx := S.out.xb.cell
  by_cases hf : p.ln ≤ 100 ∧ p.nn ≤ 100
  · have hf : decide (p.ln ≤ 100 ∧ p.nn ≤ 100) = true := by simpa using hf
    go_enter Try.func5, Try.ntmps5
    go_wp2_with fail
    generalize (w.alloc (.cells #[.slice p.la p.ln p.lc, .slice p.na p.nn p.nc, .int .i64 p.sw, .int .i64 p.id, .int .i64 p.ch, .int .i64 p.qu, .int .i64 p.sl, .int .i64 p.pp] 25)).alloc (.cells #[.int .i64 x.now, .int .i64 x.base, .int .i64 x.dn, .int .i64 x.lv, .int .i64 x.lf] 27) = W at S bc bx ⊢
    refine (F.out _ S.out.ok true (Lib.hid hf)).mono ?_
    rintro e1 w2 ⟨rfl, hb2⟩
    have S := lw_next S hb2
    clear hb2 bc bx
    have bc := S.out.pb.cell
    have bx := S.out.xb.cell
    go_wp2_with fail
    have S := lw_drew S
    clear bc bx
    have bc := S.out.pb.cell
    have bx := S.out.xb.cell
    go_region_held3 (fun w' => (∀ i, w'.cell? ⟨w.heap.size, i, none⟩ = (#[.slice p.la p.ln p.lc, .slice p.na p.nn p.nc, .int .i64 p.sw, .int .i64 p.id, .int .i64 p.ch, .int .i64 p.qu, .int .i64 p.sl, .int .i64 p.pp] : Array Value)[i]?) ∧ (∀ i, w'.cell? ⟨w.heap.size + 1, i, none⟩ = (#[.int .i64 x.now, .int .i64 x.base, .int .i64 x.dn, .int .i64 x.lv, .int .i64 x.lf] : Array Value)[i]?) ∧ Hid (Lw w w' w.heap.size p x))
      (first
        | exact ⟨S5.out.pb.cell, S5.out.xb.cell, S5⟩
        | exact ⟨bc, bx, S⟩)
      (first
        | (go_at_call 15; go_split_ands; rename_i hS; refine (of_any x _).mono ?_; rintro e1 w5 ⟨rfl, hb5⟩; have S5 := lw_next hS hb5; clear hb5)
        | (go_at_call 22; go_split_ands; rename_i hS; refine (C1.out _ (by exact hS.out.ok)).mono ?_; rintro e1 w5 ⟨rfl, hb5⟩; have S5 := lw_next hS hb5; clear hb5))
    have S := S5
    clear S5 bc bx
    have bc := S.out.pb.cell
    have bx := S.out.xb.cell
    go_wp2_with fail
    refine (C2.out _ S.out.ok).mono ?_
    rintro e1 w2 ⟨rfl, hb2⟩
    have S := lw_next S hb2
    clear hb2 bc bx
    have bc := S.out.pb.cell
    have bx := S.out.xb.cell
    go_wp2_with fail
    have S := lw_drew S
    clear bc bx
    have bc := S.out.pb.cell
    have bx := S.out.xb.cell
    go_region_held3 (fun w' => (∀ i, w'.cell? ⟨w.heap.size, i, none⟩ = (#[.slice p.la p.ln p.lc, .slice p.na p.nn p.nc, .int .i64 p.sw, .int .i64 p.id, .int .i64 p.ch, .int .i64 p.qu, .int .i64 p.sl, .int .i64 p.pp] : Array Value)[i]?) ∧ (∀ i, w'.cell? ⟨w.heap.size + 1, i, none⟩ = (#[.int .i64 x.now, .int .i64 x.base, .int .i64 x.dn, .int .i64 x.lv, .int .i64 x.lf] : Array Value)[i]?) ∧ Hid (Lw w w' w.heap.size p x))
      (first
        | exact ⟨S5.out.pb.cell, S5.out.xb.cell, S5⟩
        | exact ⟨bc, bx, S⟩)
      (first
        | (go_at_call 15; go_split_ands; rename_i hS; refine (of_any x _).mono ?_; rintro e1 w5 ⟨rfl, hb5⟩; have S5 := lw_next hS hb5; clear hb5)
        | (go_at_call 24; go_split_ands; rename_i hS; refine (C3.out _ (by exact hS.out.ok)).mono ?_; rintro e1 w5 ⟨rfl, hb5⟩; have S5 := lw_next hS hb5; clear hb5))
    have S := S5
    clear S5 bc bx
    have bc := S.out.pb.cell
    have bx := S.out.xb.cell
    go_wp2_with fail
    refine (C4.out _ S.out.ok).mono ?_
    rintro e1 w2 ⟨rfl, hb2⟩
    have S := lw_next S hb2
    clear hb2 bc bx
    have bc := S.out.pb.cell
    have bx := S.out.xb.cell
    go_wp2_with fail
    refine (works_any _).mono ?_
    rintro e1 w2 ⟨rfl, hb2⟩
    have S := lw_next S hb2
    clear hb2
    go_wp2_with fail
    go_ret
    exact ⟨rfl, S.out.bel⟩
  · have hf : decide (p.ln ≤ 100 ∧ p.nn ≤ 100) = false := by simpa using hf
    go_enter Try.func5, Try.ntmps5
    go_wp2_with fail
    generalize (w.alloc (.cells #[.slice p.la p.ln p.lc, .slice p.na p.nn p.nc, .int .i64 p.sw, .int .i64 p.id, .int .i64 p.ch, .int .i64 p.qu, .int .i64 p.sl, .int .i64 p.pp] 25)).alloc (.cells #[.int .i64 x.now, .int .i64 x.base, .int .i64 x.dn, .int .i64 x.lv, .int .i64 x.lf] 27) = W at S bc bx ⊢
    refine (F.out _ S.out.ok false (Lib.hid hf)).mono ?_
    rintro e1 w2 ⟨rfl, hb2⟩
    have S := lw_next S hb2
    clear hb2 bc bx
    have bc := S.out.pb.cell
    have bx := S.out.xb.cell
    go_wp2_with fail
    refine (works_any _).mono ?_
    rintro e1 w2 ⟨rfl, hb2⟩
    have S := lw_next S hb2
    clear hb2
    go_wp2_with fail
    go_ret
    exact ⟨rfl, S.out.bel⟩
theorem ends_law (p : PowC) (x0 x1 x2 x3 x4 tt : Int) (w : World) (ok : p.Ok w) (i0 : I64 x0) (i1 : I64 x1) (i2 : I64 x2) (i3 : I64 x3) (i4 : I64 x4) (it : I64 tt) :
    Calls Try.prog 5 #[.agg #[.slice p.la p.ln p.lc, .slice p.na p.nn p.nc, .int .i64 p.sw, .int .i64 p.id, .int .i64 p.ch, .int .i64 p.qu, .int .i64 p.sl, .int .i64 p.pp], .agg #[.int .i64 x0, .int .i64 x1, .int .i64 x2, .int .i64 x3, .int .i64 x4], .int .i64 tt] w fun e w' => e = .returned (.bool true) ∧ Below w.heap.size w w' :=
  ends_x p ⟨x0, x1, x2, x3, x4⟩ tt w ok
end Go.Proofs.Ytigknchcjlieoaa.LvlQ

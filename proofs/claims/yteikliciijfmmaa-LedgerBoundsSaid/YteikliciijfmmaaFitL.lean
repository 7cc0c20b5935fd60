/- The laws of fit: Needs, Both, More. -/
import Derived.Test.YteikliciijfmmaaFitC
import Derived.Test.YteikliciijfmmaaConf
namespace Go.Proofs.Yteikliciijfmmaa.FitL
open Go.RowKit Base Kit WideA WideB Plain FitA FitB FitC Conf
set_option linter.unusedVariables false
set_option linter.unusedSimpArgs false

theorem rows_box1 {w : World} {b : Nat} {x y : Int} {T : TypeId} (h : Box w b #[.int .i64 x, .int .i64 y] T) (hx : I64 x) (hy : I64 y) : Hid (Open.RowsIn w (some ⟨b, 0, none⟩) 1 2 (fun _ j => if j = 0 then x else y)) := by
  refine Lib.hid ⟨by omega, .inr ⟨b, 0, rfl, h.lt, fun i hi j hj => ?_⟩, fun i hi j hj => ?_⟩
  · obtain rfl : i = 0 := by omega
    rw [h.cell]
    match j, hj with
    | 0, _ => rfl
    | 1, _ => rfl
  · dsimp only
    split
    · exact hx
    · exact hy

/-- what stays: a variable's block, and a platform's levels -/
structure St (w0 w : World) (b : Nat) (vs : Array Value) (T : TypeId) (a : Option Addr) (n : Nat) (f : Nat → Nat → Int) : Prop where
  bel : Below w0.heap.size w0 w
  box : Box w b vs T
  rows : Hid (Open.RowsIn w a n 2 f)
theorem st_next {w0 w w1 : World} {b : Nat} {vs : Array Value} {T : TypeId} {a : Option Addr} {n : Nat} {f : Nat → Nat → Int} (h : Hid (St w0 w b vs T a n f)) (k : Below w.heap.size w w1) : Hid (St w0 w1 b vs T a n f) :=
  Lib.hid ⟨below_next h.out.bel k, h.out.box.next k, rows_next h.out.rows k⟩
theorem st_drew {w0 w : World} {b : Nat} {vs : Array Value} {T : TypeId} {a : Option Addr} {n : Nat} {f : Nat → Nat → Int} (h : Hid (St w0 w b vs T a n f)) : Hid (St w0 w.drew b vs T a n f) :=
  Lib.hid ⟨h.out.bel.drew, h.out.box.drew, rows_drew h.out.rows⟩

set_option maxRecDepth 100000 in
set_option maxHeartbeats 1000000 in
theorem works_any (w : World) : Calls Try.prog 15 #[] w fun e w' => e = .returned (.bool true) ∧ Below w.heap.size w w' := by
  have C1 := Lib.hid (fun w b h => need_any (some ⟨b, 0, none⟩) 1 1 (fun _ j => if j = 0 then 3 else 5) (.slice none 0 0) 10 (.int .i64 0) (.int .i64 0) (.int .i64 0) (.int .i64 0) (.int .i64 0) 1 344 0 w h ⟨by omega, by omega⟩ ⟨by omega, by omega⟩ (Lib.hid (by decide +kernel)))
  have C2 := Lib.hid (fun w b h => supply_any (some ⟨b, 0, none⟩) 1 1 (fun _ j => if j = 0 then 3 else 5) (.slice none 0 0) 10 (.int .i64 0) (.int .i64 0) (.int .i64 0) (.int .i64 0) (.int .i64 0) 344 1 0 w h ⟨by omega, by omega⟩ ⟨by omega, by omega⟩ (Lib.hid (by decide +kernel)))
  have C3 := Lib.hid (fun w b h => cost_any (some ⟨b, 0, none⟩) 1 1 (fun _ j => if j = 0 then 3 else 5) (.slice none 0 0) 10 (.int .i64 0) (.int .i64 0) (.int .i64 0) (.int .i64 0) (.int .i64 0) 1 1667 0 w h ⟨by omega, by omega⟩ (Lib.hid (by decide +kernel)))
  have C4 := Lib.hid (fun w b h => fits_any (some ⟨b, 0, none⟩) 1 1 (fun _ j => if j = 0 then 3 else 5) (.slice none 0 0) 10 (.int .i64 0) (.int .i64 0) (.int .i64 0) (.int .i64 0) (.int .i64 0) 1 344 true w h ⟨by omega, by omega⟩ ⟨by omega, by omega⟩ (Lib.hid (by decide +kernel)))
  have C5 := Lib.hid (fun w b h => fits_any (some ⟨b, 0, none⟩) 1 1 (fun _ j => if j = 0 then 3 else 5) (.slice none 0 0) 10 (.int .i64 0) (.int .i64 0) (.int .i64 0) (.int .i64 0) (.int .i64 0) 2 344 false w h ⟨by omega, by omega⟩ ⟨by omega, by omega⟩ (Lib.hid (by decide +kernel)))
  go_enter Try.func15, Try.ntmps15
  go_wp2_with fail
  have r0 := rows_alloc (rows_box1 (Box.new w #[.int .i64 3, .int .i64 5] 34) ⟨by omega, by omega⟩ ⟨by omega, by omega⟩) (.cells #[.slice (some ⟨w.heap.size, 0, none⟩) 1 1, .slice none 0 0, .int .i64 10, .int .i64 0, .int .i64 0, .int .i64 0, .int .i64 0, .int .i64 0] 25)
  have b0 := Box.new (w.alloc (.cells #[.int .i64 3, .int .i64 5] 34)) #[.slice (some ⟨w.heap.size, 0, none⟩) 1 1, .slice none 0 0, .int .i64 10, .int .i64 0, .int .i64 0, .int .i64 0, .int .i64 0, .int .i64 0] 25
  rw [World.size_alloc] at b0
  have S : Hid (St w _ _ _ _ _ _ _) := Lib.hid ⟨((Below.refl _ _).alloc (Nat.le_refl _) _).alloc (by simp) _, b0, r0⟩
  clear r0
  generalize (w.alloc (.cells #[.int .i64 3, .int .i64 5] 34)).alloc (.cells #[.slice (some ⟨w.heap.size, 0, none⟩) 1 1, .slice none 0 0, .int .i64 10, .int .i64 0, .int .i64 0, .int .i64 0, .int .i64 0, .int .i64 0] 25) = w1 at S b0 ⊢
  have bc := b0.cell
  clear b0
  refine (C1.out _ _ S.out.rows).mono ?_
  rintro e1 w2 ⟨rfl, hb2⟩
  have S := st_next S hb2
  clear hb2 bc
  rename_i w9
  have bc := S.out.box.cell
  go_wp2_with fail
  refine (C2.out _ _ S.out.rows).mono ?_
  rintro e1 w2 ⟨rfl, hb2⟩
  have S := st_next S hb2
  clear hb2 bc
  rename_i w9
  have bc := S.out.box.cell
  go_wp2_with fail
  refine (C3.out _ _ S.out.rows).mono ?_
  rintro e1 w2 ⟨rfl, hb2⟩
  have S := st_next S hb2
  clear hb2 bc
  rename_i w9
  have bc := S.out.box.cell
  go_wp2_with fail
  refine (C4.out _ _ S.out.rows).mono ?_
  rintro e1 w2 ⟨rfl, hb2⟩
  have S := st_next S hb2
  clear hb2 bc
  rename_i w9
  have bc := S.out.box.cell
  go_wp2_with fail
  refine (C5.out _ _ S.out.rows).mono ?_
  rintro e1 w2 ⟨rfl, hb2⟩
  have S := st_next S hb2
  clear hb2 bc
  rename_i w9
  have bc := S.out.box.cell
  go_wp2_with fail
  go_ret
  exact ⟨rfl, S.out.bel⟩

set_option maxRecDepth 100000 in
set_option maxHeartbeats 2000000 in
theorem needs_law (p : PowC) (cyc len : Int) (w : World) (hp : p.Ok w) (h1 : I64 cyc) (h2 : I64 len) :
    Calls Try.prog 3 #[.agg #[.slice p.la p.ln p.lc, .slice p.na p.nn p.nc, .int .i64 p.sw, .int .i64 p.id, .int .i64 p.ch, .int .i64 p.qu, .int .i64 p.sl, .int .i64 p.pp], .int .i64 cyc, .int .i64 len] w fun e w' => e = .returned (.bool true) ∧ Below w.heap.size w w' := by
  obtain ⟨la, ln, lc, lf, na, nn, nc, nf, sw, id, ch, qu, sl, pp⟩ := p
  obtain ⟨hl, hn, hsw, -, -, -, -, -⟩ := hp
  dsimp only at hl hn hsw ⊢
  have hm := hl.out.1
  by_cases hbig : 100 < ln
  · skip
    go_enter Try.func3, Try.ntmps3
    go_wp2_with fail
    refine (works_any _).mono ?_
    rintro e1 w2 ⟨rfl, hb2⟩
    go_wp2_with fail
    go_ret
    exact ⟨rfl, below_in _ hb2⟩
  have hsm : ln ≤ 100 := by omega
  obtain ⟨a1, q1⟩ : ∃ a, (nd (top ln lf 0) sw cyc).1 = a := ⟨_, rfl⟩
  obtain ⟨a2, q2⟩ : ∃ a, (nd (top ln lf 0) sw cyc).2 = a := ⟨_, rfl⟩
  obtain ⟨b1, q3⟩ : ∃ a, (sp (top ln lf 0) sw len).1 = a := ⟨_, rfl⟩
  obtain ⟨b2, q4⟩ : ∃ a, (sp (top ln lf 0) sw len).2 = a := ⟨_, rfl⟩
  obtain ⟨c1, q5⟩ : ∃ a, (cs (top ln lf 0) (top ln lf 1) cyc).1 = a := ⟨_, rfl⟩
  obtain ⟨c2, q6⟩ : ∃ a, (cs (top ln lf 0) (top ln lf 1) cyc).2 = a := ⟨_, rfl⟩
  obtain ⟨ok, q7⟩ : ∃ a, ft (top ln lf 0) sw cyc len = a := ⟨_, rfl⟩
  have C1 := Lib.hid (fun w h => need_any la ln lc lf (.slice na nn nc) sw (.int .i64 id) (.int .i64 ch) (.int .i64 qu) (.int .i64 sl) (.int .i64 pp) cyc a1 a2 w h hsw h1 (Lib.hid (by rw [← q1, ← q2])))
  have C2 := Lib.hid (fun w h => needr_any la ln lc lf (.slice na nn nc) sw (.int .i64 id) (.int .i64 ch) (.int .i64 qu) (.int .i64 sl) (.int .i64 pp) cyc a1 a2 w h hsw h1 (Lib.hid (by rw [← q1, ← q2])))
  have C3 := Lib.hid (fun w h => supply_any la ln lc lf (.slice na nn nc) sw (.int .i64 id) (.int .i64 ch) (.int .i64 qu) (.int .i64 sl) (.int .i64 pp) len b1 b2 w h hsw h2 (Lib.hid (by rw [← q3, ← q4])))
  have C4 := Lib.hid (fun w h => supplyr_any la ln lc lf (.slice na nn nc) sw (.int .i64 id) (.int .i64 ch) (.int .i64 qu) (.int .i64 sl) (.int .i64 pp) len b1 b2 w h hsw h2 (Lib.hid (by rw [← q3, ← q4])))
  have C5 := Lib.hid (fun w h => cost_any la ln lc lf (.slice na nn nc) sw (.int .i64 id) (.int .i64 ch) (.int .i64 qu) (.int .i64 sl) (.int .i64 pp) cyc c1 c2 w h h1 (Lib.hid (by rw [← q5, ← q6])))
  have C6 := Lib.hid (fun w h => costr_any la ln lc lf (.slice na nn nc) sw (.int .i64 id) (.int .i64 ch) (.int .i64 qu) (.int .i64 sl) (.int .i64 pp) cyc c1 c2 w h h1 (Lib.hid (by rw [← q5, ← q6])))
  have C7 := Lib.hid (fun w h => fits_any la ln lc lf (.slice na nn nc) sw (.int .i64 id) (.int .i64 ch) (.int .i64 qu) (.int .i64 sl) (.int .i64 pp) cyc len ok w h hsw h1 (Lib.hid q7))
  have C8 := Lib.hid (fun w h => fitsr_any la ln lc lf (.slice na nn nc) sw (.int .i64 id) (.int .i64 ch) (.int .i64 qu) (.int .i64 sl) (.int .i64 pp) cyc len ok w h hsw h1 (Lib.hid q7))
  have C9 := fun w h => top_any la ln lc lf (.slice na nn nc) (.int .i64 sw) (.int .i64 id) (.int .i64 ch) (.int .i64 qu) (.int .i64 sl) (.int .i64 pp) w h
  have C10 := fun w h => topr_any la ln lc lf (.slice na nn nc) (.int .i64 sw) (.int .i64 id) (.int .i64 ch) (.int .i64 qu) (.int .i64 sl) (.int .i64 pp) w h
  generalize top ln lf 0 = fq at C9 C10
  generalize top ln lf 1 = pw at C9 C10
  have C9 := Lib.hid C9
  have C10 := Lib.hid C10
  have hfe := fun w => feq fq pw w
  have hfd := fun w => run_field fq pw w
  clear q1 q2 q3 q4 q5 q6 q7
  go_enter Try.func3, Try.ntmps3
  go_wp2_with fail
  have S : Hid (St w _ _ _ _ _ _ _) := Lib.hid ⟨((Below.refl _ _).alloc (Nat.le_refl _) _), Box.new w #[.slice la ln lc, .slice na nn nc, .int .i64 sw, .int .i64 id, .int .i64 ch, .int .i64 qu, .int .i64 sl, .int .i64 pp] 25, rows_alloc hl _⟩
  have bc := S.out.box.cell
  generalize w.alloc (.cells #[.slice la ln lc, .slice na nn nc, .int .i64 sw, .int .i64 id, .int .i64 ch, .int .i64 qu, .int .i64 sl, .int .i64 pp] 25) = w1 at S bc ⊢
  refine (C1.out _ S.out.rows).mono ?_
  rintro e1 w2 ⟨rfl, hb2⟩
  have S := st_next S hb2
  clear hb2 bc
  rename_i w9
  have bc := S.out.box.cell
  go_wp2_with fail
  refine (C2.out _ S.out.rows).mono ?_
  rintro e1 w2 ⟨rfl, hb2⟩
  have S := st_next S hb2
  clear hb2 bc
  rename_i w9
  have bc := S.out.box.cell
  go_wp2_with fail
  refine (C3.out _ S.out.rows).mono ?_
  rintro e1 w2 ⟨rfl, hb2⟩
  have S := st_next S hb2
  clear hb2 bc
  rename_i w9
  have bc := S.out.box.cell
  go_wp2_with fail
  refine (C4.out _ S.out.rows).mono ?_
  rintro e1 w2 ⟨rfl, hb2⟩
  have S := st_next S hb2
  clear hb2 bc
  rename_i w9
  have bc := S.out.box.cell
  go_wp2_with fail
  refine (C5.out _ S.out.rows).mono ?_
  rintro e1 w2 ⟨rfl, hb2⟩
  have S := st_next S hb2
  clear hb2 bc
  rename_i w9
  have bc := S.out.box.cell
  go_wp2_with fail
  refine (C6.out _ S.out.rows).mono ?_
  rintro e1 w2 ⟨rfl, hb2⟩
  have S := st_next S hb2
  clear hb2 bc
  rename_i w9
  have bc := S.out.box.cell
  go_wp2_with fail
  have S := st_drew S
  clear bc
  have bc := S.out.box.cell
  go_region_held3 (fun w' => (∀ i, w'.cell? ⟨w.heap.size, i, none⟩ = (#[.slice la ln lc, .slice na nn nc, .int .i64 sw, .int .i64 id, .int .i64 ch, .int .i64 qu, .int .i64 sl, .int .i64 pp] : Array Value)[i]?) ∧ Hid (St w w' w.heap.size #[.slice la ln lc, .slice na nn nc, .int .i64 sw, .int .i64 id, .int .i64 ch, .int .i64 qu, .int .i64 sl, .int .i64 pp] 25 la ln lf))
    (first
      | exact ⟨bc, S⟩
      | exact ⟨S5.out.box.cell, S5⟩)
    (first
      | (go_at_call 22; go_split_ands; rename_i hS; refine (C7.out _ (by exact hS.out.rows)).mono ?_; rintro e1 w5 ⟨rfl, hb5⟩; have S5 := st_next hS hb5; clear hb5)
      | (go_at_call 23; go_split_ands; rename_i hS; refine (C8.out _ (by exact hS.out.rows)).mono ?_; rintro e1 w5 ⟨rfl, hb5⟩; have S5 := st_next hS hb5; clear hb5)
      | (go_at_call 24; go_split_ands; rename_i hS; refine (C9.out _ (by exact hS.out.rows)).mono ?_; rintro e1 w5 ⟨rfl, hb5⟩; have S5 := st_next hS hb5; clear hb5)
      | (go_at_call 25; go_split_ands; rename_i hS; refine (C10.out _ (by exact hS.out.rows)).mono ?_; rintro e1 w5 ⟨rfl, hb5⟩; have S5 := st_next hS hb5; clear hb5)
      | (go_at_call 15; go_split_ands; rename_i hS; refine (works_any _).mono ?_; rintro e1 w5 ⟨rfl, hb5⟩; have S5 := st_next hS hb5; clear hb5))
  go_wp2_with fail
  go_ret
  exact ⟨rfl, S5.out.bel⟩
end Go.Proofs.Yteikliciijfmmaa.FitL

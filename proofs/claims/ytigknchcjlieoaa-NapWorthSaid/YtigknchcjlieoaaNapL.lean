/- Package nap's laws: few, works, NapCounts, NapPicks. -/
import Derived.Test.YtigknchcjlieoaaNapI
import Derived.Test.YtigknchcjlieoaaLvlP
namespace Go.Proofs.Ytigknchcjlieoaa.NapL
open Go.RowKit Go.Shelf Base Kit Conf PowA PowB PowC PowR WideB Alt RefA Boo LvlA LvlG LvlH LvlI LvlJ LvlP OscPlain OscZ NapA NapB NapC NapD NapE NapF NapG NapH NapI
set_option linter.unusedVariables false
set_option linter.unusedSimpArgs false

set_option maxRecDepth 100000 in
theorem fewn_any (p : PowC) (w : World) (ok : p.Ok w) (b : Bool) (hb : Hid (decide (p.ln ≤ 100 ∧ p.nn ≤ 100) = b)) :
    Calls Try.prog 26 #[.agg #[.slice p.la p.ln p.lc, .slice p.na p.nn p.nc, .int .i64 p.sw, .int .i64 p.id, .int .i64 p.ch, .int .i64 p.qu, .int .i64 p.sl, .int .i64 p.pp]] w fun e w' => e = .returned (.bool b) ∧ Below w.heap.size w w' := by
  have hm := ok.lev.out.1
  have hm2 := ok.nap.out.1
  have hb := hb.out
  by_cases h1 : p.ln ≤ 100
  · by_cases h2 : p.nn ≤ 100
    · obtain rfl : b = true := by rw [← hb]; simp [h1, h2]
      clear hb
      go_enter Try.func26, Try.ntmps26
      go_wp2_with fail
      go_ret
      refine ⟨?_, (Below.refl _ _).alloc (Nat.le_refl _) _⟩
      first | rfl | exact ret_bool (by simp; omega)
    · obtain rfl : b = false := by rw [← hb]; simp [h2]
      have h2 : 100 < p.nn := by omega
      clear hb
      go_enter Try.func26, Try.ntmps26
      go_wp2_with fail
      go_ret
      refine ⟨?_, (Below.refl _ _).alloc (Nat.le_refl _) _⟩
      first | rfl | exact ret_bool (by simp; omega)
  · obtain rfl : b = false := by rw [← hb]; simp [h1]
    have h1 : 100 < p.ln := by omega
    clear hb
    go_enter Try.func26, Try.ntmps26
    go_wp2_with fail
    go_ret
    refine ⟨?_, (Below.refl _ _).alloc (Nat.le_refl _) _⟩
    first | rfl | exact ret_bool (by simp; omega)
def wq (b : Nat) : PowC := ⟨some ⟨b, 0, none⟩, 1, 1, fun _ j => if j = 0 then 5 else 1, some ⟨b + 1, 0, none⟩, 1, 1, fun _ _ => 0, 0, 1, 0, 1, 1000, 1000⟩
theorem rowsL {w : World} {b : Nat} {T : TypeId} (h : Box w b #[.int .i64 5, .int .i64 1] T) : Hid (Open.RowsIn w (some ⟨b, 0, none⟩) 1 2 (fun _ j => if j = 0 then 5 else 1)) := by
  refine Lib.hid ⟨by omega, .inr ⟨b, 0, rfl, h.lt, fun i hi j hj => ?_⟩, fun i hi j hj => ?_⟩
  · rw [h.cell]
    match i, hi, j, hj with
    | 0, _, 0, _ => rfl
    | 0, _, 1, _ => rfl
  · dsimp only
    split <;> exact ⟨by omega, by omega⟩
theorem rowsN {w : World} {b : Nat} {T : TypeId} (h : Box w b #[.int .i64 0, .int .i64 0, .int .i64 0] T) : Hid (Open.RowsIn w (some ⟨b, 0, none⟩) 1 3 (fun _ _ => 0)) := by
  refine Lib.hid ⟨by omega, .inr ⟨b, 0, rfl, h.lt, fun i hi j hj => ?_⟩, fun i hi j hj => ⟨by dsimp only; omega, by dsimp only; omega⟩⟩
  rw [h.cell]
  match i, hi, j, hj with
  | 0, _, 0, _ => rfl
  | 0, _, 1, _ => rfl
  | 0, _, 2, _ => rfl
theorem wq_ok {w : World} {b : Nat} {T U : TypeId} (h : Box w b #[.int .i64 5, .int .i64 1] T) (h2 : Box w (b + 1) #[.int .i64 0, .int .i64 0, .int .i64 0] U) : (wq b).Ok w :=
  ⟨rowsL h, rowsN h2, i64c (a := 0) (by omega), i64c (a := 1) (by omega), i64c (a := 0) (by omega), i64c (a := 1) (by omega), i64c (a := 1000) (by omega), i64c (a := 1000) (by omega)⟩
structure Wq (w w1 : World) : Prop where
  bel : Below w.heap.size w w1
  ok : (wq w.heap.size).Ok w1
  pb : Box w1 (w.heap.size + 1 + 1) #[.slice (some ⟨w.heap.size, 0, none⟩) 1 1, .slice (some ⟨w.heap.size + 1, 0, none⟩) 1 1, .int .i64 0, .int .i64 1, .int .i64 0, .int .i64 1, .int .i64 1000, .int .i64 1000] 25
theorem wq_next {w w1 w2 : World} (h : Hid (Wq w w1)) (k : Below w1.heap.size w1 w2) : Hid (Wq w w2) :=
  Lib.hid ⟨below_next h.out.bel k, h.out.ok.below k (Nat.le_refl _), h.out.pb.next k⟩
set_option maxRecDepth 100000 in
set_option maxHeartbeats 4000000 in
theorem worksn_any (w : World) : Calls Try.prog 27 #[] w fun e w' => e = .returned (.bool true) ∧ Below w.heap.size w w' := by
  have V1 : Hid (∀ b, CntR (wq b) 0 0 1000000 = 0) := Lib.hid (fun b => by kernel_rfl)
  have V2 : Hid (∀ b, CntR (wq b) 0 0 1001002 = 1) := Lib.hid (fun b => by kernel_rfl)
  have V3 : Hid (∀ b, BestR (wq b) 0 1001002 = 0) := Lib.hid (fun b => by kernel_rfl)
  have V4 : Hid (∀ b, PickR (wq b) 0 1001002 1 = -1) := Lib.hid (fun b => by kernel_rfl)
  have S : Hid (Wq w (((w.alloc (.cells #[.int .i64 5, .int .i64 1] 63)).alloc (.cells #[.int .i64 0, .int .i64 0, .int .i64 0] 73)).alloc (.cells #[.slice (some ⟨w.heap.size, 0, none⟩) 1 1, .slice (some ⟨w.heap.size + 1, 0, none⟩) 1 1, .int .i64 0, .int .i64 1, .int .i64 0, .int .i64 1, .int .i64 1000, .int .i64 1000] 25))) := by
    have b0 := ((Box.new w #[.int .i64 5, .int .i64 1] 63).alloc (.cells #[.int .i64 0, .int .i64 0, .int .i64 0] 73)).alloc (.cells #[.slice (some ⟨w.heap.size, 0, none⟩) 1 1, .slice (some ⟨w.heap.size + 1, 0, none⟩) 1 1, .int .i64 0, .int .i64 1, .int .i64 0, .int .i64 1, .int .i64 1000, .int .i64 1000] 25)
    have b1 := (Box.new (w.alloc (.cells #[.int .i64 5, .int .i64 1] 63)) #[.int .i64 0, .int .i64 0, .int .i64 0] 73).alloc (.cells #[.slice (some ⟨w.heap.size, 0, none⟩) 1 1, .slice (some ⟨w.heap.size + 1, 0, none⟩) 1 1, .int .i64 0, .int .i64 1, .int .i64 0, .int .i64 1, .int .i64 1000, .int .i64 1000] 25)
    have b2 := Box.new ((w.alloc (.cells #[.int .i64 5, .int .i64 1] 63)).alloc (.cells #[.int .i64 0, .int .i64 0, .int .i64 0] 73)) #[.slice (some ⟨w.heap.size, 0, none⟩) 1 1, .slice (some ⟨w.heap.size + 1, 0, none⟩) 1 1, .int .i64 0, .int .i64 1, .int .i64 0, .int .i64 1, .int .i64 1000, .int .i64 1000] 25
    rw [World.size_alloc] at b1
    rw [World.size_alloc, World.size_alloc] at b2
    exact Lib.hid ⟨(((Below.refl _ _).alloc (Nat.le_refl _) _).alloc (by simp) _).alloc (by simp; omega) _, wq_ok b0 b1, b2⟩
  go_enter Try.func27, Try.ntmps27
  go_wp2_with fail
  generalize (((w.alloc (.cells #[.int .i64 5, .int .i64 1] 63)).alloc (.cells #[.int .i64 0, .int .i64 0, .int .i64 0] 73)).alloc (.cells #[.slice (some ⟨w.heap.size, 0, none⟩) 1 1, .slice (some ⟨w.heap.size + 1, 0, none⟩) 1 1, .int .i64 0, .int .i64 1, .int .i64 0, .int .i64 1, .int .i64 1000, .int .i64 1000] 25)) = W at S ⊢
  refine (Counts_any (wq w.heap.size) 0 0 1000000 W S.out.ok _ (Lib.hid (V1.out _))).mono ?_
  rintro e1 w2 ⟨rfl, k2⟩
  have S := wq_next S k2
  clear k2
  have c0 := S.out.pb.cell
  go_wp2_with fail
  refine (Counts_any (wq w.heap.size) 0 0 1001002 _ S.out.ok _ (Lib.hid (V2.out _))).mono ?_
  rintro e1 w2 ⟨rfl, k2⟩
  have S := wq_next S k2
  clear k2
  have c0 := S.out.pb.cell
  go_wp2_with fail
  refine (Best_any (wq w.heap.size) 0 1001002 _ S.out.ok (show 1 ≤ 100 by omega) _ (Lib.hid (V3.out _))).mono ?_
  rintro e1 w2 ⟨rfl, k2⟩
  have S := wq_next S k2
  clear k2
  have c0 := S.out.pb.cell
  go_wp2_with fail
  refine (Pick_any (wq w.heap.size) 0 1001002 1 ⟨by omega, by omega⟩ _ S.out.ok (show 1 ≤ 100 by omega) _ (Lib.hid (V4.out _))).mono ?_
  rintro e1 w2 ⟨rfl, k2⟩
  have S := wq_next S k2
  clear k2
  have c0 := S.out.pb.cell
  go_wp2_with fail
  go_ret
  exact ⟨rfl, S.out.bel⟩

theorem tw_drew {w0 w : World} {A B : Array Value} {T U : TypeId} (h : Hid (Tw w0 w A B T U)) : Hid (Tw w0 w.drew A B T U) := tw_next h (Below.refl _ _).drew
theorem nawL_own {w : World} {B : Nat} {p : PowC} {now en : Int} {v : Value} {L : List Nat} (hL : Hid (nawL p now en = L)) (h100 : p.nn ≤ 100) (hown : w.ownsRow B 3 1 v L.length (encL L)) :
    ∃ a cap, v = .slice a L.length cap ∧ Hid (Open.RowsIn w a L.length 1 (fun i _ => ((L.getD i 0 : Nat) : Int))) := by
  have := nawL_len p now en
  rw [hL.out] at this
  refine own_rows hown (by omega) (fun i hi => ?_)
  rw [← hL.out] at hi ⊢
  have h9 : (nawL p now en).getD i 0 ∈ naw p now en p.nn := mem_get hi
  have := (naw_fine h9).1
  omega
set_option maxRecDepth 100000 in
set_option maxHeartbeats 8000000 in
theorem counts_law (p : PowC) (t n0 n1 : Int) (w : World) (ok : p.Ok w) (i0 : I64 t) (h0 : I64 n0) (h1 : I64 n1) :
    Calls Try.prog 8 #[.agg #[.slice p.la p.ln p.lc, .slice p.na p.nn p.nc, .int .i64 p.sw, .int .i64 p.id, .int .i64 p.ch, .int .i64 p.qu, .int .i64 p.sl, .int .i64 p.pp], .int .i64 t, .agg #[.int .i64 n0, .int .i64 n1]] w fun e w' => e = .returned (.bool true) ∧ Below w.heap.size w w' := by
  by_cases hf : p.ln ≤ 100 ∧ p.nn ≤ 100
  · have h100 := hf.2
    have F := Lib.hid (fun w1 (h : Below w.heap.size w w1) => fewn_any p w1 (ok.below h (Nat.le_refl _)) true (Lib.hid (by simpa using hf)))
    obtain ⟨⟨x, e⟩, hx⟩ : ∃ x, CostR p t n0 n1 = x := ⟨_, rfl⟩
    obtain ⟨c, hc⟩ : ∃ c, CntR p t n0 n1 = c := ⟨_, rfl⟩
    obtain ⟨L, hL⟩ : ∃ L, nawL p n0 n1 = L := ⟨_, rfl⟩
    have okh := fun w1 (h : Below w.heap.size w w1) => ok.below h (Nat.le_refl _)
    have C1 := Lib.hid (fun w1 h => Cost_any p t n0 n1 w1 (okh w1 h) x e (Lib.hid hx))
    have C2 := Lib.hid (fun w1 h => Costr_any p t n0 n1 w1 (okh w1 h) x e (Lib.hid hx))
    have C3 := Lib.hid (fun w1 h => Counts_any p t n0 n1 w1 (okh w1 h) c (Lib.hid hc))
    have C4 := Lib.hid (fun w1 h => Countsr_any p t n0 n1 w1 (okh w1 h) c (Lib.hid hc))
    have C5 := Lib.hid (fun w1 h => Allowed_any p n0 n1 w1 (okh w1 h) h100 L (Lib.hid hL))
    have C6 := Lib.hid (fun w1 h => Allowedr_any p n0 n1 w1 (okh w1 h) h100 L (Lib.hid hL))
    have HL := Lib.hid hL
    clear hL hx hc okh
    have S := tw_in w #[.slice p.la p.ln p.lc, .slice p.na p.nn p.nc, .int .i64 p.sw, .int .i64 p.id, .int .i64 p.ch, .int .i64 p.qu, .int .i64 p.sl, .int .i64 p.pp] #[.int .i64 n0, .int .i64 n1] 25 28
    have bc := S.out.one.cell
    have bn := S.out.two.cell
    go_enter Try.func8, Try.ntmps8
    go_wp2_with fail
    generalize (w.alloc (.cells #[.slice p.la p.ln p.lc, .slice p.na p.nn p.nc, .int .i64 p.sw, .int .i64 p.id, .int .i64 p.ch, .int .i64 p.qu, .int .i64 p.sl, .int .i64 p.pp] 25)).alloc (.cells #[.int .i64 n0, .int .i64 n1] 28) = W at S bc bn ⊢
    refine (F.out _ S.out.bel).mono ?_
    rintro e1 w2 ⟨rfl, hb2⟩
    have S := tw_next S hb2
    clear hb2 bc bn
    have bc := S.out.one.cell
    have bn := S.out.two.cell
    go_wp2_with fail
    refine (C1.out _ S.out.bel).mono ?_
    rintro e1 w2 ⟨rfl, hb2⟩
    have S := tw_next S hb2
    clear hb2 bc bn
    have bc := S.out.one.cell
    have bn := S.out.two.cell
    go_wp2_with fail
    refine (C2.out _ S.out.bel).mono ?_
    rintro e1 w2 ⟨rfl, hb2⟩
    have S := tw_next S hb2
    clear hb2 bc bn
    have bc := S.out.one.cell
    have bn := S.out.two.cell
    go_wp2_with fail
    have S := tw_drew S
    clear bc bn
    have bc := S.out.one.cell
    have bn := S.out.two.cell
    go_region_held3 (fun w' => (∀ i, w'.cell? ⟨w.heap.size, i, none⟩ = (#[.slice p.la p.ln p.lc, .slice p.na p.nn p.nc, .int .i64 p.sw, .int .i64 p.id, .int .i64 p.ch, .int .i64 p.qu, .int .i64 p.sl, .int .i64 p.pp] : Array Value)[i]?) ∧ (∀ i, w'.cell? ⟨w.heap.size + 1, i, none⟩ = (#[.int .i64 n0, .int .i64 n1] : Array Value)[i]?) ∧ Hid (Tw w w' #[.slice p.la p.ln p.lc, .slice p.na p.nn p.nc, .int .i64 p.sw, .int .i64 p.id, .int .i64 p.ch, .int .i64 p.qu, .int .i64 p.sl, .int .i64 p.pp] #[.int .i64 n0, .int .i64 n1] 25 28))
      (first | exact ⟨S5.out.one.cell, S5.out.two.cell, S5⟩ | exact ⟨bc, bn, S⟩)
      (first
        | (go_at_call 13; go_split_ands; rename_i hS; refine (Same.same_walk _ _ _ _ _ _ _ R1 R2).mono ?_; rintro e1 w5 ⟨rfl, hb5⟩; have S5 := tw_next hS hb5; (try have R1 := rows_next R1 hb5); (try have R2 := rows_next R2 hb5); clear hb5)
        | (go_at_call 34; go_split_ands; rename_i hS; refine (C3.out _ (by exact hS.out.bel)).mono ?_; rintro e1 w5 ⟨rfl, hb5⟩; have S5 := tw_next hS hb5; (try have R1 := rows_next R1 hb5); (try have R2 := rows_next R2 hb5); clear hb5)
        | (go_at_call 35; go_split_ands; rename_i hS; refine (C4.out _ (by exact hS.out.bel)).mono ?_; rintro e1 w5 ⟨rfl, hb5⟩; have S5 := tw_next hS hb5; (try have R1 := rows_next R1 hb5); (try have R2 := rows_next R2 hb5); clear hb5)
        | (go_at_call 36; go_split_ands; rename_i hS; refine (C5.out _ (by exact hS.out.bel)).mono ?_; rintro e1 w5 ⟨v1, rfl, own1, hb5⟩; have S5 := tw_next hS hb5; (try have R1 := rows_next R1 hb5); (try have R2 := rows_next R2 hb5); clear hb5; obtain ⟨a1, cp1, rfl, R1⟩ := nawL_own HL h100 own1; clear own1)
        | (go_at_call 37; go_split_ands; rename_i hS; refine (C6.out _ (by exact hS.out.bel)).mono ?_; rintro e1 w5 ⟨v1, rfl, own1, hb5⟩; have S5 := tw_next hS hb5; (try have R1 := rows_next R1 hb5); (try have R2 := rows_next R2 hb5); clear hb5; obtain ⟨a2, cp2, rfl, R2⟩ := nawL_own HL h100 own1; clear own1)
        | (go_at_call 27; go_split_ands; rename_i hS; refine (worksn_any _).mono ?_; rintro e1 w5 ⟨rfl, hb5⟩; have S5 := tw_next hS hb5; (try have R1 := rows_next R1 hb5); (try have R2 := rows_next R2 hb5); clear hb5))
    all_goals
      go_wp2_with fail
      go_ret
      exact ⟨rfl, S5.out.bel⟩
  · have F := Lib.hid (fun w1 (h : Below w.heap.size w w1) => fewn_any p w1 (ok.below h (Nat.le_refl _)) false (Lib.hid (by simpa using hf)))
    have S := tw_in w #[.slice p.la p.ln p.lc, .slice p.na p.nn p.nc, .int .i64 p.sw, .int .i64 p.id, .int .i64 p.ch, .int .i64 p.qu, .int .i64 p.sl, .int .i64 p.pp] #[.int .i64 n0, .int .i64 n1] 25 28
    have bc := S.out.one.cell
    have bn := S.out.two.cell
    go_enter Try.func8, Try.ntmps8
    go_wp2_with fail
    generalize (w.alloc (.cells #[.slice p.la p.ln p.lc, .slice p.na p.nn p.nc, .int .i64 p.sw, .int .i64 p.id, .int .i64 p.ch, .int .i64 p.qu, .int .i64 p.sl, .int .i64 p.pp] 25)).alloc (.cells #[.int .i64 n0, .int .i64 n1] 28) = W at S bc bn ⊢
    refine (F.out _ S.out.bel).mono ?_
    rintro e1 w2 ⟨rfl, hb2⟩
    have S := tw_next S hb2
    clear hb2 bc bn
    have bc := S.out.one.cell
    have bn := S.out.two.cell
    go_wp2_with fail
    refine (worksn_any _).mono ?_
    rintro e1 w2 ⟨rfl, hb2⟩
    have S := tw_next S hb2
    clear hb2
    go_wp2_with fail
    go_ret
    exact ⟨rfl, S.out.bel⟩
set_option maxRecDepth 100000 in
set_option maxHeartbeats 8000000 in
theorem picks_law (p : PowC) (n0 n1 t : Int) (w : World) (ok : p.Ok w) (h0 : I64 n0) (h1 : I64 n1) (i0 : I64 t) :
    Calls Try.prog 7 #[.agg #[.slice p.la p.ln p.lc, .slice p.na p.nn p.nc, .int .i64 p.sw, .int .i64 p.id, .int .i64 p.ch, .int .i64 p.qu, .int .i64 p.sl, .int .i64 p.pp], .agg #[.int .i64 n0, .int .i64 n1], .int .i64 t] w fun e w' => e = .returned (.bool true) ∧ Below w.heap.size w w' := by
  by_cases hf : p.ln ≤ 100 ∧ p.nn ≤ 100
  · have h100 := hf.2
    have F := Lib.hid (fun w1 (h : Below w.heap.size w w1) => fewn_any p w1 (ok.below h (Nat.le_refl _)) true (Lib.hid (by simpa using hf)))
    obtain ⟨x, hx⟩ : ∃ x, BestR p n0 n1 = x := ⟨_, rfl⟩
    obtain ⟨c, hc⟩ : ∃ c, PickR p n0 n1 t = c := ⟨_, rfl⟩
    have okh := fun w1 (h : Below w.heap.size w w1) => ok.below h (Nat.le_refl _)
    have C1 := Lib.hid (fun w1 h => Best_any p n0 n1 w1 (okh w1 h) h100 x (Lib.hid hx))
    have C2 := Lib.hid (fun w1 h => Bestr_any p n0 n1 w1 (okh w1 h) h100 x (Lib.hid hx))
    have C3 := Lib.hid (fun w1 h => Pick_any p n0 n1 t i0 w1 (okh w1 h) h100 c (Lib.hid hc))
    have C4 := Lib.hid (fun w1 h => Pickr_any p n0 n1 t i0 w1 (okh w1 h) h100 c (Lib.hid hc))
    clear hx hc okh
    have S := tw_in w #[.slice p.la p.ln p.lc, .slice p.na p.nn p.nc, .int .i64 p.sw, .int .i64 p.id, .int .i64 p.ch, .int .i64 p.qu, .int .i64 p.sl, .int .i64 p.pp] #[.int .i64 n0, .int .i64 n1] 25 28
    have bc := S.out.one.cell
    have bn := S.out.two.cell
    go_enter Try.func7, Try.ntmps7
    go_wp2_with fail
    generalize (w.alloc (.cells #[.slice p.la p.ln p.lc, .slice p.na p.nn p.nc, .int .i64 p.sw, .int .i64 p.id, .int .i64 p.ch, .int .i64 p.qu, .int .i64 p.sl, .int .i64 p.pp] 25)).alloc (.cells #[.int .i64 n0, .int .i64 n1] 28) = W at S bc bn ⊢
    refine (F.out _ S.out.bel).mono ?_
    rintro e1 w2 ⟨rfl, hb2⟩
    have S := tw_next S hb2
    clear hb2 bc bn
    have bc := S.out.one.cell
    have bn := S.out.two.cell
    go_wp2_with fail
    have S := tw_drew S
    clear bc bn
    have bc := S.out.one.cell
    have bn := S.out.two.cell
    go_region_held3 (fun w' => (∀ i, w'.cell? ⟨w.heap.size, i, none⟩ = (#[.slice p.la p.ln p.lc, .slice p.na p.nn p.nc, .int .i64 p.sw, .int .i64 p.id, .int .i64 p.ch, .int .i64 p.qu, .int .i64 p.sl, .int .i64 p.pp] : Array Value)[i]?) ∧ (∀ i, w'.cell? ⟨w.heap.size + 1, i, none⟩ = (#[.int .i64 n0, .int .i64 n1] : Array Value)[i]?) ∧ Hid (Tw w w' #[.slice p.la p.ln p.lc, .slice p.na p.nn p.nc, .int .i64 p.sw, .int .i64 p.id, .int .i64 p.ch, .int .i64 p.qu, .int .i64 p.sl, .int .i64 p.pp] #[.int .i64 n0, .int .i64 n1] 25 28))
      (first | exact ⟨S5.out.one.cell, S5.out.two.cell, S5⟩ | exact ⟨bc, bn, S⟩)
      (first
        | (go_at_call 28; go_split_ands; rename_i hS; refine (C1.out _ (by exact hS.out.bel)).mono ?_; rintro e1 w5 ⟨rfl, hb5⟩; have S5 := tw_next hS hb5; (try have R1 := rows_next R1 hb5); (try have R2 := rows_next R2 hb5); clear hb5)
        | (go_at_call 29; go_split_ands; rename_i hS; refine (C2.out _ (by exact hS.out.bel)).mono ?_; rintro e1 w5 ⟨rfl, hb5⟩; have S5 := tw_next hS hb5; (try have R1 := rows_next R1 hb5); (try have R2 := rows_next R2 hb5); clear hb5)
        | (go_at_call 30; go_split_ands; rename_i hS; refine (C3.out _ (by exact hS.out.bel)).mono ?_; rintro e1 w5 ⟨rfl, hb5⟩; have S5 := tw_next hS hb5; (try have R1 := rows_next R1 hb5); (try have R2 := rows_next R2 hb5); clear hb5)
        | (go_at_call 31; go_split_ands; rename_i hS; refine (C4.out _ (by exact hS.out.bel)).mono ?_; rintro e1 w5 ⟨rfl, hb5⟩; have S5 := tw_next hS hb5; (try have R1 := rows_next R1 hb5); (try have R2 := rows_next R2 hb5); clear hb5)
        | (go_at_call 27; go_split_ands; rename_i hS; refine (worksn_any _).mono ?_; rintro e1 w5 ⟨rfl, hb5⟩; have S5 := tw_next hS hb5; (try have R1 := rows_next R1 hb5); (try have R2 := rows_next R2 hb5); clear hb5))
    all_goals
      go_wp2_with fail
      go_ret
      exact ⟨rfl, S5.out.bel⟩
  · have F := Lib.hid (fun w1 (h : Below w.heap.size w w1) => fewn_any p w1 (ok.below h (Nat.le_refl _)) false (Lib.hid (by simpa using hf)))
    have S := tw_in w #[.slice p.la p.ln p.lc, .slice p.na p.nn p.nc, .int .i64 p.sw, .int .i64 p.id, .int .i64 p.ch, .int .i64 p.qu, .int .i64 p.sl, .int .i64 p.pp] #[.int .i64 n0, .int .i64 n1] 25 28
    have bc := S.out.one.cell
    have bn := S.out.two.cell
    go_enter Try.func7, Try.ntmps7
    go_wp2_with fail
    generalize (w.alloc (.cells #[.slice p.la p.ln p.lc, .slice p.na p.nn p.nc, .int .i64 p.sw, .int .i64 p.id, .int .i64 p.ch, .int .i64 p.qu, .int .i64 p.sl, .int .i64 p.pp] 25)).alloc (.cells #[.int .i64 n0, .int .i64 n1] 28) = W at S bc bn ⊢
    refine (F.out _ S.out.bel).mono ?_
    rintro e1 w2 ⟨rfl, hb2⟩
    have S := tw_next S hb2
    clear hb2 bc bn
    have bc := S.out.one.cell
    have bn := S.out.two.cell
    go_wp2_with fail
    refine (worksn_any _).mono ?_
    rintro e1 w2 ⟨rfl, hb2⟩
    have S := tw_next S hb2
    clear hb2
    go_wp2_with fail
    go_ret
    exact ⟨rfl, S.out.bel⟩
end Go.Proofs.Ytigknchcjlieoaa.NapL

/- Package level's laws: few, of, works. -/
import Derived.Test.YtigknchcjlieoaaLvlN
import Derived.Test.YtigknchcjlieoaaSame
namespace Go.Proofs.Ytigknchcjlieoaa.LvlP
open Go.RowKit Go.Shelf Base Kit Conf PowA PowB PowC PowR WideB Alt RefA LvlA LvlB LvlC LvlD LvlE LvlF LvlG LvlH LvlI LvlJ LvlK LvlM LvlN
set_option linter.unusedVariables false
set_option linter.unusedSimpArgs false

set_option maxRecDepth 100000 in
theorem few_any (p : PowC) (w : World) (ok : p.Ok w) (b : Bool) (hb : Hid (decide (p.ln ≤ 100 ∧ p.nn ≤ 100) = b)) :
    Calls Try.prog 11 #[.agg #[.slice p.la p.ln p.lc, .slice p.na p.nn p.nc, .int .i64 p.sw, .int .i64 p.id, .int .i64 p.ch, .int .i64 p.qu, .int .i64 p.sl, .int .i64 p.pp]] w fun e w' => e = .returned (.bool b) ∧ Below w.heap.size w w' := by
  have hm := ok.lev.out.1
  have hm2 := ok.nap.out.1
  have hb := hb.out
  by_cases h1 : p.ln ≤ 100
  · by_cases h2 : p.nn ≤ 100
    · obtain rfl : b = true := by rw [← hb]; simp [h1, h2]
      clear hb
      go_enter Try.func11, Try.ntmps11
      go_wp2_with fail
      go_ret
      refine ⟨?_, (Below.refl _ _).alloc (Nat.le_refl _) _⟩
      first | rfl | exact ret_bool (by simp; omega)
    · obtain rfl : b = false := by rw [← hb]; simp [h2]
      have h2 : 100 < p.nn := by omega
      clear hb
      go_enter Try.func11, Try.ntmps11
      go_wp2_with fail
      go_ret
      refine ⟨?_, (Below.refl _ _).alloc (Nat.le_refl _) _⟩
      first | rfl | exact ret_bool (by simp; omega)
  · obtain rfl : b = false := by rw [← hb]; simp [h1]
    have h1 : 100 < p.ln := by omega
    clear hb
    go_enter Try.func11, Try.ntmps11
    go_wp2_with fail
    go_ret
    refine ⟨?_, (Below.refl _ _).alloc (Nat.le_refl _) _⟩
    first | rfl | exact ret_bool (by simp; omega)
set_option maxRecDepth 100000 in
theorem of_any (x : X5) (w : World) :
    Calls Try.prog 15 #[.agg #[.int .i64 x.now, .int .i64 x.base, .int .i64 x.dn, .int .i64 x.lv, .int .i64 x.lf]] w fun e w' => e = .returned (.agg #[.int .i64 x.now, .int .i64 x.base, .int .i64 x.dn, .int .i64 x.lv, .int .i64 x.lf]) ∧ Below w.heap.size w w' := by
  go_enter Try.func15, Try.ntmps15
  go_wp2_with fail
  refine bodyPost_ret (v := .agg #[.int .i64 x.now, .int .i64 x.base, .int .i64 x.dn, .int .i64 x.lv, .int .i64 x.lf]) ?_ rfl ⟨rfl, ?_⟩
  · simp [results, Try.results15, go_sem]
  all_goals (repeat (first | exact Below.refl _ _ | exact HB.out | exact below_in _ (by assumption) | assumption | exact Nat.le_refl _ | refine Below.setCell ?_ (by first | (simp; done) | (simp; omega) | omega) _ | refine Below.alloc ?_ (by first | exact Nat.le_refl _ | (simp; done) | (simp; omega) | omega) _ | refine Below.drew ?_))

def wp (b : Nat) : PowC := ⟨some ⟨b, 0, none⟩, 2, 2, fun i j => if i = 0 then (if j = 0 then 5 else 1) else (if j = 0 then 10 else 4), none, 0, 0, fun _ _ => 0, 0, 0, 0, 1, 1, 0⟩
def wx : X5 := ⟨0, 0, 0, 0, 20⟩
theorem rows_box2 {w : World} {b : Nat} {T : TypeId} (h : Box w b #[.int .i64 5, .int .i64 1, .int .i64 10, .int .i64 4] T) : Hid (Open.RowsIn w (some ⟨b, 0, none⟩) 2 2 (fun i j => if i = 0 then (if j = 0 then 5 else 1) else (if j = 0 then 10 else 4))) := by
  refine Lib.hid ⟨by omega, .inr ⟨b, 0, rfl, h.lt, fun i hi j hj => ?_⟩, fun i hi j hj => ?_⟩
  · rw [h.cell]
    match i, hi, j, hj with
    | 0, _, 0, _ => rfl
    | 0, _, 1, _ => rfl
    | 1, _, 0, _ => rfl
    | 1, _, 1, _ => rfl
  · dsimp only
    split <;> split <;> exact ⟨by omega, by omega⟩
theorem i64c {a : Int} (h : 0 ≤ a ∧ a ≤ 1000) : I64 a := ⟨by omega, by omega⟩
theorem wp_ok {w : World} {b : Nat} {T : TypeId} (h : Box w b #[.int .i64 5, .int .i64 1, .int .i64 10, .int .i64 4] T) : (wp b).Ok w :=
  ⟨rows_box2 h, Lib.hid ⟨by show (0 : Nat) ≤ _; omega, .inl rfl, fun i hi => absurd hi (Nat.not_lt_zero i)⟩, i64c (a := 0) (by omega), i64c (a := 0) (by omega), i64c (a := 0) (by omega), i64c (a := 1) (by omega), i64c (a := 1) (by omega), i64c (a := 0) (by omega)⟩
/-- the inner function's world -/
structure Wk (w0 w : World) (b : Nat) : Prop where
  bel : Below w0.heap.size w0 w
  ok : (wp b).Ok w
  pb : Box w (b + 1) #[.slice (some ⟨b, 0, none⟩) 2 2, .slice none 0 0, .int .i64 0, .int .i64 0, .int .i64 0, .int .i64 1, .int .i64 1, .int .i64 0] 25
  xb : Box w (b + 1 + 1) #[.int .i64 0, .int .i64 0, .int .i64 0, .int .i64 0, .int .i64 20] 34
theorem wk_next {w0 w w1 : World} {b : Nat} (h : Hid (Wk w0 w b)) (k : Below w.heap.size w w1) : Hid (Wk w0 w1 b) :=
  Lib.hid ⟨below_next h.out.bel k, h.out.ok.below k (Nat.le_refl _), h.out.pb.next k, h.out.xb.next k⟩
/-- an owned list of numbers as rows -/
theorem own_rows {w : World} {B : Nat} {v : Value} {L : List Nat} (hown : w.ownsRow B 3 1 v L.length (encL L)) (hn : L.length ≤ 100) (hL : ∀ i, i < L.length → L.getD i 0 ≤ 1000000000) : ∃ a cap, v = .slice a L.length cap ∧ Hid (Open.RowsIn w a L.length 1 (fun i _ => ((L.getD i 0 : Nat) : Int))) := by
  rw [encL_row] at hown
  obtain ⟨a, cap, h1, h2⟩ := Same.rows_of_own hown (by omega) (fun i hi => by have := hL i hi; show -9223372036854775808 ≤ ((L.getD i 0 : Nat) : Int) ∧ ((L.getD i 0 : Nat) : Int) ≤ 9223372036854775807; omega)
  exact ⟨a, cap, h1, Lib.hid h2⟩
theorem lit_rows {w : World} {b : Nat} {T : TypeId} {L : List Nat} {vs : Array Value} (h : Box w b vs T) (hv : ∀ i, i < L.length → vs[i]? = some (.int .i64 ((L.getD i 0 : Nat) : Int))) (hn : L.length ≤ 100) (hL : ∀ i, i < L.length → L.getD i 0 ≤ 1000000000) : Hid (Open.RowsIn w (some ⟨b, 0, none⟩) L.length 1 (fun i _ => ((L.getD i 0 : Nat) : Int))) := by
  refine Lib.hid ⟨by omega, .inr ⟨b, 0, rfl, h.lt, fun i hi j hj => ?_⟩, fun i hi j hj => ?_⟩
  · obtain rfl : j = 0 := by omega
    rw [h.cell]
    simpa using hv i hi
  · have := hL i hi; show I64 ((L.getD i 0 : Nat) : Int); exact ⟨by omega, by omega⟩

theorem lit2 : ∀ i, i < [0, 1].length → (#[.int .i64 0, .int .i64 1] : Array Value)[i]? = some (.int .i64 (([0, 1].getD i 0 : Nat) : Int))
  | 0, _ => rfl
  | 1, _ => rfl
  | i + 2, h => by have h' : i + 2 < 2 := h; omega
theorem lit1 : ∀ i, i < [1].length → (#[.int .i64 1] : Array Value)[i]? = some (.int .i64 (([1].getD i 0 : Nat) : Int))
  | 0, _ => rfl
  | i + 1, h => by have h' : i + 1 < 1 := h; omega
set_option maxRecDepth 100000 in
set_option maxHeartbeats 4000000 in
theorem works_any (w : World) : Calls Try.prog 12 #[] w fun e w' => e = .returned (.bool true) ∧ Below w.heap.size w w' := by
  have v1 : ∀ b, alwL (wp b) wx 4000 = [0, 1] := fun b => by kernel_rfl
  have v2 : ∀ b, alwL (wp b) wx 3999 = [1] := fun b => by kernel_rfl
  have v3 : ∀ b, bestR (wp b) wx 4000 = 0 := fun b => by kernel_rfl
  have v4 : ∀ b, pickR (wp b) wx 4000 2 = 1 := fun b => by kernel_rfl
  have v5 : ∀ b, bestR (wp b) wx 1999 = -1 := fun b => by kernel_rfl
  have V1 := Lib.hid v1
  have V2 := Lib.hid v2
  have V3 := Lib.hid v3
  have V4 := Lib.hid v4
  have V5 := Lib.hid v5
  clear v1 v2 v3 v4 v5
  go_enter Try.func12, Try.ntmps12
  go_wp2_with fail
  have S : Hid (Wk w (((w.alloc (.cells #[.int .i64 5, .int .i64 1, .int .i64 10, .int .i64 4] 63)).alloc (.cells #[.slice (some ⟨w.heap.size, 0, none⟩) 2 2, .slice none 0 0, .int .i64 0, .int .i64 0, .int .i64 0, .int .i64 1, .int .i64 1, .int .i64 0] 25)).alloc (.cells #[.int .i64 0, .int .i64 0, .int .i64 0, .int .i64 0, .int .i64 20] 34)) w.heap.size) := by
    have b0 := ((Box.new w #[.int .i64 5, .int .i64 1, .int .i64 10, .int .i64 4] 63).alloc (.cells #[.slice (some ⟨w.heap.size, 0, none⟩) 2 2, .slice none 0 0, .int .i64 0, .int .i64 0, .int .i64 0, .int .i64 1, .int .i64 1, .int .i64 0] 25)).alloc (.cells #[.int .i64 0, .int .i64 0, .int .i64 0, .int .i64 0, .int .i64 20] 34)
    have b1 := (Box.new (w.alloc (.cells #[.int .i64 5, .int .i64 1, .int .i64 10, .int .i64 4] 63)) #[.slice (some ⟨w.heap.size, 0, none⟩) 2 2, .slice none 0 0, .int .i64 0, .int .i64 0, .int .i64 0, .int .i64 1, .int .i64 1, .int .i64 0] 25).alloc (.cells #[.int .i64 0, .int .i64 0, .int .i64 0, .int .i64 0, .int .i64 20] 34)
    have b2 := Box.new ((w.alloc (.cells #[.int .i64 5, .int .i64 1, .int .i64 10, .int .i64 4] 63)).alloc (.cells #[.slice (some ⟨w.heap.size, 0, none⟩) 2 2, .slice none 0 0, .int .i64 0, .int .i64 0, .int .i64 0, .int .i64 1, .int .i64 1, .int .i64 0] 25)) #[.int .i64 0, .int .i64 0, .int .i64 0, .int .i64 0, .int .i64 20] 34
    rw [World.size_alloc] at b1
    rw [World.size_alloc, World.size_alloc] at b2
    exact Lib.hid ⟨(((Below.refl _ _).alloc (Nat.le_refl _) _).alloc (by simp) _).alloc (by simp; omega) _, wp_ok b0, b1, b2⟩
  generalize ((w.alloc (.cells #[.int .i64 5, .int .i64 1, .int .i64 10, .int .i64 4] 63)).alloc (.cells #[.slice (some ⟨w.heap.size, 0, none⟩) 2 2, .slice none 0 0, .int .i64 0, .int .i64 0, .int .i64 0, .int .i64 1, .int .i64 1, .int .i64 0] 25)).alloc (.cells #[.int .i64 0, .int .i64 0, .int .i64 0, .int .i64 0, .int .i64 20] 34) = W at S ⊢
  refine (Allowed_any (wp w.heap.size) wx 4000 W S.out.ok (show 2 ≤ 100 by omega) _ (Lib.hid (V1.out _))).mono ?_
  rintro e1 w2 ⟨v, rfl, hown, k2⟩
  obtain ⟨a, cp, rfl, R1⟩ := own_rows hown (by decide) (by decide)
  have S := wk_next S k2
  clear k2 hown
  go_wp2_with fail
  refine (Same.same_walk _ _ _ _ _ _ _ (rows_alloc R1 _) (lit_rows (Box.new _ _ _) lit2 (by decide) (by decide))).mono ?_
  rintro e1 w3 ⟨rfl, k3⟩
  have S := wk_next S (below_in _ k3)
  clear k3 R1
  have c0 := S.out.pb.cell
  have c1 := S.out.xb.cell
  go_wp2_with fail
  refine (Allowed_any (wp w.heap.size) wx 3999 _ S.out.ok (show 2 ≤ 100 by omega) _ (Lib.hid (V2.out _))).mono ?_
  rintro e1 w2 ⟨v, rfl, hown, k2⟩
  obtain ⟨a, cp, rfl, R1⟩ := own_rows hown (by decide) (by decide)
  have S := wk_next S k2
  clear k2 hown
  go_wp2_with fail
  refine (Same.same_walk _ _ _ _ _ _ _ (rows_alloc R1 _) (lit_rows (Box.new _ _ _) lit1 (by decide) (by decide))).mono ?_
  rintro e1 w3 ⟨rfl, k3⟩
  have S := wk_next S (below_in _ k3)
  clear k3 R1
  have c0 := S.out.pb.cell
  have c1 := S.out.xb.cell
  go_wp2_with fail
  refine (Best_any (wp w.heap.size) wx 4000 _ S.out.ok (show 2 ≤ 100 by omega) _ (Lib.hid (V3.out _))).mono ?_
  rintro e1 w2 ⟨rfl, k2⟩
  have S := wk_next S k2
  clear k2
  have c0 := S.out.pb.cell
  have c1 := S.out.xb.cell
  go_wp2_with fail
  refine (Pick_any (wp w.heap.size) wx 4000 2 ⟨by omega, by omega⟩ _ S.out.ok (show 2 ≤ 100 by omega) _ (Lib.hid (V4.out _))).mono ?_
  rintro e1 w2 ⟨rfl, k2⟩
  have S := wk_next S k2
  clear k2
  have c0 := S.out.pb.cell
  have c1 := S.out.xb.cell
  go_wp2_with fail
  refine (Best_any (wp w.heap.size) wx 1999 _ S.out.ok (show 2 ≤ 100 by omega) _ (Lib.hid (V5.out _))).mono ?_
  rintro e1 w2 ⟨rfl, k2⟩
  have S := wk_next S k2
  clear k2
  go_wp2_with fail
  go_ret
  exact ⟨rfl, S.out.bel⟩
end Go.Proofs.Ytigknchcjlieoaa.LvlP

/- The laws' inner function works. -/
import Derived.Test.YteikliciijfmmaaLedT
namespace Go.Proofs.Yteikliciijfmmaa.LedW
open Go.RowKit Base Kit WideA WideB Plain FitA FitB FitC Conf Conf2 Alt RefA LedA LedB LedC LedD Short FitR LedN LedE LedR LedS LedT
set_option linter.unusedVariables false
set_option linter.unusedSimpArgs false

def wp : PartC := ⟨none, 0, 0, fun _ => 0, fun _ => 0, fun _ => false, none, 0, 0, fun _ _ => 0, none, 0, 0, fun _ => false, fun _ => false, fun _ => 0, fun _ => 0, none, 0, 0, fun _ _ => 0, 0, none, 0, 0, fun _ _ => 0, none, 0, 0, fun _ => 0, 0, 6000, 0, none, 0, 0, fun _ => 0⟩
def ww (b : Nat) : PowC := ⟨some ⟨b + 1, 0, none⟩, 1, 1, fun _ j => if j = 0 then 10 else 3, none, 0, 0, fun _ _ => 0, 0, 0, 0, 30, 0, 0⟩
def wc (b : Nat) : ConfC := ⟨some ⟨b, 0, none⟩, 1, 1, fun _ => wp, none, 0, 0, fun _ _ => 0, none, 0, 0, fun _ => ⟨0, none, 0, 0, fun _ _ => 0⟩, ww b, none, 0, 0, fun _ => 0, none, 0, 0, fun _ => 0⟩
theorem i64z : I64 0 := ⟨by omega, by omega⟩
theorem rows0 (w : World) (sz : Nat) (f : Nat → Nat → Int) : Hid (Open.RowsIn w none 0 sz f) := Lib.hid ⟨by omega, .inl rfl, fun i hi => by omega⟩
theorem rowsV0 (w : World) (sz : Nat) (f : Nat → Nat → Value) : Hid (RowsV w none 0 sz f) := Lib.hid ⟨by omega, .inl rfl⟩
theorem wp_ok (w : World) : wp.Ok w := ⟨rowsV0 _ _ _, fun i hi => absurd hi (Nat.not_lt_zero i), rows0 _ _ _, rowsV0 _ _ _, fun i hi => absurd hi (Nat.not_lt_zero i), rows0 _ _ _, i64z, rows0 _ _ _, rows0 _ _ _, i64z, ⟨by show (-9223372036854775808 : Int) ≤ 6000; omega, by show (6000 : Int) ≤ 9223372036854775807; omega⟩, i64z, rows0 _ _ _⟩
theorem wc_ok {w : World} {b : Nat} {T U : TypeId} (h1 : Box w b #[.slice none 0 0, .slice none 0 0, .slice none 0 0, .slice none 0 0, .int .i64 0, .slice none 0 0, .slice none 0 0, .int .i64 0, .int .i64 6000, .int .i64 0, .slice none 0 0] T) (h2 : Box w (b + 1) #[.int .i64 10, .int .i64 3] U) : (wc b).Ok w := by
  refine ⟨Lib.hid ⟨Nat.le_of_ble_eq_true rfl, .inr ⟨b, 0, rfl, h1.lt, fun i hi j hj => ?_⟩⟩, fun i hi => wp_ok w, rows0 _ _ _, rowsV0 _ _ _, fun i hi => absurd hi (Nat.not_lt_zero i), ⟨FitL.rows_box1 h2 ⟨by omega, by omega⟩ ⟨by omega, by omega⟩, rows0 _ _ _, i64z, i64z, i64z, ⟨by show (-9223372036854775808 : Int) ≤ 30; omega, by show (30 : Int) ≤ 9223372036854775807; omega⟩, i64z, i64z⟩, rows0 _ _ _, rows0 _ _ _⟩
  obtain rfl : i = 0 := by have : i < 1 := hi; omega
  rw [h1.cell]
  match j, hj with
  | 0, _ => rfl
  | 1, _ => rfl
  | 2, _ => rfl
  | 3, _ => rfl
  | 4, _ => rfl
  | 5, _ => rfl
  | 6, _ => rfl
  | 7, _ => rfl
  | 8, _ => rfl
  | 9, _ => rfl
  | 10, _ => rfl
theorem wc_sh (b : Nat) : Sh (wc b) := ⟨⟨Nat.le_of_ble_eq_true rfl, Nat.le_of_ble_eq_true rfl, Nat.le_of_ble_eq_true rfl, Nat.le_of_ble_eq_true rfl, Nat.le_of_ble_eq_true rfl, Nat.le_of_ble_eq_true rfl, Nat.le_of_ble_eq_true rfl⟩, fun i hi => ⟨Nat.le_of_ble_eq_true rfl, Nat.le_of_ble_eq_true rfl, Nat.le_of_ble_eq_true rfl, Nat.le_of_ble_eq_true rfl, Nat.le_of_ble_eq_true rfl, Nat.le_of_ble_eq_true rfl, Nat.le_of_ble_eq_true rfl⟩, fun i hi => absurd hi (Nat.not_lt_zero i)⟩
set_option maxRecDepth 100000 in
set_option maxHeartbeats 4000000 in
theorem works_any (w : World) : Calls Try.prog 27 #[] w fun e w' => e = .returned (.bool true) ∧ Below w.heap.size w w' := by
  have v1 : ∀ b, pieceP (ww b) (qm (wc b)) (fun i => ((wc b).p i).bud) 1 (fun _ => 0) 0 20 = 20 := fun b => by kernel_rfl
  have v2 : ∀ b, spendP (ww b) 1 (fun _ => 0) 0 20 = (0, upd (fun _ => 0) 0 20) := fun b => by
    have e : ¬ (¬ ((0 : Int) ≤ 0 ∧ (0 : Int) < ((1 : Nat) : Int)) ∨ (20 : Int) < 0) := by decide
    have e3 : (cst (ww b) ((0 : Int) + 20)).2 = 0 := by kernel_rfl
    have e2 : ¬ (1099511627776 - (0 : Int) < 20 ∨ (cst (ww b) ((0 : Int) + 20)).2 ≠ 0) := by rw [e3]; omega
    unfold spendP
    rw [if_neg e]
    simp only [Int.toNat_zero]
    rw [if_neg e2]; rfl
  have v3 : ∀ b, usedP (ww b) 1 (upd (fun _ => 0) 0 20) 0 = 6000 := fun b => by kernel_rfl
  have v4 : ∀ b, outP (ww b) (fun i => ((wc b).p i).bud) 1 (upd (fun _ => 0) 0 20) 0 = true := fun b => by kernel_rfl
  have v5 : ∀ b, pieceP (ww b) (qm (wc b)) (fun i => ((wc b).p i).bud) 1 (upd (fun _ => 0) 0 20) 0 1 = 0 := fun b => by kernel_rfl
  have V1 := Lib.hid v1
  have V2 := Lib.hid v2
  have V3 := Lib.hid v3
  have V4 := Lib.hid v4
  have V5 := Lib.hid v5
  clear v1 v2 v3 v4 v5
  go_enter Try.func27, Try.ntmps27
  go_wp2_with fail
  have b1 : Box (((w.alloc (.cells #[.slice none 0 0, .slice none 0 0, .slice none 0 0, .slice none 0 0, .int .i64 0, .slice none 0 0, .slice none 0 0, .int .i64 0, .int .i64 6000, .int .i64 0, .slice none 0 0] 57)).alloc (.cells #[.int .i64 10, .int .i64 3] 34)).alloc (.cells #[.slice (some ⟨w.heap.size, 0, none⟩) 1 1, .slice none 0 0, .slice none 0 0, .slice (some ⟨w.heap.size + 1, 0, none⟩) 1 1, .slice none 0 0, .int .i64 0, .int .i64 0, .int .i64 0, .int .i64 30, .int .i64 0, .int .i64 0, .slice none 0 0, .slice none 0 0] 45)) w.heap.size _ _ := ((Box.new _ _ _).alloc _).alloc _
  have b2 := (Box.new (w.alloc (.cells #[.slice none 0 0, .slice none 0 0, .slice none 0 0, .slice none 0 0, .int .i64 0, .slice none 0 0, .slice none 0 0, .int .i64 0, .int .i64 6000, .int .i64 0, .slice none 0 0] 57)) #[.int .i64 10, .int .i64 3] 34).alloc (.cells #[.slice (some ⟨w.heap.size, 0, none⟩) 1 1, .slice none 0 0, .slice none 0 0, .slice (some ⟨w.heap.size + 1, 0, none⟩) 1 1, .slice none 0 0, .int .i64 0, .int .i64 0, .int .i64 0, .int .i64 30, .int .i64 0, .int .i64 0, .slice none 0 0, .slice none 0 0] 45)
  rw [World.size_alloc] at b2
  have HB : Hid (Below w.heap.size w _) := Lib.hid ((((Below.refl _ _).alloc (Nat.le_refl _) (.cells #[.slice none 0 0, .slice none 0 0, .slice none 0 0, .slice none 0 0, .int .i64 0, .slice none 0 0, .slice none 0 0, .int .i64 0, .int .i64 6000, .int .i64 0, .slice none 0 0] 57)).alloc (by simp) (.cells #[.int .i64 10, .int .i64 3] 34)).alloc (by simp; omega) (.cells #[.slice (some ⟨w.heap.size, 0, none⟩) 1 1, .slice none 0 0, .slice none 0 0, .slice (some ⟨w.heap.size + 1, 0, none⟩) 1 1, .slice none 0 0, .int .i64 0, .int .i64 0, .int .i64 0, .int .i64 30, .int .i64 0, .int .i64 0, .slice none 0 0, .slice none 0 0] 45))
  have OK := Lib.hid (wc_ok b1 b2)
  clear b1 b2
  generalize ((w.alloc (.cells #[.slice none 0 0, .slice none 0 0, .slice none 0 0, .slice none 0 0, .int .i64 0, .slice none 0 0, .slice none 0 0, .int .i64 0, .int .i64 6000, .int .i64 0, .slice none 0 0] 57)).alloc (.cells #[.int .i64 10, .int .i64 3] 34)).alloc (.cells #[.slice (some ⟨w.heap.size, 0, none⟩) 1 1, .slice none 0 0, .slice none 0 0, .slice (some ⟨w.heap.size + 1, 0, none⟩) 1 1, .slice none 0 0, .int .i64 0, .int .i64 0, .int .i64 0, .int .i64 30, .int .i64 0, .int .i64 0, .slice none 0 0, .slice none 0 0] 45) = W at HB OK ⊢
  refine (new_any (wc w.heap.size) W OK.out (wc_sh _)).mono ?_
  rintro e1 w2 ⟨v, a, rfl, L⟩
  go_wp2_with fail
  refine (ls_piece L 0 20 ⟨by omega, by omega⟩ 20 (Lib.hid (V1.out _))).mono ?_
  rintro e1 w3 ⟨rfl, hb3⟩
  have L := ls_next L hb3
  clear hb3
  go_wp2_with fail
  refine (ls_spend L 0 20 ⟨by omega, by omega⟩ 0 _ (Lib.hid (V2.out _))).mono ?_
  rintro e1 w4 ⟨rfl, L, -⟩
  go_wp2_with fail
  refine (ls_used L 0 6000 (Lib.hid (V3.out _))).mono ?_
  rintro e1 w5 ⟨rfl, hb5⟩
  have L := ls_next L hb5
  clear hb5
  go_wp2_with fail
  refine (ls_out L 0 true (Lib.hid (V4.out _))).mono ?_
  rintro e1 w6 ⟨rfl, hb6⟩
  have L := ls_next L hb6
  clear hb6
  go_wp2_with fail
  refine (ls_piece L 0 1 ⟨by omega, by omega⟩ 0 (Lib.hid (V5.out _))).mono ?_
  rintro e1 w7 ⟨rfl, hb7⟩
  have L := ls_next L hb7
  clear hb7
  go_wp2_with fail
  go_ret
  exact ⟨rfl, below_next HB.out L.out.bel⟩

/-- a ledger that is made later -/
theorem ls_base {w0 w1 w2 : World} {W : PowC} {q : Int} {bud : Nat → Int} {n l : Nat} {v : Value} {a : Nat → Nat} {cy : Nat → Int} (hb : Below w0.heap.size w0 w1) (lev : Hid (Open.RowsIn w0 W.la W.ln 2 W.lf)) (h : Hid (Ls w1 w2 W q bud n l v a cy)) : Hid (Ls w0 w2 W q bud n l v a cy) :=
  Lib.hid ⟨below_next hb h.out.bel, Nat.le_trans hb.size h.out.hl, fun i hi => Nat.le_trans hb.size (h.out.ha i hi), fun g hg => Nat.le_trans hb.size (h.out.hv g hg), h.out.lm, lev, h.out.cyb, h.out.hn, h.out.budI, h.out.qI⟩
theorem newL_any (w0 w : World) (c : ConfC) (hb : Hid (Below w0.heap.size w0 w)) (ok : Hid (c.Ok w0)) (hs : Hid (Sh c)) :
    Calls Try.prog 28 #[.agg #[.slice c.pa c.pn c.pc, .slice c.ca c.cn c.cc, .slice c.ma c.mn c.mc, .slice c.w.la c.w.ln c.w.lc, .slice c.w.na c.w.nn c.w.nc, .int .i64 c.w.sw, .int .i64 c.w.id, .int .i64 c.w.ch, .int .i64 c.w.qu, .int .i64 c.w.sl, .int .i64 c.w.pp, .slice c.da c.dn c.dc, .slice c.ua c.un c.uc]] w fun e w' => ∃ l v a, e = .returned (.pointer (some ⟨l, 0, none⟩)) ∧ Hid (Ls w0 w' c.w (qm c) (fun i => (c.p i).bud) c.pn l v a (fun _ => 0)) ∧ Below w.heap.size w w' :=
  (new_any c w (ok.out.below hb.out (Nat.le_refl _)) hs.out).mono fun e w' ⟨v, a, h1, h2⟩ => ⟨_, v, a, h1, ls_base hb.out ok.out.pow.lev h2, h2.out.bel⟩
end Go.Proofs.Yteikliciijfmmaa.LedW

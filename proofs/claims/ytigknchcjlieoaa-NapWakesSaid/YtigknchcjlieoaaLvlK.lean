/- The reference of level: Best. -/
import Derived.Test.YtigknchcjlieoaaLvlJ
namespace Go.Proofs.Ytigknchcjlieoaa.LvlK
open Go.RowKit Go.Shelf Base Kit Conf PowA PowB PowC PowR WideB Alt RefA LvlA LvlB LvlC LvlD LvlE LvlF LvlG LvlH LvlI LvlJ
set_option linter.unusedVariables false
set_option linter.unusedSimpArgs false

set_option maxRecDepth 100000 in
set_option maxHeartbeats 4000000 in
theorem Bestr_any (p : PowC) (x : X5) (e : Int) (w : World) (ok : p.Ok w) (h100 : p.ln ≤ 100) (r : Int) (hr : Hid (bestR p x e = r)) :
    Calls Try.prog 18 #[.agg #[.slice p.la p.ln p.lc, .slice p.na p.nn p.nc, .int .i64 p.sw, .int .i64 p.id, .int .i64 p.ch, .int .i64 p.qu, .int .i64 p.sl, .int .i64 p.pp], .agg #[.int .i64 x.now, .int .i64 x.base, .int .i64 x.dn, .int .i64 x.lv, .int .i64 x.lf], .int .i64 e] w fun e w' => e = .returned (.int .i64 r) ∧ Below w.heap.size w w' := by
  have hr := hr.out
  have A := Lib.hid (fun w1 (h : Below w.heap.size w w1) => Allowedr_any p x e w1 (ok.below h (Nat.le_refl _)) h100 _ (Lib.hid rfl))
  have G := Lib.hid (fun i (h : i < (alwL p x e).length) => alwL_get h)
  have ln := alwL_len p x e
  unfold bestR at hr
  generalize alwL p x e = L at hr A G ln
  have b1 := (Box.new w #[.slice p.la p.ln p.lc, .slice p.na p.nn p.nc, .int .i64 p.sw, .int .i64 p.id, .int .i64 p.ch, .int .i64 p.qu, .int .i64 p.sl, .int .i64 p.pp] 25).alloc (.cells #[.int .i64 x.now, .int .i64 x.base, .int .i64 x.dn, .int .i64 x.lv, .int .i64 x.lf] 27)
  have b2 := Box.new (w.alloc (.cells #[.slice p.la p.ln p.lc, .slice p.na p.nn p.nc, .int .i64 p.sw, .int .i64 p.id, .int .i64 p.ch, .int .i64 p.qu, .int .i64 p.sl, .int .i64 p.pp] 25)) #[.int .i64 x.now, .int .i64 x.base, .int .i64 x.dn, .int .i64 x.lv, .int .i64 x.lf] 27
  rw [World.size_alloc] at b2
  have B1 := Lib.hid b1
  have B2 := Lib.hid b2
  clear b1 b2
  have bb := Lib.hid (((Below.refl w.heap.size w).alloc (Nat.le_refl _) (.cells #[.slice p.la p.ln p.lc, .slice p.na p.nn p.nc, .int .i64 p.sw, .int .i64 p.id, .int .i64 p.ch, .int .i64 p.qu, .int .i64 p.sl, .int .i64 p.pp] 25)).alloc (by simp) (.cells #[.int .i64 x.now, .int .i64 x.base, .int .i64 x.dn, .int .i64 x.lv, .int .i64 x.lf] 27))
  go_enter Try.func18, Try.ntmps18
  go_wp2_with fail
  refine (A.out _ bb.out).mono ?_
  rintro e1 w5 ⟨v, rfl, hown, k5⟩
  have HB := Lib.hid (below_next bb.out k5)
  have X1 := Lib.hid (B1.out.next k5)
  have X2 := Lib.hid (B2.out.next k5)
  clear k5
  obtain ⟨n, hn⟩ : ∃ n, L.length = n := ⟨_, rfl⟩
  rw [hn] at hr ln hown G
  by_cases h0 : n = 0
  · subst h0
    rw [if_pos rfl] at hr
    subst hr
    obtain ⟨a, c, rfl⟩ := own_zero hown
    go_wp2_with fail
    go_loopw [8, 10] (fun b i wr => b = .int .i64 (-1) ∧ i = .int .i64 0 ∧ wr = w5) (fun _ _ _ => 0)
    case atStart => exact ⟨rfl, rfl, rfl⟩
    case round =>
      obtain ⟨rfl, rfl, rfl⟩ := hrel
      go_wp2_with fail
      go_ret
      exact ⟨rfl, HB.out⟩
  · rw [if_neg h0] at hr
    obtain ⟨g, cap, rfl, lg0, lg⟩ := ownsRow_open hown h0
    have may := (G.out 0 (by omega)).1
    obtain ⟨F, hF⟩ : ∃ F : Nat → Nat, (fun i => L.getD i 0) = F := ⟨_, rfl⟩
    have hg : Hid (∀ i, i < n → w5.cell? ⟨g, i, none⟩ = some (.int .i64 ((F i : Nat) : Int))) := Lib.hid (fun i hi => by
      have hown' := hown
      rw [encL_row, hn] at hown'
      have := hown'.cells (g := g) rfl i _ (row_get _ _ i hi)
      rw [Open.add_none, Nat.zero_add] at this
      rw [← hF]
      exact this)
    have GL := Lib.hid (fun i (h : i < n) => show F i < p.ln by rw [← hF]; exact (G.out i h).2.1)
    rw [hF] at hr
    clear hown G hF hn A
    have HR := Lib.hid hr
    have M := Lib.hid may
    clear hr may
    go_wp2_with fail
    go_loopw [8, 9, 10] (fun b l i wr => ∃ k : Nat, k ≤ n ∧ i = .int .i64 k ∧ ((k = 0 ∧ b = .int .i64 (-1) ∧ l = .int .i64 0) ∨ (∃ q, k = q + 1 ∧ b = .int .i64 ((bst (costP p x) F q : Nat) : Int) ∧ l = .int .i64 (costP p x (bst (costP p x) F q)))) ∧ Hid (Below w5.heap.size w5 wr)) (fun _ _ i _ => n - (intOf i).toNat)
    case atStart => exact ⟨0, Nat.zero_le _, rfl, .inl ⟨rfl, rfl, rfl⟩, Lib.hid (Below.refl _ _)⟩
    case round =>
      obtain ⟨k, hk, rfl, hbl, hb⟩ := hrel
      by_cases hlt : k < n
      · have hy := GL.out k hlt
        have ck : wr.cell? ⟨g, k, none⟩ = some (.int .i64 ((F k : Nat) : Int)) := (hb.out.cell (p := ⟨g, k, none⟩) lg).trans (hg.out k hlt)
        have hs1 : F 0 = bst (costP p x) F 0 := rfl
        have hs2 : ∀ q, bst (costP p x) F (q + 1) = if costP p x (F (q + 1)) < costP p x (bst (costP p x) F q) then F (q + 1) else bst (costP p x) F q := fun _ => rfl
        obtain ⟨y, ey⟩ : ∃ y, F k = y := ⟨_, rfl⟩
        rw [ey] at hy ck
        obtain ⟨c, ec⟩ : ∃ c, costP p x y = c := ⟨_, rfl⟩
        have C := Costr_any p x (y : Int) wr.drew (ok.below ((HB.out.trans (hb.out.mono HB.out.size)).trans (Below.refl _ _).drew) (Nat.le_refl _)) (c, 0) (Lib.hid (by unfold costR; rw [if_pos ⟨M.out, by omega, by omega⟩, Int.toNat_natCast, ec]))
        dsimp only at C
        have C := Lib.hid C
        have K := Lib.hid (fun w1 (h : Below wr.heap.size wr w1) => (⟨fun i => ((X1.out.next hb.out).next h).cell i, fun i => ((X2.out.next hb.out).next h).cell i, keep' h ck⟩ : (∀ i, w1.cell? ⟨w.heap.size, i, none⟩ = (#[.slice p.la p.ln p.lc, .slice p.na p.nn p.nc, .int .i64 p.sw, .int .i64 p.id, .int .i64 p.ch, .int .i64 p.qu, .int .i64 p.sl, .int .i64 p.pp] : Array Value)[i]?) ∧ (∀ i, w1.cell? ⟨w.heap.size + 1, i, none⟩ = (#[.int .i64 x.now, .int .i64 x.base, .int .i64 x.dn, .int .i64 x.lv, .int .i64 x.lf] : Array Value)[i]?) ∧ w1.cell? ⟨g, k, none⟩ = some (.int .i64 (y : Int))))
        go_wp2_with fail
        have bd := K.out _ (Below.refl wr.heap.size wr).drew
        go_region_held3 (fun w' => (∀ i, w'.cell? ⟨w.heap.size, i, none⟩ = (#[.slice p.la p.ln p.lc, .slice p.na p.nn p.nc, .int .i64 p.sw, .int .i64 p.id, .int .i64 p.ch, .int .i64 p.qu, .int .i64 p.sl, .int .i64 p.pp] : Array Value)[i]?) ∧ (∀ i, w'.cell? ⟨w.heap.size + 1, i, none⟩ = (#[.int .i64 x.now, .int .i64 x.base, .int .i64 x.dn, .int .i64 x.lv, .int .i64 x.lf] : Array Value)[i]?) ∧ w'.cell? ⟨g, k, none⟩ = some (.int .i64 (y : Int)))
          (first
            | exact r7
            | exact bd)
          (first
            | (go_at_call 25; refine C.out.mono ?_; rintro e1 w7 ⟨rfl, k7⟩; have S7 := Lib.hid ((Below.refl wr.heap.size wr).drew.trans k7); have r7 := K.out _ S7.out; clear k7))
        all_goals
          clear bd
          obtain ⟨x1, x2, y7⟩ := r7
          have HB7 := Lib.hid (hb.out.trans (S7.out.mono hb.out.size))
          rcases hbl with ⟨rfl, rfl, rfl⟩ | ⟨q, rfl, rfl, rfl⟩
          · go_wp2_with fail
            go_roundw
            case rel => exact ⟨1, by omega, rfl, .inr ⟨0, rfl, by rw [← hs1, ey], by rw [← hs1, ey, ec]⟩, HB7⟩
            case measure => simp [intOf]; omega
          · have h2 := hs2 q
            rw [ey, ec] at h2
            generalize bst (costP p x) F q = m at h2 ⊢
            obtain ⟨cm, ecm⟩ : ∃ c, costP p x m = c := ⟨_, rfl⟩
            rw [ecm] at h2 ⊢
            by_cases hlt2 : c < cm
            · rw [if_pos hlt2] at h2
              have H2 := Lib.hid h2
              clear h2 hs2
              go_wp2_with fail
              go_roundw
              case rel => exact ⟨q + 1 + 1, by omega, by go_num, .inr ⟨q + 1, rfl, by rw [H2.out], by rw [H2.out, ec]⟩, HB7⟩
              case measure => simp [intOf]; omega
            · rw [if_neg hlt2] at h2
              have H2 := Lib.hid h2
              clear h2 hs2
              go_wp2_with fail
              go_roundw
              case rel => exact ⟨q + 1 + 1, by omega, by go_num, .inr ⟨q + 1, rfl, by rw [H2.out], by rw [H2.out, ecm]⟩, HB7⟩
              case measure => simp [intOf]; omega
      · obtain rfl : k = n := by omega
        rcases hbl with ⟨h, -⟩ | ⟨q, rfl, rfl, rfl⟩
        · exact absurd h h0
        go_wp2_with fail
        go_ret
        exact ⟨Kit.ret_int HR.out, HB.out.trans (hb.out.mono HB.out.size)⟩
end Go.Proofs.Ytigknchcjlieoaa.LvlK

/- The reference of level: Allowed. -/
import Derived.Test.YtigknchcjlieoaaLvlG
namespace Go.Proofs.Ytigknchcjlieoaa.LvlH
open Go.RowKit Go.Shelf Base Kit Conf PowA PowB PowC PowR WideB Alt RefA LvlA LvlB LvlC LvlD LvlE LvlF LvlG
set_option linter.unusedVariables false
set_option linter.unusedSimpArgs false

def alwK (p : PowC) (x : X5) (e : Int) (k : Nat) : List Nat := if MayP p x then alw p x e k else []
theorem alwK_0 (p : PowC) (x : X5) (e : Int) : alwK p x e 0 = [] := by unfold alwK; split <;> rfl
theorem alwK_in {p : PowC} {x : X5} {e : Int} {k : Nat} (h : MayP p x ∧ endP p x k ≤ e) : alwK p x e (k + 1) = alwK p x e k ++ [k] := by
  unfold alwK; rw [if_pos h.1, if_pos h.1, alw, if_pos h.2]
theorem alwK_out {p : PowC} {x : X5} {e : Int} {k : Nat} (h : ¬ (MayP p x ∧ endP p x k ≤ e)) : alwK p x e (k + 1) = alwK p x e k := by
  unfold alwK
  by_cases m : MayP p x
  · rw [if_pos m, if_pos m, alw, if_neg (fun h' => h ⟨m, h'⟩)]
  · rw [if_neg m, if_neg m]
theorem alwK_len (p : PowC) (x : X5) (e : Int) (k : Nat) : (alwK p x e k).length ≤ k := by unfold alwK; split; exact alw_len _ _ _ _; exact Nat.zero_le _
theorem encL_snoc (l : List Nat) (k : Nat) : encL (l ++ [k]) = encL l ++ [.int .i64 (k : Int)] := by simp [encL]

set_option maxRecDepth 100000 in
set_option maxHeartbeats 4000000 in
theorem Allowedr_any (p : PowC) (x : X5) (e : Int) (w : World) (ok : p.Ok w) (h100 : p.ln ≤ 100) (L : List Nat) (hL : Hid (alwL p x e = L)) :
    Calls Try.prog 16 #[.agg #[.slice p.la p.ln p.lc, .slice p.na p.nn p.nc, .int .i64 p.sw, .int .i64 p.id, .int .i64 p.ch, .int .i64 p.qu, .int .i64 p.sl, .int .i64 p.pp], .agg #[.int .i64 x.now, .int .i64 x.base, .int .i64 x.dn, .int .i64 x.lv, .int .i64 x.lf], .int .i64 e] w fun r w' => ∃ v, r = .returned v ∧ w'.ownsRow w.heap.size 3 1 v L.length (encL L) ∧ Below w.heap.size w w' := by
  have hm := ok.lev.out.1
  have b1 := (Box.new w #[.slice p.la p.ln p.lc, .slice p.na p.nn p.nc, .int .i64 p.sw, .int .i64 p.id, .int .i64 p.ch, .int .i64 p.qu, .int .i64 p.sl, .int .i64 p.pp] 25).alloc (.cells #[.int .i64 x.now, .int .i64 x.base, .int .i64 x.dn, .int .i64 x.lv, .int .i64 x.lf] 27)
  have b2 := Box.new (w.alloc (.cells #[.slice p.la p.ln p.lc, .slice p.na p.nn p.nc, .int .i64 p.sw, .int .i64 p.id, .int .i64 p.ch, .int .i64 p.qu, .int .i64 p.sl, .int .i64 p.pp] 25)) #[.int .i64 x.now, .int .i64 x.base, .int .i64 x.dn, .int .i64 x.lv, .int .i64 x.lf] 27
  rw [World.size_alloc] at b2
  have bb := ((Below.refl w.heap.size w).alloc (Nat.le_refl _) (.cells #[.slice p.la p.ln p.lc, .slice p.na p.nn p.nc, .int .i64 p.sw, .int .i64 p.id, .int .i64 p.ch, .int .i64 p.qu, .int .i64 p.sl, .int .i64 p.pp] 25)).alloc (by simp) (.cells #[.int .i64 x.now, .int .i64 x.base, .int .i64 x.dn, .int .i64 x.lv, .int .i64 x.lf] 27)
  have sz : ((w.alloc (.cells #[.slice p.la p.ln p.lc, .slice p.na p.nn p.nc, .int .i64 p.sw, .int .i64 p.id, .int .i64 p.ch, .int .i64 p.qu, .int .i64 p.sl, .int .i64 p.pp] 25)).alloc (.cells #[.int .i64 x.now, .int .i64 x.base, .int .i64 x.dn, .int .i64 x.lv, .int .i64 x.lf] 27)).heap.size = w.heap.size + 2 := by simp
  go_enter Try.func16, Try.ntmps16
  go_wp2_with fail
  generalize (w.alloc (.cells #[.slice p.la p.ln p.lc, .slice p.na p.nn p.nc, .int .i64 p.sw, .int .i64 p.id, .int .i64 p.ch, .int .i64 p.qu, .int .i64 p.sl, .int .i64 p.pp] 25)).alloc (.cells #[.int .i64 x.now, .int .i64 x.base, .int .i64 x.dn, .int .i64 x.lv, .int .i64 x.lf] 27) = W at b1 b2 bb sz ⊢
  have B1 := Lib.hid b1
  have B2 := Lib.hid b2
  have BB := Lib.hid bb
  have SZ := Lib.hid sz
  clear b1 b2 bb sz
  go_loopw [7, 8] (fun v i wr => ∃ k : Nat, k ≤ p.ln ∧ i = .int .i64 k ∧ wr.ownsRow W.heap.size 3 1 v (alwK p x e k).length (encL (alwK p x e k)) ∧ Hid (Below W.heap.size W wr)) (fun _ i _ => p.ln - (intOf i).toNat)
  case atStart => exact ⟨0, Nat.zero_le _, rfl, by rw [alwK_0]; exact World.ownsRow_nil _ _ _ _, Lib.hid (Below.refl _ _)⟩
  case round =>
    obtain ⟨k, hk, rfl, hown, hbel⟩ := hrel
    have x1 : ∀ i, wr.cell? ⟨w.heap.size, i, none⟩ = (#[.slice p.la p.ln p.lc, .slice p.na p.nn p.nc, .int .i64 p.sw, .int .i64 p.id, .int .i64 p.ch, .int .i64 p.qu, .int .i64 p.sl, .int .i64 p.pp] : Array Value)[i]? := fun i => (hbel.out.cell (p := ⟨w.heap.size, i, none⟩) B1.out.lt).trans (B1.out.cell i)
    have x2 : ∀ i, wr.cell? ⟨w.heap.size + 1, i, none⟩ = (#[.int .i64 x.now, .int .i64 x.base, .int .i64 x.dn, .int .i64 x.lv, .int .i64 x.lf] : Array Value)[i]? := fun i => (hbel.out.cell (p := ⟨w.heap.size + 1, i, none⟩) B2.out.lt).trans (B2.out.cell i)
    by_cases hlt : k < p.ln
    · have okr := ok.below (BB.out.trans (hbel.out.mono (by rw [SZ.out]; omega))) (Nat.le_refl _)
      obtain ⟨E, hE⟩ : ∃ E, endP p x k = E := ⟨_, rfl⟩
      have hlen := alwK_len p x e k
      by_cases may : MayP p x
      · have C := Endr_any p x (k : Int) wr okr (E, 0) (Lib.hid (by unfold endR; rw [if_pos ⟨may, by omega, by omega⟩, Int.toNat_natCast, hE]))
        dsimp only at C
        have C := Lib.hid C
        by_cases hle : E ≤ e
        · have HR := Lib.hid (alwK_in (p := p) (x := x) (e := e) (k := k) ⟨may, by rw [hE]; exact hle⟩)
          clear may hE
          go_wp2_with (first
            | (go_at_call 23; refine (C.out).mono ?_; rintro r1 w5 ⟨rfl, k5⟩; have hown5 := ownsRow_keep hown k5; have HB5 := Lib.hid (hbel.out.trans (k5.mono hbel.out.size)); clear k5)
            | (at_builtin; go_loud (refine append1 w5 rfl _ _ 32 rfl W.heap.size 3 (.int .i64 0) 8 Try.underlying32 infoInt rfl _ (.int .i64 (k : Int)) _ _ _ rfl (by exact hown5) rfl rfl ?c1 ?c2 ?c3 ?_)))
          case c1 => unfold maxLen; omega
          case c2 => omega
          case c3 => exact HB5.out.size
          intro v' w1 hown1 hsz hb1 _
          go_wp2_with fail
          go_roundw
          case rel => exact ⟨k + 1, by omega, by go_num, by rw [HR.out, encL_snoc, List.length_append]; exact hown1, Lib.hid (HB5.out.trans hb1)⟩
          case measure => simp [intOf]; omega
        · have HR := Lib.hid (alwK_out (p := p) (x := x) (e := e) (k := k) (fun h => hle (by rw [← hE]; exact h.2)))
          clear may hE
          go_wp2_with (go_at_call 23; refine (C.out).mono ?_; rintro r1 w5 ⟨rfl, k5⟩; have hown5 := ownsRow_keep hown k5; have HB5 := Lib.hid (hbel.out.trans (k5.mono hbel.out.size)); clear k5)
          go_roundw
          case rel => exact ⟨k + 1, by omega, by go_num, by rw [HR.out]; exact hown5, HB5⟩
          case measure => simp [intOf]; omega
      · have C := Endr_any p x (k : Int) wr okr (0, 2) (Lib.hid (by unfold endR; rw [if_neg (fun h => may h.1)]))
        dsimp only at C
        have C := Lib.hid C
        have HR := Lib.hid (alwK_out (p := p) (x := x) (e := e) (k := k) (fun h => may h.1))
        clear may hE
        go_wp2_with (go_at_call 23; refine (C.out).mono ?_; rintro r1 w5 ⟨rfl, k5⟩; have hown5 := ownsRow_keep hown k5; have HB5 := Lib.hid (hbel.out.trans (k5.mono hbel.out.size)); clear k5)
        go_roundw
        case rel => exact ⟨k + 1, by omega, by go_num, by rw [HR.out]; exact hown5, HB5⟩
        case measure => simp [intOf]; omega
    · obtain rfl : k = p.ln := by omega
      go_wp2_with fail
      go_ret
      refine ⟨_, rfl, ?_, BB.out.trans (hbel.out.mono (by rw [SZ.out]; omega))⟩
      rw [← hL.out]
      exact own_base hown (fun g hg => by have := (World.ownsRow.lt hown g hg).1; rw [SZ.out] at this; omega)
end Go.Proofs.Ytigknchcjlieoaa.LvlH

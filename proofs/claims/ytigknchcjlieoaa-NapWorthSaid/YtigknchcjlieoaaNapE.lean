/- Package nap: Allowed, and its reference. -/
import Derived.Test.YtigknchcjlieoaaNapD
import Derived.Test.YtigknchcjlieoaaLvlM
namespace Go.Proofs.Ytigknchcjlieoaa.NapE
open Go.RowKit Go.Shelf Base Kit Conf PowA PowB PowC PowR WideB Alt RefA LvlA LvlG LvlH LvlI LvlJ OscPlain OscZ NapA NapB NapC NapD
set_option linter.unusedVariables false
set_option linter.unusedSimpArgs false

/-- the naps that may be -/
def naw (p : PowC) (now en : Int) : Nat → List Nat
  | 0 => []
  | k + 1 => if 1 ≤ CntR p (k : Int) now en then naw p now en k ++ [k] else naw p now en k
theorem naw_len (p : PowC) (now en : Int) : ∀ k, (naw p now en k).length ≤ k
  | 0 => Nat.le_refl _
  | k + 1 => by have := naw_len p now en k; unfold naw; split <;> simp <;> omega
def nawL (p : PowC) (now en : Int) : List Nat := naw p now en p.nn
theorem nawL_len (p : PowC) (now en : Int) : (nawL p now en).length ≤ p.nn := naw_len _ _ _ _
theorem naw_in {p : PowC} {now en : Int} {k : Nat} (h : 1 ≤ CntR p (k : Int) now en) : naw p now en (k + 1) = naw p now en k ++ [k] := by rw [naw, if_pos h]
theorem naw_out {p : PowC} {now en : Int} {k : Nat} (h : ¬ 1 ≤ CntR p (k : Int) now en) : naw p now en (k + 1) = naw p now en k := by rw [naw, if_neg h]
set_option maxRecDepth 100000 in
set_option maxHeartbeats 4000000 in
theorem Allowed_any (p : PowC) (now en : Int) (w : World) (ok : p.Ok w) (h100 : p.nn ≤ 100) (L : List Nat) (hL : Hid (nawL p now en = L)) :
    Calls Try.prog 36 #[.agg #[.slice p.la p.ln p.lc, .slice p.na p.nn p.nc, .int .i64 p.sw, .int .i64 p.id, .int .i64 p.ch, .int .i64 p.qu, .int .i64 p.sl, .int .i64 p.pp], .int .i64 now, .int .i64 en] w fun r w' => ∃ v, r = .returned v ∧ w'.ownsRow w.heap.size 3 1 v L.length (encL L) ∧ Below w.heap.size w w' := by
  have hm := ok.nap.out.1
  have b1 := Box.new w #[.slice p.la p.ln p.lc, .slice p.na p.nn p.nc, .int .i64 p.sw, .int .i64 p.id, .int .i64 p.ch, .int .i64 p.qu, .int .i64 p.sl, .int .i64 p.pp] 25
  have bb := (Below.refl w.heap.size w).alloc (Nat.le_refl _) (.cells #[.slice p.la p.ln p.lc, .slice p.na p.nn p.nc, .int .i64 p.sw, .int .i64 p.id, .int .i64 p.ch, .int .i64 p.qu, .int .i64 p.sl, .int .i64 p.pp] 25)
  have sz : (w.alloc (.cells #[.slice p.la p.ln p.lc, .slice p.na p.nn p.nc, .int .i64 p.sw, .int .i64 p.id, .int .i64 p.ch, .int .i64 p.qu, .int .i64 p.sl, .int .i64 p.pp] 25)).heap.size = w.heap.size + 1 := by simp
  go_enter Try.func36, Try.ntmps36
  go_wp2_with fail
  generalize w.alloc (.cells #[.slice p.la p.ln p.lc, .slice p.na p.nn p.nc, .int .i64 p.sw, .int .i64 p.id, .int .i64 p.ch, .int .i64 p.qu, .int .i64 p.sl, .int .i64 p.pp] 25) = W at b1 bb sz ⊢
  have B1 := Lib.hid b1
  have BB := Lib.hid bb
  have SZ := Lib.hid sz
  skip
  clear b1 bb sz
  go_loopw [7, 12] (fun v i wr => ∃ k : Nat, k ≤ p.nn ∧ i = .int .i64 k ∧ wr.ownsRow W.heap.size 3 1 v (naw p now en k).length (encL (naw p now en k)) ∧ Hid (Below W.heap.size W wr)) (fun _ i _ => p.nn - (intOf i).toNat)
  case atStart => exact ⟨0, Nat.zero_le _, rfl, World.ownsRow_nil _ _ _ _, Lib.hid (Below.refl _ _)⟩
  case round =>
    obtain ⟨k, hk, rfl, hown, hbel⟩ := hrel
    have x1 : ∀ i, wr.cell? ⟨w.heap.size, i, none⟩ = (#[.slice p.la p.ln p.lc, .slice p.na p.nn p.nc, .int .i64 p.sw, .int .i64 p.id, .int .i64 p.ch, .int .i64 p.qu, .int .i64 p.sl, .int .i64 p.pp] : Array Value)[i]? := fun i => (hbel.out.cell (p := ⟨w.heap.size, i, none⟩) B1.out.lt).trans (B1.out.cell i)
    by_cases hlt : k < p.nn
    · have okr := ok.below (BB.out.trans (hbel.out.mono (by rw [SZ.out]; omega))) (Nat.le_refl _)
      obtain ⟨c, hc⟩ : ∃ c, CntR p (k : Int) now en = c := ⟨_, rfl⟩
      have hlen := naw_len p now en k
      have C := Lib.hid (Counts_any p (k : Int) now en wr okr c (Lib.hid hc))
      by_cases hle : 1 ≤ c
      · have HR := Lib.hid (naw_in (p := p) (now := now) (en := en) (k := k) (by rw [hc]; exact hle))
        clear hc
        go_wp2_with (first
          | (go_at_call 34; refine (C.out).mono ?_; rintro r1 w5 ⟨rfl, k5⟩; have hown5 := ownsRow_keep hown k5; have HB5 := Lib.hid (hbel.out.trans (k5.mono hbel.out.size)); clear k5)
          | (at_builtin; go_loud (refine append1 w5 rfl _ _ 32 rfl W.heap.size 3 (.int .i64 0) 8 Try.underlying32 infoInt rfl _ (.int .i64 (k : Int)) _ _ _ rfl (by exact hown5) rfl rfl ?c1 ?c2 ?c3 ?_)))
        case c1 => unfold maxLen; omega
        case c2 => omega
        case c3 => exact HB5.out.size
        intro v' w1 hown1 hsz hb1 _
        go_wp2_with fail
        go_roundw
        case rel => exact ⟨k + 1, by omega, by go_num, by rw [HR.out, encL_snoc, List.length_append]; exact hown1, Lib.hid (HB5.out.trans hb1)⟩
        case measure => simp [intOf]; omega
      · have HR := Lib.hid (naw_out (p := p) (now := now) (en := en) (k := k) (by rw [hc]; exact hle))
        clear hc
        have hle : c < 1 := by omega
        go_wp2_with (go_at_call 34; refine (C.out).mono ?_; rintro r1 w5 ⟨rfl, k5⟩; have hown5 := ownsRow_keep hown k5; have HB5 := Lib.hid (hbel.out.trans (k5.mono hbel.out.size)); clear k5)
        go_roundw
        case rel => exact ⟨k + 1, by omega, by go_num, by rw [HR.out]; exact hown5, HB5⟩
        case measure => simp [intOf]; omega
    · obtain rfl : k = p.nn := by omega
      go_wp2_with fail
      go_ret
      refine ⟨_, rfl, ?_, BB.out.trans (hbel.out.mono (by rw [SZ.out]; omega))⟩
      rw [← hL.out]
      exact own_base hown (fun g hg => by have := (World.ownsRow.lt hown g hg).1; rw [SZ.out] at this; omega)
set_option maxRecDepth 100000 in
set_option maxHeartbeats 4000000 in
theorem Allowedr_any (p : PowC) (now en : Int) (w : World) (ok : p.Ok w) (h100 : p.nn ≤ 100) (L : List Nat) (hL : Hid (nawL p now en = L)) :
    Calls Try.prog 37 #[.agg #[.slice p.la p.ln p.lc, .slice p.na p.nn p.nc, .int .i64 p.sw, .int .i64 p.id, .int .i64 p.ch, .int .i64 p.qu, .int .i64 p.sl, .int .i64 p.pp], .int .i64 now, .int .i64 en] w fun r w' => ∃ v, r = .returned v ∧ w'.ownsRow w.heap.size 3 1 v L.length (encL L) ∧ Below w.heap.size w w' := by
  have hm := ok.nap.out.1
  have b1 := Box.new w #[.slice p.la p.ln p.lc, .slice p.na p.nn p.nc, .int .i64 p.sw, .int .i64 p.id, .int .i64 p.ch, .int .i64 p.qu, .int .i64 p.sl, .int .i64 p.pp] 25
  have bb := (Below.refl w.heap.size w).alloc (Nat.le_refl _) (.cells #[.slice p.la p.ln p.lc, .slice p.na p.nn p.nc, .int .i64 p.sw, .int .i64 p.id, .int .i64 p.ch, .int .i64 p.qu, .int .i64 p.sl, .int .i64 p.pp] 25)
  have sz : (w.alloc (.cells #[.slice p.la p.ln p.lc, .slice p.na p.nn p.nc, .int .i64 p.sw, .int .i64 p.id, .int .i64 p.ch, .int .i64 p.qu, .int .i64 p.sl, .int .i64 p.pp] 25)).heap.size = w.heap.size + 1 := by simp
  go_enter Try.func37, Try.ntmps37
  go_wp2_with fail
  generalize w.alloc (.cells #[.slice p.la p.ln p.lc, .slice p.na p.nn p.nc, .int .i64 p.sw, .int .i64 p.id, .int .i64 p.ch, .int .i64 p.qu, .int .i64 p.sl, .int .i64 p.pp] 25) = W at b1 bb sz ⊢
  have B1 := Lib.hid b1
  have BB := Lib.hid bb
  have SZ := Lib.hid sz
  skip
  clear b1 bb sz
  go_loopw [7, 8] (fun v i wr => ∃ k : Nat, k ≤ p.nn ∧ i = .int .i64 k ∧ wr.ownsRow W.heap.size 3 1 v (naw p now en k).length (encL (naw p now en k)) ∧ Hid (Below W.heap.size W wr)) (fun _ i _ => p.nn - (intOf i).toNat)
  case atStart => exact ⟨0, Nat.zero_le _, rfl, World.ownsRow_nil _ _ _ _, Lib.hid (Below.refl _ _)⟩
  case round =>
    obtain ⟨k, hk, rfl, hown, hbel⟩ := hrel
    have x1 : ∀ i, wr.cell? ⟨w.heap.size, i, none⟩ = (#[.slice p.la p.ln p.lc, .slice p.na p.nn p.nc, .int .i64 p.sw, .int .i64 p.id, .int .i64 p.ch, .int .i64 p.qu, .int .i64 p.sl, .int .i64 p.pp] : Array Value)[i]? := fun i => (hbel.out.cell (p := ⟨w.heap.size, i, none⟩) B1.out.lt).trans (B1.out.cell i)
    by_cases hlt : k < p.nn
    · have okr := ok.below (BB.out.trans (hbel.out.mono (by rw [SZ.out]; omega))) (Nat.le_refl _)
      obtain ⟨c, hc⟩ : ∃ c, CntR p (k : Int) now en = c := ⟨_, rfl⟩
      have hlen := naw_len p now en k
      have C := Lib.hid (Countsr_any p (k : Int) now en wr okr c (Lib.hid hc))
      by_cases hle : 1 ≤ c
      · have HR := Lib.hid (naw_in (p := p) (now := now) (en := en) (k := k) (by rw [hc]; exact hle))
        clear hc
        go_wp2_with (first
          | (go_at_call 35; refine (C.out).mono ?_; rintro r1 w5 ⟨rfl, k5⟩; have hown5 := ownsRow_keep hown k5; have HB5 := Lib.hid (hbel.out.trans (k5.mono hbel.out.size)); clear k5)
          | (at_builtin; go_loud (refine append1 w5 rfl _ _ 32 rfl W.heap.size 3 (.int .i64 0) 8 Try.underlying32 infoInt rfl _ (.int .i64 (k : Int)) _ _ _ rfl (by exact hown5) rfl rfl ?c1 ?c2 ?c3 ?_)))
        case c1 => unfold maxLen; omega
        case c2 => omega
        case c3 => exact HB5.out.size
        intro v' w1 hown1 hsz hb1 _
        go_wp2_with fail
        go_roundw
        case rel => exact ⟨k + 1, by omega, by go_num, by rw [HR.out, encL_snoc, List.length_append]; exact hown1, Lib.hid (HB5.out.trans hb1)⟩
        case measure => simp [intOf]; omega
      · have HR := Lib.hid (naw_out (p := p) (now := now) (en := en) (k := k) (by rw [hc]; exact hle))
        clear hc
        have hle : c < 1 := by omega
        go_wp2_with (go_at_call 35; refine (C.out).mono ?_; rintro r1 w5 ⟨rfl, k5⟩; have hown5 := ownsRow_keep hown k5; have HB5 := Lib.hid (hbel.out.trans (k5.mono hbel.out.size)); clear k5)
        go_roundw
        case rel => exact ⟨k + 1, by omega, by go_num, by rw [HR.out]; exact hown5, HB5⟩
        case measure => simp [intOf]; omega
    · obtain rfl : k = p.nn := by omega
      go_wp2_with fail
      go_ret
      refine ⟨_, rfl, ?_, BB.out.trans (hbel.out.mono (by rw [SZ.out]; omega))⟩
      rw [← hL.out]
      exact own_base hown (fun g hg => by have := (World.ownsRow.lt hown g hg).1; rw [SZ.out] at this; omega)
end Go.Proofs.Ytigknchcjlieoaa.NapE

/- Walks of the reference's slack: New. -/
import Derived.Test.YtaoghiijgcdbgaaSlkS
import Derived.RangeFuncBox
namespace Go.Proofs.Ytaoghiijgcdbgaa.SlkT
open Go.RowKit Base Kit WideA Alt RefA SlkA SlkB SlkC SlkD SlkE SlkF SlkR SlkS Boo
set_option linter.unusedVariables false
set_option linter.unusedSimpArgs false

/-- the reference's slack under way -/
structure Rr (w0 w : World) (pv : Array Value) (r i j : Nat) (U V : Value) (x : SS) : Prop where
  bel : Below w0.heap.size w0 w
  hr : w0.heap.size ≤ r
  pb : Box w w0.heap.size pv 29
  box : Box w r #[.int .i64 x.room, U, V] 75
  has : w.ownsRow w0.heap.size 3 1 U i (row x.has i)
  dn : w.ownsRow w0.heap.size 4 1 V j (brow x.dn j)
section
variable {w0 w : World} {pv : Array Value} {r i j : Nat} {U V : Value} {x : SS}
theorem rr_pushU {w2 : World} {g cap : Nat} {y : Int} (h : Hid (Rr w0 w pv r i j U V x)) (hy : x.has i = y) (hown : w2.ownsRow w0.heap.size 3 1 (.slice (some ⟨g, 0, none⟩) (i + 1) cap) (i + 1) (row x.has i ++ [.int .i64 y]))
    (hg : (w.alloc (.cells #[.int .i64 y] 3)).grownBy w2 U.ownBlock) :
    Hid (Rr w0 (w2.setCell ⟨r, 1, none⟩ (.slice (some ⟨g, 0, none⟩) (i + 1) cap)) pv r (i + 1) j (.slice (some ⟨g, 0, none⟩) (i + 1) cap) V x) := by
  have L := h.out
  have sz := L.bel.size
  have B2 : Box w2 r _ _ := (L.box.alloc _).grown hg (fun e => own_ne' L.has L.box (by decide) e.symm)
  have P2 : Box w2 w0.heap.size _ _ := (L.pb.alloc _).grown hg (fun e => own_ne' L.has L.pb (by decide) e.symm)
  have hA : Alt (fun i => i = r) w2 (w2.setCell ⟨r, 1, none⟩ (.slice (some ⟨g, 0, none⟩) (i + 1) cap)) := Alt.set _ _ _ rfl
  have bel2 : Below w0.heap.size w0 w2 := (L.bel.alloc sz _).grown hg (by simp; omega) (fun g hg => (World.ownsRow.lt L.has g hg).1)
  have k2 : Alt (fun b => U.ownBlock = some b) w w2 := (Alt.alloc w _).trans (Alt.of_grown hg (fun _ e => e))
  have D2 := own_alt' L.dn k2 (fun b hb e => own_apart L.has L.dn (by decide) hb e)
  refine Lib.hid ⟨hA.below bel2 bel2.size (fun i hi => by rw [hi]; exact L.hr), L.hr, P2.setOther _ _ (box_ne P2 B2 (by decide)), B2.set 1 _, ?_, own_alt' D2 hA (fun b hb e => ?_)⟩
  · rw [row_succ, hy]
    exact own_alt hown hA (own_ne hown B2 (by decide))
  · subst e; exact own_ne' D2 B2 (by decide) hb
theorem rr_pushV {w2 : World} {g cap : Nat} {y : Bool} (h : Hid (Rr w0 w pv r i j U V x)) (hy : x.dn j = y) (hown : w2.ownsRow w0.heap.size 4 1 (.slice (some ⟨g, 0, none⟩) (j + 1) cap) (j + 1) (brow x.dn j ++ [.bool y]))
    (hg : (w.alloc (.cells #[.bool y] 4)).grownBy w2 V.ownBlock) :
    Hid (Rr w0 (w2.setCell ⟨r, 2, none⟩ (.slice (some ⟨g, 0, none⟩) (j + 1) cap)) pv r i (j + 1) U (.slice (some ⟨g, 0, none⟩) (j + 1) cap) x) := by
  have L := h.out
  have sz := L.bel.size
  have B2 : Box w2 r _ _ := (L.box.alloc _).grown hg (fun e => own_ne' L.dn L.box (by decide) e.symm)
  have P2 : Box w2 w0.heap.size _ _ := (L.pb.alloc _).grown hg (fun e => own_ne' L.dn L.pb (by decide) e.symm)
  have hA : Alt (fun i => i = r) w2 (w2.setCell ⟨r, 2, none⟩ (.slice (some ⟨g, 0, none⟩) (j + 1) cap)) := Alt.set _ _ _ rfl
  have bel2 : Below w0.heap.size w0 w2 := (L.bel.alloc sz _).grown hg (by simp; omega) (fun g hg => (World.ownsRow.lt L.dn g hg).1)
  have k2 : Alt (fun b => V.ownBlock = some b) w w2 := (Alt.alloc w _).trans (Alt.of_grown hg (fun _ e => e))
  have D2 := own_alt' L.has k2 (fun b hb e => own_apart L.dn L.has (by decide) hb e)
  refine Lib.hid ⟨hA.below bel2 bel2.size (fun i hi => by rw [hi]; exact L.hr), L.hr, P2.setOther _ _ (box_ne P2 B2 (by decide)), B2.set 2 _, own_alt' D2 hA (fun b hb e => ?_), ?_⟩
  · subst e; exact own_ne' D2 B2 (by decide) hb
  · rw [brow_succ, hy]
    exact own_alt hown hA (own_ne hown B2 (by decide))
end
theorem rr_boxU {w0 w w2 : World} {pv : Array Value} {r i j : Nat} {U V : Value} {x : SS} {o : Obj} (h : Hid (Rr w0 w pv r i j U V x)) (hg : (w.alloc o).grownBy w2 U.ownBlock) : Box w2 r #[.int .i64 x.room, U, V] 75 := (h.out.box.alloc _).grown hg (fun e => own_ne' h.out.has h.out.box (by decide) e.symm)
theorem rr_boxV {w0 w w2 : World} {pv : Array Value} {r i j : Nat} {U V : Value} {x : SS} {o : Obj} (h : Hid (Rr w0 w pv r i j U V x)) (hg : (w.alloc o).grownBy w2 V.ownBlock) : Box w2 r #[.int .i64 x.room, U, V] 75 := (h.out.box.alloc _).grown hg (fun e => own_ne' h.out.dn h.out.box (by decide) e.symm)
def NPost (w0 : World) (cap : Int) (f : Nat → Nat → Int) (n : Nat) (w : World) (e : Ending) (w' : World) : Prop := ∃ r U V, e = .returned (.pointer (some ⟨r, 0, none⟩)) ∧ Below w.heap.size w w' ∧ Hid (Rk w0 w' r n U V (ini cap f))
set_option maxRecDepth 100000 in
set_option maxHeartbeats 8000000 in
theorem newr_any (ra : Option Addr) (rn rc : Nat) (pa : Option Addr) (pn pc : Nat) (f : Nat → Nat → Int) (oo so qo to co : Value) (fl cap bud lad : Int) (w w0 : World) (hb0 : Hid (Below w0.heap.size w0 w)) (h : Hid (Open.RowsIn w pa pn 3 f)) (hpn : pn ≤ 100) (hc : I64 cap) :
    Calls Try.prog 18 #[.agg #[.slice ra rn rc, .slice pa pn pc, oo, so, .int .i64 fl, qo, to, .int .i64 cap, .int .i64 bud, .int .i64 lad, co]] w (NPost w0 cap f pn w) := by
  obtain ⟨hc1, hc2⟩ := hc
  have OK := Lib.hid (ini_ok (cap := cap) (f := f) (n := pn) ⟨hc1, hc2⟩ hpn (fun i hi => h.out.2.2 i hi 2 (by omega)))
  have S : Hid (Rr w ((w.alloc (.cells #[.slice ra rn rc, .slice pa pn pc, oo, so, .int .i64 fl, qo, to, .int .i64 cap, .int .i64 bud, .int .i64 lad, co] 29)).alloc (.cells #[.int .i64 (mx0 cap), .slice none 0 0, .slice none 0 0] 75)) #[.slice ra rn rc, .slice pa pn pc, oo, so, .int .i64 fl, qo, to, .int .i64 cap, .int .i64 bud, .int .i64 lad, co] (w.heap.size + 1) 0 0 (.slice none 0 0) (.slice none 0 0) (ini cap f)) := by
    have b1 := Box.new (w.alloc (.cells #[.slice ra rn rc, .slice pa pn pc, oo, so, .int .i64 fl, qo, to, .int .i64 cap, .int .i64 bud, .int .i64 lad, co] 29)) #[.int .i64 (mx0 cap), .slice none 0 0, .slice none 0 0] 75
    rw [World.size_alloc] at b1
    exact Lib.hid ⟨((Below.refl _ _).alloc (Nat.le_refl _) _).alloc (by simp) _, by omega, (Box.new _ _ _).alloc _, b1, World.ownsRow_nil _ _ _ _, World.ownsRow_nil _ _ _ _⟩
  by_cases h0 : 0 < cap
  · have e0 : mx0 cap = cap := by unfold mx0; rw [if_pos h0]
    have E0 := Lib.hid e0
    rw [e0] at S
    clear e0
    go_enter Try.func18, Try.ntmps18
    go_wp2_with fail
    generalize (w.alloc (.cells #[.slice ra rn rc, .slice pa pn pc, oo, so, .int .i64 fl, qo, to, .int .i64 cap, .int .i64 bud, .int .i64 lad, co] 29)).alloc (.cells #[.int .i64 cap, .slice none 0 0, .slice none 0 0] 75) = w1 at S ⊢
    go_loopw [4] (fun i wr => ∃ (k : Nat) (U V : Value), k ≤ pn ∧ i = .int .i64 k ∧ Hid (Rr w wr #[.slice ra rn rc, .slice pa pn pc, oo, so, .int .i64 fl, qo, to, .int .i64 cap, .int .i64 bud, .int .i64 lad, co] (w.heap.size + 1) k k U V (ini cap f))) (fun i _ => pn - (intOf i).toNat)
    case atStart => exact ⟨0, _, _, by omega, rfl, S⟩
    case round =>
      clear S
      obtain ⟨k, U, V, hk, rfl, S⟩ := hrel
      have bp := S.out.pb.cell
      have bs := S.out.box.cell
      have hsz := S.out.bel.size
      by_cases hlt : k < pn
      · obtain ⟨pb, po, rfl, lp, -, -, c2, -, -, i2⟩ := rows_at3 h k hlt
        have c2 := keep S.out.bel c2 lp
        obtain ⟨z, ez⟩ : ∃ z, f k 2 = z := ⟨_, rfl⟩
        rw [ez] at c2 i2
        have EZ := Lib.hid ez
        obtain ⟨i20, i21⟩ := i2
        clear ez
        have oU := S.out.has
        by_cases hz : z < 0
        · have ey : (ini cap f).has k = 0 := by show mx0 (f k 2) = 0; rw [EZ.out]; unfold mx0; rw [if_neg (by omega)]
          have EY := Lib.hid ey
          clear ey
          go_wp2_with (at_builtin; go_loud (refine append1 wr rfl _ _ 27 rfl w.heap.size 3 (.int .i64 0) 8 Try.underlying27 infoInt rfl _ (.int .i64 0) _ _ _ rfl (by exact oU) rfl rfl (by unfold maxLen; omega) (by omega) hsz ?_))
          intro v' w2 hown1 hsz1 hb1 hg
          obtain ⟨g, cp, rfl⟩ := ownsRow_succ hown1
          have B2 := Lib.hid (rr_boxU S hg)
          have S2 := rr_pushU S EY.out hown1 hg
          have b2 := B2.out.cell
          have f2 := B2.out.frozen
          have s2 := S2.out.box.cell
          have p2 := S2.out.pb.cell
          have sz2 := S2.out.bel.size
          have oV := S2.out.dn
          have ezs : (w2.setCell ⟨w.heap.size + 1, 1, none⟩ (.slice (some ⟨g, 0, none⟩) (k + 1) cp)).heap.size = w2.heap.size := by simp [World.setCell]
          have EZS := Lib.hid ezs
          clear hown1 hsz1 hb1 hg bp bs oU ezs
          go_wp2_with (at_builtin; go_loud (refine append1 (w2.setCell ⟨w.heap.size + 1, 1, none⟩ (.slice (some ⟨g, 0, none⟩) (k + 1) cp)) rfl _ _ 35 rfl w.heap.size 4 (.bool false) 1 Try.underlying35 infoBool rfl _ (.bool false) _ _ _ rfl (by exact oV) (by rw [EZS.out]; rfl) rfl (by unfold maxLen; omega) (by omega) sz2 ?_))
          intro v' w4 hown3 hsz3 hb3 hg3
          obtain ⟨g3, cp3, rfl⟩ := ownsRow_succ hown3
          have B4 := Lib.hid (rr_boxV S2 hg3)
          have S4 := rr_pushV S2 rfl hown3 hg3
          have b4 := B4.out.cell
          have f4 := B4.out.frozen
          clear hown3 hsz3 hb3 hg3 b2 f2 s2 p2 oV S2 S
          go_wp2_with fail
          go_roundw
          case rel => exact ⟨k + 1, _, _, by omega, by go_num, S4⟩
          case measure => simp [intOf]; omega
        · have ey : (ini cap f).has k = z := by show mx0 (f k 2) = z; rw [EZ.out]; unfold mx0; split <;> omega
          have hz : 0 ≤ z := by omega
          have EY := Lib.hid ey
          clear ey
          go_wp2_with (at_builtin; go_loud (refine append1 wr rfl _ _ 27 rfl w.heap.size 3 (.int .i64 0) 8 Try.underlying27 infoInt rfl _ (.int .i64 z) _ _ _ rfl (by exact oU) rfl rfl (by unfold maxLen; omega) (by omega) hsz ?_))
          intro v' w2 hown1 hsz1 hb1 hg
          obtain ⟨g, cp, rfl⟩ := ownsRow_succ hown1
          have B2 := Lib.hid (rr_boxU S hg)
          have S2 := rr_pushU S EY.out hown1 hg
          have b2 := B2.out.cell
          have f2 := B2.out.frozen
          have s2 := S2.out.box.cell
          have p2 := S2.out.pb.cell
          have sz2 := S2.out.bel.size
          have oV := S2.out.dn
          have ezs : (w2.setCell ⟨w.heap.size + 1, 1, none⟩ (.slice (some ⟨g, 0, none⟩) (k + 1) cp)).heap.size = w2.heap.size := by simp [World.setCell]
          have EZS := Lib.hid ezs
          clear hown1 hsz1 hb1 hg bp bs oU ezs
          go_wp2_with (at_builtin; go_loud (refine append1 (w2.setCell ⟨w.heap.size + 1, 1, none⟩ (.slice (some ⟨g, 0, none⟩) (k + 1) cp)) rfl _ _ 35 rfl w.heap.size 4 (.bool false) 1 Try.underlying35 infoBool rfl _ (.bool false) _ _ _ rfl (by exact oV) (by rw [EZS.out]; rfl) rfl (by unfold maxLen; omega) (by omega) sz2 ?_))
          intro v' w4 hown3 hsz3 hb3 hg3
          obtain ⟨g3, cp3, rfl⟩ := ownsRow_succ hown3
          have B4 := Lib.hid (rr_boxV S2 hg3)
          have S4 := rr_pushV S2 rfl hown3 hg3
          have b4 := B4.out.cell
          have f4 := B4.out.frozen
          clear hown3 hsz3 hb3 hg3 b2 f2 s2 p2 oV S2 S
          go_wp2_with fail
          go_roundw
          case rel => exact ⟨k + 1, _, _, by omega, by go_num, S4⟩
          case measure => simp [intOf]; omega
      · obtain rfl : k = pn := by omega
        go_wp2_with fail
        go_ret
        have sz := hb0.out.size
        exact ⟨_, U, V, rfl, S.out.bel, Lib.hid ⟨below_next hb0.out S.out.bel, by omega, fun g hg => Nat.le_trans sz (World.ownsRow.lt S.out.has g hg).1, fun g hg => Nat.le_trans sz (World.ownsRow.lt S.out.dn g hg).1, S.out.box, own_base S.out.has (fun _ _ => Nat.zero_le _), own_base S.out.dn (fun _ _ => Nat.zero_le _), OK.out⟩⟩
  · have e0 : mx0 cap = 0 := by unfold mx0; rw [if_neg h0]
    have h0 : cap ≤ 0 := by omega
    have E0 := Lib.hid e0
    rw [e0] at S
    clear e0
    go_enter Try.func18, Try.ntmps18
    go_wp2_with fail
    generalize (w.alloc (.cells #[.slice ra rn rc, .slice pa pn pc, oo, so, .int .i64 fl, qo, to, .int .i64 cap, .int .i64 bud, .int .i64 lad, co] 29)).alloc (.cells #[.int .i64 0, .slice none 0 0, .slice none 0 0] 75) = w1 at S ⊢
    go_loopw [4] (fun i wr => ∃ (k : Nat) (U V : Value), k ≤ pn ∧ i = .int .i64 k ∧ Hid (Rr w wr #[.slice ra rn rc, .slice pa pn pc, oo, so, .int .i64 fl, qo, to, .int .i64 cap, .int .i64 bud, .int .i64 lad, co] (w.heap.size + 1) k k U V (ini cap f))) (fun i _ => pn - (intOf i).toNat)
    case atStart => exact ⟨0, _, _, by omega, rfl, S⟩
    case round =>
      clear S
      obtain ⟨k, U, V, hk, rfl, S⟩ := hrel
      have bp := S.out.pb.cell
      have bs := S.out.box.cell
      have hsz := S.out.bel.size
      by_cases hlt : k < pn
      · obtain ⟨pb, po, rfl, lp, -, -, c2, -, -, i2⟩ := rows_at3 h k hlt
        have c2 := keep S.out.bel c2 lp
        obtain ⟨z, ez⟩ : ∃ z, f k 2 = z := ⟨_, rfl⟩
        rw [ez] at c2 i2
        have EZ := Lib.hid ez
        obtain ⟨i20, i21⟩ := i2
        clear ez
        have oU := S.out.has
        by_cases hz : z < 0
        · have ey : (ini cap f).has k = 0 := by show mx0 (f k 2) = 0; rw [EZ.out]; unfold mx0; rw [if_neg (by omega)]
          have EY := Lib.hid ey
          clear ey
          go_wp2_with (at_builtin; go_loud (refine append1 wr rfl _ _ 27 rfl w.heap.size 3 (.int .i64 0) 8 Try.underlying27 infoInt rfl _ (.int .i64 0) _ _ _ rfl (by exact oU) rfl rfl (by unfold maxLen; omega) (by omega) hsz ?_))
          intro v' w2 hown1 hsz1 hb1 hg
          obtain ⟨g, cp, rfl⟩ := ownsRow_succ hown1
          have B2 := Lib.hid (rr_boxU S hg)
          have S2 := rr_pushU S EY.out hown1 hg
          have b2 := B2.out.cell
          have f2 := B2.out.frozen
          have s2 := S2.out.box.cell
          have p2 := S2.out.pb.cell
          have sz2 := S2.out.bel.size
          have oV := S2.out.dn
          have ezs : (w2.setCell ⟨w.heap.size + 1, 1, none⟩ (.slice (some ⟨g, 0, none⟩) (k + 1) cp)).heap.size = w2.heap.size := by simp [World.setCell]
          have EZS := Lib.hid ezs
          clear hown1 hsz1 hb1 hg bp bs oU ezs
          go_wp2_with (at_builtin; go_loud (refine append1 (w2.setCell ⟨w.heap.size + 1, 1, none⟩ (.slice (some ⟨g, 0, none⟩) (k + 1) cp)) rfl _ _ 35 rfl w.heap.size 4 (.bool false) 1 Try.underlying35 infoBool rfl _ (.bool false) _ _ _ rfl (by exact oV) (by rw [EZS.out]; rfl) rfl (by unfold maxLen; omega) (by omega) sz2 ?_))
          intro v' w4 hown3 hsz3 hb3 hg3
          obtain ⟨g3, cp3, rfl⟩ := ownsRow_succ hown3
          have B4 := Lib.hid (rr_boxV S2 hg3)
          have S4 := rr_pushV S2 rfl hown3 hg3
          have b4 := B4.out.cell
          have f4 := B4.out.frozen
          clear hown3 hsz3 hb3 hg3 b2 f2 s2 p2 oV S2 S
          go_wp2_with fail
          go_roundw
          case rel => exact ⟨k + 1, _, _, by omega, by go_num, S4⟩
          case measure => simp [intOf]; omega
        · have ey : (ini cap f).has k = z := by show mx0 (f k 2) = z; rw [EZ.out]; unfold mx0; split <;> omega
          have hz : 0 ≤ z := by omega
          have EY := Lib.hid ey
          clear ey
          go_wp2_with (at_builtin; go_loud (refine append1 wr rfl _ _ 27 rfl w.heap.size 3 (.int .i64 0) 8 Try.underlying27 infoInt rfl _ (.int .i64 z) _ _ _ rfl (by exact oU) rfl rfl (by unfold maxLen; omega) (by omega) hsz ?_))
          intro v' w2 hown1 hsz1 hb1 hg
          obtain ⟨g, cp, rfl⟩ := ownsRow_succ hown1
          have B2 := Lib.hid (rr_boxU S hg)
          have S2 := rr_pushU S EY.out hown1 hg
          have b2 := B2.out.cell
          have f2 := B2.out.frozen
          have s2 := S2.out.box.cell
          have p2 := S2.out.pb.cell
          have sz2 := S2.out.bel.size
          have oV := S2.out.dn
          have ezs : (w2.setCell ⟨w.heap.size + 1, 1, none⟩ (.slice (some ⟨g, 0, none⟩) (k + 1) cp)).heap.size = w2.heap.size := by simp [World.setCell]
          have EZS := Lib.hid ezs
          clear hown1 hsz1 hb1 hg bp bs oU ezs
          go_wp2_with (at_builtin; go_loud (refine append1 (w2.setCell ⟨w.heap.size + 1, 1, none⟩ (.slice (some ⟨g, 0, none⟩) (k + 1) cp)) rfl _ _ 35 rfl w.heap.size 4 (.bool false) 1 Try.underlying35 infoBool rfl _ (.bool false) _ _ _ rfl (by exact oV) (by rw [EZS.out]; rfl) rfl (by unfold maxLen; omega) (by omega) sz2 ?_))
          intro v' w4 hown3 hsz3 hb3 hg3
          obtain ⟨g3, cp3, rfl⟩ := ownsRow_succ hown3
          have B4 := Lib.hid (rr_boxV S2 hg3)
          have S4 := rr_pushV S2 rfl hown3 hg3
          have b4 := B4.out.cell
          have f4 := B4.out.frozen
          clear hown3 hsz3 hb3 hg3 b2 f2 s2 p2 oV S2 S
          go_wp2_with fail
          go_roundw
          case rel => exact ⟨k + 1, _, _, by omega, by go_num, S4⟩
          case measure => simp [intOf]; omega
      · obtain rfl : k = pn := by omega
        go_wp2_with fail
        go_ret
        have sz := hb0.out.size
        exact ⟨_, U, V, rfl, S.out.bel, Lib.hid ⟨below_next hb0.out S.out.bel, by omega, fun g hg => Nat.le_trans sz (World.ownsRow.lt S.out.has g hg).1, fun g hg => Nat.le_trans sz (World.ownsRow.lt S.out.dn g hg).1, S.out.box, own_base S.out.has (fun _ _ => Nat.zero_le _), own_base S.out.dn (fun _ _ => Nat.zero_le _), OK.out⟩⟩
end Go.Proofs.Ytaoghiijgcdbgaa.SlkT

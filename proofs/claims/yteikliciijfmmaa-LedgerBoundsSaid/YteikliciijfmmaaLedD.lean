/- Walks of package ledger: Refill, All. -/
import Derived.Test.YteikliciijfmmaaLedC
namespace Go.Proofs.Yteikliciijfmmaa.LedD
open Go.RowKit Base Kit WideA WideB Plain FitA FitB FitC Conf Alt RefA LedA LedB LedC
set_option linter.unusedVariables false
set_option linter.unusedSimpArgs false

theorem own_at {w : World} {A : Option Addr} {c n : Nat} {a : Nat → Nat} {e : TypeId} (h : w.ownsRow 0 e 1 (.slice A n c) n (prow a n)) (i : Nat) (hi : i < n) : ∃ g, A = some ⟨g, 0, none⟩ ∧ w.cell? ⟨g, i, none⟩ = some (.pointer (some ⟨a i, 0, none⟩)) := by
  obtain ⟨A', c', e1, h2⟩ := own_slice h
  simp only [Value.slice.injEq, true_and] at e1
  obtain ⟨rfl, rfl⟩ := e1
  exact h2 i hi
section
variable {w0 w : World} {W : PowC} {q : Int} {bud : Nat → Int} {n l : Nat} {v : Value} {a : Nat → Nat} {cy : Nat → Int}
theorem ls_congr {cy2 : Nat → Int} (h : Hid (Ls w0 w W q bud n l v a cy)) (e : ∀ i, i < n → cy i = cy2 i) : Hid (Ls w0 w W q bud n l v a cy2) :=
  Lib.hid ⟨h.out.bel, h.out.hl, h.out.ha, h.out.hv, Lib.hid ⟨h.out.lm.out.box, h.out.lm.out.own, fun i hi => by rw [← e i hi]; exact h.out.lm.out.acc i hi, h.out.lm.out.inj⟩, h.out.lev, fun i hi => by rw [← e i hi]; exact h.out.cyb i hi, h.out.hn, h.out.budI, h.out.qI⟩
/-- the first k are made 0 -/
def zr (cy : Nat → Int) (k : Nat) : Nat → Int := fun i => if i < k then 0 else cy i
theorem zr_upd (cy : Nat → Int) (k : Nat) : upd (zr cy k) k 0 = zr cy (k + 1) := by
  funext i; unfold upd zr
  by_cases h1 : i = k
  · subst h1; simp
  · by_cases h2 : i < k
    · simp [h1, h2, show i < k + 1 by omega]
    · simp [h1, h2, show ¬ i < k + 1 by omega]
set_option maxRecDepth 100000 in
set_option maxHeartbeats 1000000 in
theorem ls_refill (h : Hid (Ls w0 w W q bud n l v a cy)) :
    Calls Try.prog 46 #[.pointer (some ⟨l, 0, none⟩)] w fun e w' => (∃ v, e = .returned v) ∧ Hid (Ls w0 w' W q bud n l v a (fun _ => 0)) ∧ Alt (Acc n a) w w' := by
  have C0 := Lib.hid (dead_any w l v (Lib.hid h.out.lm.out.box))
  obtain ⟨A, c, rfl, -⟩ := own_slice h.out.lm.out.own
  have bc := h.out.lm.out.box.cell
  have hn := h.out.hn
  go_enter Try.func46, Try.ntmps46
  go_wp2_with fail
  refine C0.out.mono ?_
  rintro e w1 ⟨rfl, rfl⟩
  go_wp2_with fail
  go_loopw [11] (fun i wr => ∃ k : Nat, k ≤ n ∧ i = .int .i64 k ∧ Hid (Ls w0 wr W q bud n l (.slice A n c) a (zr cy k)) ∧ Hid (Alt (Acc n a) w wr)) (fun i _ => n - (intOf i).toNat)
  case atStart => exact ⟨0, by omega, rfl, ls_congr h (fun i hi => by simp [zr]), Lib.hid (Alt.refl _ _)⟩
  case round =>
    obtain ⟨k, hk, rfl, HS, HA⟩ := hrel
    by_cases hlt : k < n
    · obtain ⟨g, rfl, gc⟩ := own_at HS.out.lm.out.own k hlt
      have ac := (ls_acc HS k hlt).out.cell
      have af := (ls_acc HS k hlt).out.frozen
      have HS' := ls_set HS k hlt 0 ⟨by omega, by omega⟩
      rw [zr_upd] at HS'
      have HA' := Lib.hid (HA.out.trans (Alt.set wr ⟨a k, 10, none⟩ (.int .i64 0) ⟨k, hlt, rfl⟩))
      clear bc
      go_wp2_with fail
      go_roundw
      case rel => exact ⟨k + 1, by omega, by go_num, HS', HA'⟩
      case measure => simp [intOf]; omega
    · obtain rfl : k = n := by omega
      go_wp2_with fail
      go_end0
      exact ⟨⟨_, rfl⟩, ls_congr HS (fun i hi => by simp [zr, hi]), HA.out⟩

def AllPost (w0 : World) (W : PowC) (q : Int) (bud : Nat → Int) (n l : Nat) (v : Value) (a : Nat → Nat) (cy : Nat → Int) (w : World) (e : Ending) (w' : World) : Prop :=
  ∃ r, e = .returned r ∧ Hid (Ls w0 w' W q bud n l v a cy) ∧ Hid (w'.ownsRow w.heap.size 3 1 r n (row (fun i => (cst W (cy i)).1) n)) ∧ Below w.heap.size w w'
set_option maxRecDepth 100000 in
set_option maxHeartbeats 1000000 in
theorem ls_all (h : Hid (Ls w0 w W q bud n l v a cy)) :
    Calls Try.prog 49 #[.pointer (some ⟨l, 0, none⟩)] w (AllPost w0 W q bud n l v a cy w) := by
  have C0 := Lib.hid (dead_any w l v (Lib.hid h.out.lm.out.box))
  obtain ⟨A, c, rfl, -⟩ := own_slice h.out.lm.out.own
  have bc := h.out.lm.out.box.cell
  have hn := h.out.hn
  obtain ⟨i0, hi, hz0, hz1, hz2⟩ := info_parts infoInt
  go_enter Try.func49, Try.ntmps49
  go_wp2_with fail
  refine C0.out.mono ?_
  rintro e w1 ⟨rfl, rfl⟩
  go_wp2_with fail
  go_loopw [3, 13] (fun o i wr => ∃ k : Nat, k ≤ n ∧ i = .int .i64 k ∧ Hid (Ls w0 wr W q bud n l (.slice A n c) a cy) ∧ wr.ownsRow w.heap.size 3 1 o k (row (fun i => (cst W (cy i)).1) k) ∧ Hid (Below w.heap.size w wr)) (fun _ i _ => n - (intOf i).toNat)
  case atStart => exact ⟨0, by omega, rfl, h, World.ownsRow_nil _ _ _ _, Lib.hid (Below.refl _ _)⟩
  case round =>
    obtain ⟨k, hk, rfl, HS, hown, HB⟩ := hrel
    by_cases hlt : k < n
    · obtain ⟨g, rfl, gc⟩ := own_at HS.out.lm.out.own k hlt
      obtain ⟨u, hu⟩ : ∃ u, (cst W (cy k)).1 = u := ⟨_, rfl⟩
      have C := Lib.hid (used_any W wr (a k) (bud k) q (cy k) u (ls_acc HS k hlt) (ls_lev HS) (ls_cy HS k hlt) (Lib.hid hu))
      have HU := Lib.hid hu
      have HO := Lib.hid hown
      clear bc hu hown
      go_wp2_with fail
      refine C.out.mono ?_
      rintro e1 w3 ⟨rfl, hb3⟩
      have HS3 := ls_next HS hb3
      have hown := ownsRow_keep HO.out hb3
      have HB := below_hid HB hb3
      have hz := HB.out.size
      clear hb3
      go_wp2_with (at_builtin; go_loud (refine append1 w3 rfl _ _ 41 rfl w.heap.size 3 (.int .i64 0) 8 Try.underlying41 infoInt rfl _ (.int .i64 u) _ _ _ rfl (by exact hown) rfl rfl ?c1 ?c2 ?c3 ?_))
      case c1 => unfold maxLen; omega
      case c2 => omega
      case c3 => exact hz
      intro v' w4 hown1 hsz hb1 hg
      have HB4 := Lib.hid (HB.out.trans hb1)
      have HS4 := ls_next h HB4.out
      have HO4 : Hid (w4.ownsRow w.heap.size 3 1 v' (k + 1) (row (fun i => (cst W (cy i)).1) (k + 1))) := Lib.hid (by
        rw [row_succ]
        show w4.ownsRow _ _ _ _ _ (row (fun i => (cst W (cy i)).1) k ++ [.int .i64 (cst W (cy k)).1])
        rw [HU.out]; exact hown1)
      clear hown hown1 hb1 hg
      go_wp2
      go_roundw
      case rel => exact ⟨k + 1, by omega, by go_num, HS4, HO4.out, HB4⟩
      case measure => simp [intOf]; omega
    · obtain rfl : k = n := by omega
      have HO := Lib.hid hown
      clear hown
      go_wp2_with fail
      go_ret
      exact ⟨_, rfl, HS, HO, HB.out⟩
end
end Go.Proofs.Yteikliciijfmmaa.LedD

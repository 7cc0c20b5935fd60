/- The reference's Short: has a configuration short lists? -/
import Derived.Test.YtgkahcchekiogaaConf2
namespace Go.Proofs.Ytgkahcchekiogaa.Short
open Go.RowKit Base Kit Conf Conf2
set_option linter.unusedVariables false
set_option linter.unusedSimpArgs false

def ShP (p : PartC) : Prop := p.rn ≤ 100 ∧ p.pn ≤ 100 ∧ p.on ≤ 100 ∧ p.sn ≤ 100 ∧ p.qn ≤ 100 ∧ p.tn ≤ 100 ∧ p.cn ≤ 100
def Sh (c : ConfC) : Prop := (c.pn ≤ 100 ∧ c.cn ≤ 100 ∧ c.mn ≤ 100 ∧ c.w.ln ≤ 100 ∧ c.w.nn ≤ 100 ∧ c.dn ≤ 100 ∧ c.un ≤ 100) ∧ (∀ i, i < c.pn → ShP (c.p i)) ∧ ∀ i, i < c.mn → (c.m i).wn ≤ 100
def ShPost (c : ConfC) (w : World) (e : Ending) (w' : World) : Prop := ∃ b : Bool, (b = true ↔ Sh c) ∧ e = .returned (.bool b) ∧ Below w.heap.size w w'

theorem no_iff {P : Prop} (h : ¬ P) : (false = true ↔ P) := ⟨(fun e => by cases e), fun e => absurd e h⟩
theorem yes_iff {P : Prop} (h : P) : (true = true ↔ P) := ⟨fun _ => h, fun _ => rfl⟩
/-- a partition's cells -/
theorem part_at {w : World} {a : Option Addr} {n : Nat} {p : Nat → PartC} (h : Hid (RowsV w a n 11 (fun i j => (p i).vals.getD j undef))) (k : Nat) (hk : k < n) :
    ∃ b off, a = some ⟨b, off, none⟩ ∧ b < w.heap.size ∧ w.cell? ⟨b, off + k * 11, none⟩ = some (.slice (p k).ra (p k).rn (p k).rc) ∧ w.cell? ⟨b, off + k * 11 + 1, none⟩ = some (.slice (p k).pa (p k).pn (p k).pc) ∧
      w.cell? ⟨b, off + k * 11 + 2, none⟩ = some (.slice (p k).oa (p k).on (p k).oc) ∧ w.cell? ⟨b, off + k * 11 + 3, none⟩ = some (.slice (p k).sa (p k).sn (p k).sc) ∧ w.cell? ⟨b, off + k * 11 + 4, none⟩ = some (.int .i64 (p k).fl) ∧
      w.cell? ⟨b, off + k * 11 + 5, none⟩ = some (.slice (p k).qa (p k).qn (p k).qc) ∧ w.cell? ⟨b, off + k * 11 + 6, none⟩ = some (.slice (p k).ta (p k).tn (p k).tc) ∧ w.cell? ⟨b, off + k * 11 + 7, none⟩ = some (.int .i64 (p k).cap) ∧
      w.cell? ⟨b, off + k * 11 + 8, none⟩ = some (.int .i64 (p k).bud) ∧ w.cell? ⟨b, off + k * 11 + 9, none⟩ = some (.int .i64 (p k).lad) ∧ w.cell? ⟨b, off + k * 11 + 10, none⟩ = some (.slice (p k).ca (p k).cn (p k).cc) := by
  rcases h.out.2 with h1 | ⟨b, off, e, hlt, hc⟩
  · omega
  · exact ⟨b, off, e, hlt, hc k hk 0 (by omega), hc k hk 1 (by omega), hc k hk 2 (by omega), hc k hk 3 (by omega), hc k hk 4 (by omega), hc k hk 5 (by omega), hc k hk 6 (by omega), hc k hk 7 (by omega), hc k hk 8 (by omega), hc k hk 9 (by omega), hc k hk 10 (by omega)⟩
theorem mode_at {w : World} {a : Option Addr} {n : Nat} {m : Nat → ModeC} (h : Hid (RowsV w a n 2 (fun i j => (m i).vals.getD j undef))) (k : Nat) (hk : k < n) :
    ∃ b off, a = some ⟨b, off, none⟩ ∧ b < w.heap.size ∧ w.cell? ⟨b, off + k * 2, none⟩ = some (.int .i64 (m k).fr) ∧ w.cell? ⟨b, off + k * 2 + 1, none⟩ = some (.slice (m k).wa (m k).wn (m k).wc) := by
  rcases h.out.2 with h1 | ⟨b, off, e, hlt, hc⟩
  · omega
  · exact ⟨b, off, e, hlt, hc k hk 0 (by omega), hc k hk 1 (by omega)⟩

/-- a configuration's block -/
def cv (c : ConfC) : Array Value := #[.slice c.pa c.pn c.pc, .slice c.ca c.cn c.cc, .slice c.ma c.mn c.mc, .slice c.w.la c.w.ln c.w.lc, .slice c.w.na c.w.nn c.w.nc, .int .i64 c.w.sw, .int .i64 c.w.id, .int .i64 c.w.ch, .int .i64 c.w.qu, .int .i64 c.w.sl, .int .i64 c.w.pp, .slice c.da c.dn c.dc, .slice c.ua c.un c.uc]
set_option maxRecDepth 100000 in
set_option maxHeartbeats 4000000 in
theorem short_any (c : ConfC) (w : World) (h : c.Ok w) : Calls Try.prog 28 #[.agg #[.slice c.pa c.pn c.pc, .slice c.ca c.cn c.cc, .slice c.ma c.mn c.mc, .slice c.w.la c.w.ln c.w.lc, .slice c.w.na c.w.nn c.w.nc, .int .i64 c.w.sw, .int .i64 c.w.id, .int .i64 c.w.ch, .int .i64 c.w.qu, .int .i64 c.w.sl, .int .i64 c.w.pp, .slice c.da c.dn c.dc, .slice c.ua c.un c.uc]] w (ShPost c w) := by
  have B := Lib.hid (Box.new w (cv c) 59)
  have HB : Hid (Below w.heap.size w _) := Lib.hid ((Below.refl w.heap.size w).alloc (Nat.le_refl _) (.cells (cv c) 59))
  have P := Lib.hid (rowsV_below h.parts.out ((Below.refl w.heap.size w).alloc (Nat.le_refl _) (.cells (cv c) 59)) (Nat.le_refl _))
  have M := Lib.hid (rowsV_below h.modes.out ((Below.refl w.heap.size w).alloc (Nat.le_refl _) (.cells (cv c) 59)) (Nat.le_refl _))
  have hp := h.parts.out.1
  have hm := h.modes.out.1
  unfold cv at B HB P M
  go_enter Try.func28, Try.ntmps28
  by_cases hs : c.pn ≤ 100 ∧ c.cn ≤ 100 ∧ c.mn ≤ 100 ∧ c.w.ln ≤ 100 ∧ c.w.nn ≤ 100 ∧ c.dn ≤ 100 ∧ c.un ≤ 100
  · have HS := Lib.hid hs
    obtain ⟨s1, s2, s3, s4, s5, s6, s7⟩ := hs
    go_wp2_with fail
    generalize w.alloc (.cells #[.slice c.pa c.pn c.pc, .slice c.ca c.cn c.cc, .slice c.ma c.mn c.mc, .slice c.w.la c.w.ln c.w.lc, .slice c.w.na c.w.nn c.w.nc, .int .i64 c.w.sw, .int .i64 c.w.id, .int .i64 c.w.ch, .int .i64 c.w.qu, .int .i64 c.w.sl, .int .i64 c.w.pp, .slice c.da c.dn c.dc, .slice c.ua c.un c.uc] 59) = w1 at B HB P M ⊢
    go_loopw [3] (fun i wr => ∃ k : Nat, k ≤ c.pn ∧ i = .int .i64 k ∧ Hid (∀ i, i < k → ShP (c.p i)) ∧ Hid (Below w1.heap.size w1 wr)) (fun i _ => c.pn - (intOf i).toNat)
    case atStart => exact ⟨0, by omega, rfl, Lib.hid (fun i hi => by omega), Lib.hid (Below.refl _ _)⟩
    case round =>
      obtain ⟨k, hk, rfl, HI, HC⟩ := hrel
      have bc := (B.out.next HC.out).cell
      by_cases hk1 : k < c.pn
      · obtain ⟨b, off, ea, hlt, p0, p1, p2, p3, p4, p5, p6, p7, p8, p9, p10⟩ := part_at P k hk1
        have EA := Lib.hid ea
        rw [ea] at bc
        have p0 := keep HC.out p0 hlt
        have p1 := keep HC.out p1 hlt
        have p2 := keep HC.out p2 hlt
        have p3 := keep HC.out p3 hlt
        have p4 := keep HC.out p4 hlt
        have p5 := keep HC.out p5 hlt
        have p6 := keep HC.out p6 hlt
        have p7 := keep HC.out p7 hlt
        have p8 := keep HC.out p8 hlt
        have p9 := keep HC.out p9 hlt
        have p10 := keep HC.out p10 hlt
        clear ea
        by_cases hq : ShP (c.p k)
        · have HQ := Lib.hid hq
          obtain ⟨q1, q2, q3, q4, q5, q6, q7⟩ := hq
          go_wp2_with fail
          have HI' : Hid (∀ i, i < k + 1 → ShP (c.p i)) := Lib.hid (fun i hi => by
            by_cases e : i = k
            · subst e; exact HQ.out
            · exact HI.out i (by omega))
          go_roundw
          case rel => exact ⟨k + 1, by omega, by go_num, HI', Lib.hid (HC.out.alloc HC.out.size _)⟩
          case measure => simp [intOf]; omega
        · have HN : Hid (¬ Sh c) := Lib.hid (fun h => hq (h.2.1 k hk1))
          have ways : 100 < (c.p k).rn ∨ ((c.p k).rn ≤ 100 ∧ 100 < (c.p k).pn) ∨ ((c.p k).rn ≤ 100 ∧ (c.p k).pn ≤ 100 ∧ 100 < (c.p k).on) ∨ ((c.p k).rn ≤ 100 ∧ (c.p k).pn ≤ 100 ∧ (c.p k).on ≤ 100 ∧ 100 < (c.p k).sn) ∨ ((c.p k).rn ≤ 100 ∧ (c.p k).pn ≤ 100 ∧ (c.p k).on ≤ 100 ∧ (c.p k).sn ≤ 100 ∧ 100 < (c.p k).qn) ∨ ((c.p k).rn ≤ 100 ∧ (c.p k).pn ≤ 100 ∧ (c.p k).on ≤ 100 ∧ (c.p k).sn ≤ 100 ∧ (c.p k).qn ≤ 100 ∧ 100 < (c.p k).tn) ∨ ((c.p k).rn ≤ 100 ∧ (c.p k).pn ≤ 100 ∧ (c.p k).on ≤ 100 ∧ (c.p k).sn ≤ 100 ∧ (c.p k).qn ≤ 100 ∧ (c.p k).tn ≤ 100 ∧ 100 < (c.p k).cn) := by
            unfold ShP at hq; omega
          clear hq
          generalize c.p k = q at *
          rcases ways with k1 | ⟨k1, k2⟩ | ⟨k1, k2, k3⟩ | ⟨k1, k2, k3, k4⟩ | ⟨k1, k2, k3, k4, k5⟩ | ⟨k1, k2, k3, k4, k5, k6⟩ | ⟨k1, k2, k3, k4, k5, k6, k7⟩
          all_goals
            go_wp2_with fail
            go_ret
            exact ⟨false, no_iff HN.out, rfl, (below_next HB.out HC.out).alloc (Nat.le_trans HB.out.size HC.out.size) _⟩
      · obtain rfl : k = c.pn := by omega
        have HB := below_hid HB HC.out
        have B := Lib.hid (B.out.next HC.out)
        have M := Lib.hid (rowsV_below M.out HC.out (Nat.le_refl _))
        clear bc HC P
        rename_i w1'
        have bc := B.out.cell
        go_wp2_with fail
        go_loop [5] (fun i => ∃ k : Nat, k ≤ c.mn ∧ i = .int .i64 k ∧ Hid (∀ i, i < k → (c.m i).wn ≤ 100)) (fun i => c.mn - (intOf i).toNat)
        case atStart => exact ⟨0, by omega, rfl, Lib.hid (fun i hi => by omega)⟩
        case round =>
          obtain ⟨k, hk, rfl, HJ⟩ := hrel
          by_cases hk1 : k < c.mn
          · obtain ⟨b, off, ea, hlt, p0, p1⟩ := mode_at M k hk1
            rw [ea] at bc
            by_cases hq : (c.m k).wn ≤ 100
            · have HJ' : Hid (∀ i, i < k + 1 → (c.m i).wn ≤ 100) := Lib.hid (fun i hi => by
                by_cases e : i = k
                · subst e; exact hq
                · exact HJ.out i (by omega))
              clear ea
              go_wp2_with fail
              go_round
              case rel => exact ⟨k + 1, by omega, by go_num, HJ'⟩
              case measure => simp [intOf]; omega
            · have HN : Hid (¬ Sh c) := Lib.hid (fun h => hq (h.2.2 k hk1))
              have hq2 : 100 < (c.m k).wn := by omega
              clear hq ea
              go_wp2_with fail
              go_ret
              exact ⟨false, no_iff HN.out, rfl, HB.out⟩
          · obtain rfl : k = c.mn := by omega
            have HY : Hid (Sh c) := Lib.hid ⟨HS.out, HI.out, HJ.out⟩
            go_wp2_with fail
            go_ret
            exact ⟨true, yes_iff HY.out, rfl, HB.out⟩
  · have HN : Hid (¬ Sh c) := Lib.hid (fun h => hs h.1)
    have ways : 100 < c.pn ∨ (c.pn ≤ 100 ∧ 100 < c.cn) ∨ (c.pn ≤ 100 ∧ c.cn ≤ 100 ∧ 100 < c.mn) ∨ (c.pn ≤ 100 ∧ c.cn ≤ 100 ∧ c.mn ≤ 100 ∧ 100 < c.w.ln) ∨ (c.pn ≤ 100 ∧ c.cn ≤ 100 ∧ c.mn ≤ 100 ∧ c.w.ln ≤ 100 ∧ 100 < c.w.nn) ∨ (c.pn ≤ 100 ∧ c.cn ≤ 100 ∧ c.mn ≤ 100 ∧ c.w.ln ≤ 100 ∧ c.w.nn ≤ 100 ∧ 100 < c.dn) ∨ (c.pn ≤ 100 ∧ c.cn ≤ 100 ∧ c.mn ≤ 100 ∧ c.w.ln ≤ 100 ∧ c.w.nn ≤ 100 ∧ c.dn ≤ 100 ∧ 100 < c.un) := by omega
    clear hs
    rcases ways with k1 | ⟨k1, k2⟩ | ⟨k1, k2, k3⟩ | ⟨k1, k2, k3, k4⟩ | ⟨k1, k2, k3, k4, k5⟩ | ⟨k1, k2, k3, k4, k5, k6⟩ | ⟨k1, k2, k3, k4, k5, k6, k7⟩
    all_goals
      go_wp2_with fail
      go_ret
      exact ⟨false, no_iff HN.out, rfl, HB.out⟩
end Go.Proofs.Ytgkahcchekiogaa.Short

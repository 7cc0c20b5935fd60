/- Walks of package slack: Left, Finish. -/
import Derived.Test.YtaoghiijgcdbgaaSlkB
namespace Go.Proofs.Ytaoghiijgcdbgaa.SlkC
open Go.RowKit Go.Shelf Base Kit WideA Alt RefA SlkA SlkB
set_option linter.unusedVariables false
set_option linter.unusedSimpArgs false
attribute [local go_sem] Oper.semAt_some

theorem running_in (F : Fence) (d : Nat) (hf : F.fn 32) (hro : F.round = none) (p : Option Addr) (w : World) :
    CallsIn F d Try.prog 32 #[.pointer p] w fun e w' => e = .returned (.func (.func 43) #[] #[.pointer (some ⟨w.heap.size, 0, none⟩)]) ∧ w' = w.alloc (.cells #[.pointer p] 32) := by
  refine callsIn_of_wp Try.func32 rfl hf ?_ hro
  simp only [Try.ntmps32, List.size_toArray, List.length_cons, List.length_nil, Nat.reduceAdd, Nat.reduceSub, Array.replicate_succ, Array.replicate_zero, List.push_toArray, List.append_toArray, List.nil_append, List.cons_append]
  gi_wp2
  go_ret
  exact ⟨rfl, rfl⟩
theorem running_stops (F : Fence) (d : Nat) (hf : F.fn 43) (hro : F.round = none) (hd : 1 ≤ d) (Bs n₀ s n : Nat) (v : Value) (a : Nat → Nat) (x : SS) (ok : SOk n x) (w : World) (hBs : Bs < w.heap.size) (hn₀ : n₀ ≤ w.heap.size)
    (hc : w.cell? ⟨Bs, 0, none⟩ = some (.pointer (some ⟨s, 0, none⟩))) (hS : Hid (Sk w s n v a x)) (hb : Hid (∀ i, (i = s ∨ v.ownBlock = some i ∨ ∃ k, k < n ∧ i = a k) → i < n₀)) :
    SeqStopsK F d Try.prog 43 #[.pointer (some ⟨Bs, 0, none⟩)] (fun z : Val => #[Value.int .i64 z.1]) (Below n₀) (fun ys => ys = runL x n) (fun _ => True) n w := fun l J Jx W hW _ _ hY h0 => by
  have hc' := (hW.cell (p := ⟨Bs, 0, none⟩) hBs).trans hc
  exact run1_in F d hf hro hd l Bs n₀ s n v a x ok J Jx hY W hc' (sk_next hS (hW.mono (Nat.le_refl _))) hb h0

set_option maxRecDepth 100000 in
set_option maxHeartbeats 2000000 in
theorem left_any {w : World} {s n : Nat} {v : Value} {a : Nat → Nat} {x : SS} (h : Hid (Sk w s n v a x)) (ok : SOk n x) (r : Int) (hr : Hid (leftS n x = r)) :
    Calls Try.prog 13 #[.pointer (some ⟨s, 0, none⟩)] w fun e W' => e = .returned (.int .i64 r) ∧ Below w.heap.size w W' := by
  have hbd : Hid (∀ i, (i = s ∨ v.ownBlock = some i ∨ ∃ k, k < n ∧ i = a k) → i < w.heap.size) := Lib.hid (fun i hi => by
    rcases hi with rfl | hi | ⟨k, hk, rfl⟩
    · exact h.out.box.lt
    · exact (World.ownsRow.lt h.out.own i hi).2
    · exact (h.out.acc k hk).lt)
  refine (callsIn_wide (n := 3)).1 ?_
  have bc := h.out.box.cell
  have HOK := Lib.hid ok
  clear ok
  refine callsIn_of_wp_marks Try.func13 rfl trivial ?_ rfl
  simp only [Try.ntmps13, List.size_toArray, List.length_cons, List.length_nil, Nat.reduceAdd, Nat.reduceSub, Array.replicate_succ, Array.replicate_zero, List.push_toArray, List.append_toArray, List.nil_append, List.cons_append]
  gi_wp2_with (first | (refine ⟨trivial, ?_⟩; gi_at_call 32; refine (running_in Fence.wide _ trivial rfl _ _).mono ?_; rintro e w' ⟨rfl, rfl⟩) | (gi_at_call 32; refine (running_in Fence.wide _ trivial rfl _ _).mono ?_; rintro e w' ⟨rfl, rfl⟩))
  have hs := Boxed.new w 3 (.int .i64 0)
  have hb := Boxed.new (w.alloc (.cells #[.int .i64 0] 3)) 32 (.pointer (some ⟨s, 0, none⟩))
  rw [World.size_alloc] at hb
  have hB0 : Below w.heap.size w ((w.alloc (.cells #[.int .i64 0] 3)).alloc (.cells #[.pointer (some ⟨s, 0, none⟩)] 32)) := ((Below.refl _ w).alloc (Nat.le_refl _) _).alloc (by simp) _
  have hS2 := sk_next (sk_next h ((Below.refl _ w).alloc (Nat.le_refl _) (.cells #[.int .i64 0] 3))) ((Below.refl _ _).alloc (Nat.le_refl _) (.cells #[.pointer (some ⟨s, 0, none⟩)] 32))
  have bcK := Lib.hid bc
  clear bc
  refine wpIn_rangeFunc_ownF rfl (by omega) (gf := 43) (lb := #[.pointer (some ⟨w.heap.size + 1, 0, none⟩)]) rfl trivial (enters_of Try.func43 (by kernel_rfl) rfl)
    (running_stops Fence.wide (3 - 1) trivial rfl (by omega) (w.heap.size + 1) w.heap.size s n v a x HOK.out _ (by simp) (by simp; omega) hb.cell hS2 hbd) belowK_t (belowK_b (by simp; omega)) (Below.refl _ _) (fun _ => rfl)
    (fun pre W => (W.cell? ⟨w.heap.size, 0, none⟩ = some (.int .i64 (satL pre)) ∧ W.frozen? ⟨w.heap.size, 0, none⟩ = false) ∧ Below w.heap.size w W)
    (fun _ _ _ => False)
    (OwnFrom.and (Own.from (fun s A B row hs hg hr => ⟨cell_kept hs.1 hg hr, (frozen_kept hs.1 hg hr).trans hs.2⟩) _) (ownFrom_below (Nat.le_refl _) (by simp; omega)))
    (fun _ _ _ _ _ hs _ _ => hs)
    ⟨⟨(hs.alloc _).cell, (hs.alloc _).frozen⟩, hB0⟩
    (fun z => { tmps := #[.pointer (some ⟨s, 0, none⟩), undef, .int .i64 0, .pointer (some ⟨w.heap.size, 0, none⟩), .int .i64 z.1, .pointer (some ⟨s, 0, none⟩), .bool false, .bool false, .pointer (some ⟨s, 0, none⟩), .pointer (some ⟨s, 0, none⟩), .pointer (some ⟨s, 2, none⟩), .bool true, .bool false, .bool false, .pointer (some ⟨s, 0, none⟩), .func (.func 43) #[] #[.pointer (some ⟨w.heap.size + 1, 0, none⟩)], .int .i64 z.1, undef, undef, undef, undef, undef, undef, undef, undef, undef], defers := [] }) ?assign ?body ?done ?stop
  case assign =>
    intro l z W K hK
    gi_wp2
    exact hK
  case body =>
    rintro l pre z W ⟨⟨hc, hf⟩, hB⟩ _
    have hd : 1 ≤ 3 - 1 - 1 := by omega
    obtain ⟨b0, b1⟩ := satL_bd pre
    gi_wp2_with (refine ⟨trivial, ?_⟩; gi_at_call 30; refine (CallsIn.inRound l (callsIn_wide.2 (sat_any _ _ _ (by omega) b1 (by have := z.2.1; omega) z.2.2))).mono ?_; rintro e w' ⟨rfl, rfl⟩)
    exact ⟨KeepsOthers.setCell _ _ _, (Below.refl w.heap.size W).setCell (p := ⟨w.heap.size, 0, none⟩) (Nat.le_refl _) _, ⟨by rw [satL_snoc]; exact World.cell?_setCell_same' _ _ _ (by rw [hc]; rfl), by rw [World.frozen?_setCell]; exact hf⟩, hB.setCell (p := ⟨w.heap.size, 0, none⟩) (Nat.le_refl _) _⟩
  case done =>
    rintro D ys W hD rfl ⟨⟨hc, _⟩, hB⟩ hK
    have bs : ∀ i, W.cell? ⟨s, i, none⟩ = (#[.int .i64 x.room, v, .bool true] : Array Value)[i]? := fun i => (hB.cell (p := ⟨s, i, none⟩) (hbd.out s (.inl rfl))).trans (bcK.out i)
    have bs0 : W.cell? ⟨s, 0, none⟩ = some (.int .i64 x.room) := bs 0
    clear bs
    gi_wp2
    gi_region
    all_goals
      gi_wp2
    all_goals
      have hK' : W.drew.heap[D]? = some (Obj.deferred (some [])) := hK
      refine ⟨by simp, .inl ⟨_, _, rfl, run_takeDeferred hK', ?_⟩⟩
      refine ⟨_, results_tmp rfl _ _ _, ?_, hB.drew.trans (belowK_b (w := w) (Nat.le_refl _) W.drew D _ _ (by simp at hD; omega) hK' rfl rfl)⟩
      have e := hr.out
      unfold leftS at e
      rw [← satL_run x n HOK.out.h0] at e
      exact Kit.ret_int (by rw [← e]; split <;> omega)
  case stop =>
    rintro D c pre W _ _ h _
    exact h.elim

theorem leftS_bd {n : Nat} {x : SS} (ok : SOk n x) : 0 ≤ leftS n x ∧ leftS n x ≤ x.room ∧ leftS n x ≤ 9223372036854775807 := by
  have h1 := sumR_nonneg x n (fun i hi => (ok.h0 i hi).1)
  have := ok.r0; have := ok.r1
  unfold leftS top1
  (repeat' split) <;> omega
def finS (n : Nat) (x : SS) (p : Int) : SS := if 0 ≤ p ∧ p < (n : Int) then ⟨x.room, x.has, updB x.dn p.toNat true⟩ else x
theorem fin_ok {n : Nat} {x : SS} (ok : SOk n x) (p : Int) : SOk n (finS n x p) := by
  unfold finS; split
  · exact ⟨ok.hn, ok.r0, ok.r1, ok.h0⟩
  · exact ok
set_option maxRecDepth 100000 in
set_option maxHeartbeats 1000000 in
theorem finish_any {w : World} {s n : Nat} {v : Value} {a : Nat → Nat} {x : SS} (h : Hid (Sk w s n v a x)) (ok : SOk n x) (p r : Int) (hr : Hid (leftS n x - leftS n (finS n x p) = r)) :
    Calls Try.prog 14 #[.pointer (some ⟨s, 0, none⟩), .int .i64 p] w fun e w' => e = .returned (.int .i64 r) ∧ Alt (In s n a) w w' ∧ Hid (Sk w' s n v a (finS n x p)) := by
  have hn := ok.hn
  by_cases hp : 0 ≤ p ∧ p < (n : Int)
  · have ef : finS n x p = ⟨x.room, x.has, updB x.dn p.toNat true⟩ := by unfold finS; rw [if_pos hp]
    obtain ⟨l1, e1⟩ : ∃ l, leftS n x = l := ⟨_, rfl⟩
    obtain ⟨l2, e2⟩ : ∃ l, leftS n (finS n x p) = l := ⟨_, rfl⟩
    have b1 := leftS_bd ok
    have ok2 := fin_ok ok p
    have b2 := leftS_bd ok2
    have hr := hr.out
    rw [e1] at b1
    rw [e2] at b2
    rw [e1, e2] at hr
    obtain ⟨b10, -, b11⟩ := b1
    obtain ⟨b20, -, b21⟩ := b2
    rw [ef] at e2 ok2 ⊢
    obtain ⟨k, rfl⟩ := Int.eq_ofNat_of_zero_le hp.1
    have hk : k < n := by omega
    rw [Int.toNat_natCast] at e2 ok2 ⊢
    subst hr
    have C1 := Lib.hid (find_any h hn k _ (Lib.hid (fnd_in hk)))
    have C2 := Lib.hid (left_any h ok l1 (Lib.hid e1))
    have E2 := Lib.hid e2
    clear hp e1 e2 ef
    go_enter Try.func14, Try.ntmps14
    go_wp2_with fail
    refine C1.out.mono ?_
    rintro e w1 ⟨rfl, rfl⟩
    go_wp2_with fail
    refine C2.out.mono ?_
    rintro e w2 ⟨rfl, hb2⟩
    have H2 := sk_next h hb2
    have A2 := Lib.hid (Alt.of_below (S := In s n a) hb2)
    have HS := sk_set (j := 1) (u := .bool true) (h' := x.has k) (d' := true) H2 hk rfl
    have H3 := sk_congr (y := ⟨x.room, x.has, updB x.dn k true⟩) HS rfl (fun i hi => (by show updI x.has k (x.has k) i = x.has i; unfold updI; split; rename_i e; rw [e]; rfl)) (fun i hi => rfl)
    have bc := (H2.out.acc k hk).cell
    have bf := (H2.out.acc k hk).frozen
    clear hb2 HS
    go_wp2_with fail
    refine (left_any H3 ok2 l2 E2).mono ?_
    rintro e w3 ⟨rfl, hb3⟩
    have H4 := sk_next H3 hb3
    have A4 := Lib.hid ((A2.out.trans (Alt.set w2 ⟨a k, 1, none⟩ (.bool true) (.inr ⟨k, hk, rfl⟩))).trans (Alt.of_below hb3))
    clear hb3
    go_wp2_with fail
    go_ret
    exact ⟨rfl, A4.out, H4⟩
  · have ef : finS n x p = x := by unfold finS; rw [if_neg hp]
    rw [ef] at hr ⊢
    have hr := hr.out
    rw [Int.sub_self] at hr
    subst hr
    have C1 := Lib.hid (find_any h hn p _ (Lib.hid (fnd_out hp)))
    clear hp
    go_enter Try.func14, Try.ntmps14
    go_wp2_with fail
    refine C1.out.mono ?_
    rintro e w1 ⟨rfl, rfl⟩
    go_wp2_with fail
    go_ret
    exact ⟨rfl, Alt.refl _ _, h⟩
end Go.Proofs.Ytaoghiijgcdbgaa.SlkC

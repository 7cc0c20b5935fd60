/- Package agenda: places (slices.All). -/
import Derived.Test.YtlafeijkpnpdeaaAgk
namespace Go.Proofs.Ytlafeijkpnpdeaa.Agm
open Go.RowKit Go.Shelf Base Kit Alt Held Agp Aga Agb Agc Agd Age Agf Agg Agh Agi Agk
set_option linter.unusedVariables false
set_option linter.unusedSimpArgs false
attribute [local go_sem] Oper.semAt_some
theorem fin_snoc {n k : Nat} (h : k < n) : (List.finRange n).take (k + 1) = (List.finRange n).take k ++ [⟨k, h⟩] := by
  rw [List.take_succ_eq_append_getElem (by simpa using h)]
  simp
theorem fin_full {n : Nat} : (List.finRange n).take n = List.finRange n := List.take_of_length_le (by simp)
theorem fin_take {n k : Nat} (h : k ≤ n) : ((List.finRange n).take k).length = k := by simp; omega
/-- an entry that is yielded, with its place -/
def encA (L : List E) (i : Fin L.length) : Array Value := #[.int .i64 ((i.1 : Nat) : Int), .agg #[.int .i64 (at_ L i.1).1, .int .i64 (at_ L i.1).2.1, .int .i64 (at_ L i.1).2.2]]
set_option maxRecDepth 100000 in
set_option maxHeartbeats 4000000 in
theorem all1_in (d : Nat) (hd : 1 ≤ d) (l Bc n₀ cap : Nat) (a : Option Addr) (L : List E) (J Jx : List (Fin L.length) → World → Prop) (W : World)
    (hBc : Bc < n₀) (hc : W.cell? ⟨Bc, 0, none⟩ = some (.slice a L.length cap)) (hl : L.length ≤ 1000)
    (hE : Hid (∀ i, i < L.length → ∃ g, a = some ⟨g, 0, none⟩ ∧ g < n₀ ∧ EC W g i (at_ L i).1 (at_ L i).2.1 (at_ L i).2.2))
    (hn : n₀ ≤ W.heap.size)
    (HJ : Hid (∀ pre W1 W2, J pre W1 → Below W1.heap.size W1 W2 → J pre W2))
    (hY : Hid (∀ pre z W, J pre W → pre.length < L.length → YieldAt Fence.wide (d - 1) Try.prog l (encA L z) W fun e W' =>
      (e = .returned (.bool true) ∧ J (pre ++ [z]) W' ∧ Below n₀ W W') ∨ (e = .returned (.bool false) ∧ Jx (pre ++ [z]) W')))
    (h0 : J [] W) :
    CallsIn Fence.wide d Try.prog 38 #[.func (.yield l) #[] #[], .pointer (some ⟨Bc, 0, none⟩)] W fun r W' => (∃ v, r = .returned v) ∧
      ((∃ ys, ys = List.finRange L.length ∧ J ys W') ∨ (∃ pre, True ∧ Jx pre W')) := by
  obtain ⟨n, hnn⟩ : ∃ n, L.length = n := ⟨_, rfl⟩
  have HN := Lib.hid hnn
  rw [hnn] at hc hl
  clear hnn
  refine callsIn_of_wp Try.func38 rfl trivial ?_ rfl
  simp only [Try.ntmps38, List.size_toArray, List.length_cons, List.length_nil, Nat.reduceAdd, Nat.reduceSub, Array.replicate_succ, Array.replicate_zero, List.push_toArray, List.append_toArray, List.nil_append, List.cons_append]
  gi_wp2
  gi_loopw [7] (fun i wr => ∃ k : Nat, k ≤ n ∧ i = .int .i64 k ∧ J ((List.finRange L.length).take k) wr ∧ Hid (Below n₀ W wr)) (fun i _ => n - (intOf i).toNat)
  case atStart => exact ⟨0, Nat.zero_le _, rfl, h0, Lib.hid (Below.refl _ _)⟩
  case round =>
    clear h0 hc
    obtain ⟨k, hk, rfl, hJ, K⟩ := hrel
    by_cases hkn : k < n
    · have hkl : k < L.length := by rw [HN.out]; exact hkn
      obtain ⟨g, ea, hg, c0, c1, c2⟩ := hE.out k hkl
      subst ea
      have c0 := (K.out.cell (p := ⟨g, k * 3, none⟩) hg).trans c0
      have c1 := (K.out.cell (p := ⟨g, k * 3 + 1, none⟩) hg).trans c1
      have c2 := (K.out.cell (p := ⟨g, k * 3 + 2, none⟩) hg).trans c2
      have Y := Lib.hid (fun W' hj => hY.out ((List.finRange L.length).take k) ⟨k, hkl⟩ W' hj (by rw [fin_take (by omega)]; exact hkl))
      unfold encA at Y
      dsimp only at Y
      obtain ⟨⟨x0, x1, x2⟩, hx⟩ : ∃ x, at_ L k = x := ⟨_, rfl⟩
      rw [hx] at Y c0 c1 c2
      dsimp only at Y c0 c1 c2
      have J2 := HJ.out _ _ _ hJ ((Below.refl wr.heap.size wr).alloc (Nat.le_refl _) (.cells #[.int .i64 x0, .int .i64 x1, .int .i64 x2] 33))
      have K2 := Lib.hid (K.out.alloc (by have := K.out.size; omega) (.cells #[.int .i64 x0, .int .i64 x1, .int .i64 x2] 33))
      obtain ⟨fn, tmps, assign, body, hy, hR⟩ := Y.out _ J2
      have FS := Lib.hid (fin_snoc hkl)
      clear hx hJ K Y
      gi_wp2
      refine hR.mono ?_
      rintro e W3 (⟨rfl, hJ3, hk3⟩ | ⟨rfl, hJx3⟩)
      · rw [← FS.out] at hJ3
        gi_wp2
        go_roundw
        case rel => exact ⟨k + 1, by omega, by simp, hJ3, Lib.hid (K2.out.trans hk3)⟩
        case measure => simp [intOf]; omega
      · gi_wp2
        refine bodyPost_ret (results_none rfl _ _ _) rfl ?_
        exact ⟨⟨_, rfl⟩, .inr ⟨_, trivial, hJx3⟩⟩
    · obtain rfl : k = n := by omega
      have e : (List.finRange L.length).take k = List.finRange L.length := by rw [← HN.out]; exact fin_full
      rw [e] at hJ
      gi_wp2
      refine bodyPost_end (results_none rfl _ _ _) rfl ?_
      exact ⟨⟨_, rfl⟩, .inl ⟨_, rfl, hJ⟩⟩
theorem All_sl (a : Option Addr) (n cap : Nat) (w : World) : Calls Try.prog 31 #[.slice a n cap] w fun e w' => e = .returned (.func (.func 38) #[] #[.pointer (some ⟨w.heap.size, 0, none⟩)]) ∧ w' = w.alloc (.cells #[.slice a n cap] 29) := by
  go_enter Try.func31, Try.ntmps31
  go_wp2_with fail
  go_ret
  exact ⟨rfl, rfl⟩
theorem places_any (ab : Nat) (a : Option Addr) (n cap : Nat) (w : World) (h : w.cell? ⟨ab, 0, none⟩ = some (.slice a n cap)) : Calls Try.prog 25 #[.pointer (some ⟨ab, 0, none⟩)] w fun e w' => e = .returned (.func (.func 38) #[] #[.pointer (some ⟨w.heap.size, 0, none⟩)]) ∧ w' = w.alloc (.cells #[.slice a n cap] 29) := by
  go_enter Try.func25, Try.ntmps25
  go_wp2_with fail
  refine (All_sl a n cap w).mono ?_
  rintro e w1 ⟨rfl, rfl⟩
  go_wp2_with fail
  go_ret
  exact ⟨rfl, rfl⟩
theorem all_stops (d : Nat) (hd : 1 ≤ d) (Bc n₀ cap ab : Nat) (a : Option Addr) (L : List E) (last most : Int) (w : World) (hBc : Bc < n₀) (hc : w.cell? ⟨Bc, 0, none⟩ = some (.slice a L.length cap)) (h : Hid (Ag w ab (.slice a L.length cap) L last most)) (hn : n₀ = w.heap.size) :
    SeqStopsK Fence.wide d Try.prog 38 #[.pointer (some ⟨Bc, 0, none⟩)] (encA L) (Below n₀) (fun ys => ys = List.finRange L.length) (fun _ => True) L.length w := fun l J Jx W hW hA _ hY h0 => by
  have hs := hW.size
  refine all1_in d hd l Bc n₀ cap a L J Jx W hBc ((hW.cell (p := ⟨Bc, 0, none⟩) (show Bc < w.heap.size by omega)).trans hc) h.out.len (Lib.hid (fun i hi => ?_)) (by omega)
    (Lib.hid (fun pre W1 W2 hj hbel => hA pre W1 W2 none hj (grown_below hbel none) (fun r e => by cases e))) (Lib.hid hY) h0
  obtain ⟨g, cap2, hv, hlt, _⟩ := ent_at h (by omega)
  simp only [Value.slice.injEq] at hv
  obtain ⟨rfl, -, rfl⟩ := hv
  obtain ⟨c0, c1, c2⟩ := ent_cells h i hi (Lib.hid rfl)
  exact ⟨g, rfl, by omega, (hW.cell (p := ⟨g, i * 3, none⟩) hlt).trans c0, (hW.cell (p := ⟨g, i * 3 + 1, none⟩) hlt).trans c1, (hW.cell (p := ⟨g, i * 3 + 2, none⟩) hlt).trans c2⟩
end Go.Proofs.Ytlafeijkpnpdeaa.Agm

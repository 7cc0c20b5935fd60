import Derived.RangeFuncNested
import Derived.RangeFuncBound
import Derived.RangeFuncCalls
import Derived.RangeFuncLeaves
import Derived.RangeFuncFrom
import Derived.RangeFuncBox
import Derived.Shelf.Abstract
import Derived.Shelf.RegionOpen
import Derived.WalkKit
import Derived.OwnWalkIn
import Derived.TacticsInMore
import Derived.LoopNIn
import Derived.LoopIn
import Derived.RegionIn
import Derived.Stop.RegionWithIn
import Derived.Test.YtlafeijkpnpdeaaGreatMg12
import Derived.Test.YtlafeijkpnpdeaaGreatMg27
import Derived.Test.YtlafeijkpnpdeaaGreatMg25
import Derived.Test.YtlafeijkpnpdeaaGreatMg10

/- Package slots: all windows, one by one. -/
namespace Go.Proofs.YtlafeijkpnpdeaaGreat.Sog
open Go.RowKit Go.Shelf Base Kit WideA WideB Plain Conf Conf2 PowA PowB Vfa Vfb Val Vld Vpa Vpb Vpr Vsh Short Vcf Vch Vci Vnu Vmo Vck Vrp Vl4 FitA FitB FitC NapG Soa Sob Soc Sod Soe Sof Alt LvlF HeldI
set_option linter.unusedVariables false
set_option linter.unusedSimpArgs false
attribute [local go_sem] Oper.semAt_some wide_fn
/-- a window's row -/
def rv (c : ConfC) (z : Nat × Nat) : List Value := [.int .i64 (z.1 : Int), .int .i64 (z.2 : Int), .int .i64 ((c.m z.1).wf z.2 0), .int .i64 (lowP c ((c.m z.1).wf z.2 0) ((c.m z.1).wf z.2 2)), .int .i64 (spareP c ((c.m z.1).wf z.2 0) ((c.m z.1).wf z.2 2)), .int .i64 (gapP (c.m z.1) z.2), .int .i64 (BestR c.w 0 (gapP (c.m z.1) z.2))]
def wins (i k : Nat) : List (Nat × Nat) := (List.range k).map fun j => (i, j)
theorem wins_succ (i k : Nat) : wins i (k + 1) = wins i k ++ [(i, k)] := by unfold wins; rw [List.range_succ, List.map_append]; rfl
theorem wins_len (i k : Nat) : (wins i k).length = k := by simp [wins]
def prs (c : ConfC) : Nat → List (Nat × Nat)
  | 0 => []
  | i + 1 => prs c i ++ wins i (c.m i).wn
theorem prs_mono (c : ConfC) : ∀ {i n : Nat}, i ≤ n → (prs c i).length ≤ (prs c n).length
  | i, 0, h => by obtain rfl : i = 0 := by omega
                  exact Nat.le_refl _
  | i, n + 1, h => by
    by_cases e : i = n + 1
    · rw [e]; exact Nat.le_refl _
    · have := prs_mono c (i := i) (n := n) (by omega)
      rw [prs, List.length_append]; omega
theorem prs_lt (c : ConfC) {i k n : Nat} (hi : i < n) (hk : k < (c.m i).wn) : (prs c i ++ wins i k).length < (prs c n).length := by
  have := prs_mono c (i := i + 1) (n := n) (by omega)
  rw [prs, List.length_append, wins_len] at this
  rw [List.length_append, wins_len]; omega
theorem prs_bd {c : ConfC} (h : ∀ i, i < c.mn → (c.m i).wn ≤ 100) : ∀ i, i ≤ c.mn → (prs c i).length ≤ i * 100
  | 0, _ => by simp [prs]
  | i + 1, hi => by
    have h1 := prs_bd h i (by omega)
    have h2 := h i (by omega)
    rw [prs, List.length_append, wins_len]; omega

/-- cells of types that are not rows lie as they lay -/
structure Tk (W W' : World) : Prop where
  keep : ∀ (k : Nat) (vs : Array Value) (T : TypeId) (fz : Nat × Nat), W.heap[k]? = some (Obj.cells vs T fz) → T ≠ 41 → T ≠ 36 → W'.heap[k]? = W.heap[k]?
theorem Tk.trans {A B C : World} (h : Tk A B) (k : Tk B C) : Tk A C := ⟨fun i vs T fz e n1 n2 => (k.keep i vs T fz ((h.keep i vs T fz e n1 n2).trans e) n1 n2).trans (h.keep i vs T fz e n1 n2)⟩
theorem Tk.refl (W : World) : Tk W W := ⟨fun _ _ _ _ _ _ _ => rfl⟩
theorem lt_of_heap {W : World} {k : Nat} {o : Obj} (h : W.heap[k]? = some o) : k < W.heap.size := (Array.getElem?_eq_some_iff.1 h).1
theorem Tk.of_below {W W' : World} (h : Below W.heap.size W W') : Tk W W' := ⟨fun k _ _ _ e _ _ => h.block k (lt_of_heap e)⟩
theorem box_tk {W W' : World} {b : Nat} {vs : Array Value} {T : TypeId} (h : Box W b vs T) (k : Tk W W') (h1 : T ≠ 41) (h2 : T ≠ 36) : Box W' b vs T := by
  unfold Box at *
  rw [k.keep b vs T _ h h1 h2]; exact h
/-- what a body that collects rows keeps -/
def Kp (n₀ ob : Nat) (W W' : World) : Prop := Alt (AX n₀ ob) W W' ∧ Tk W W'
theorem kp_trans {n₀ ob : Nat} {A B C : World} (h : Kp n₀ ob A B) (k : Kp n₀ ob B C) : Kp n₀ ob A C := ⟨h.1.trans k.1, h.2.trans k.2⟩
theorem kp_below {n₀ ob : Nat} {W W' : World} (h : Below W.heap.size W W') : Kp n₀ ob W W' := ⟨Alt.of_below h, Tk.of_below h⟩
theorem kp_put {n₀ ob : Nat} {w : World} (hn : n₀ ≤ w.heap.size) (W : World) (l : Nat) (o o' : Obj) (hl : w.heap.size ≤ l) (h : W.heap[l]? = some o) (h1 : o.isCells = false) (h2 : o.isWalk = false) : Kp n₀ ob W (W.putObj l o') :=
  ⟨ax_put hn W l o o' hl h h1 h2, ⟨fun k vs T fz e _ _ => by
    have hne : k ≠ l := fun e2 => by subst e2; rw [h] at e; cases e; simp [Obj.isCells] at h1
    exact (grownBy_putObj' W l o').block k (lt_of_heap e) (fun e3 => hne (by cases e3; rfl))⟩⟩

/-- where the iterator's variables lie -/
structure Pos (B0 n₀ ob Bc : Nat) (W : World) : Prop where
  h0 : B0 ≤ n₀
  h1 : B0 ≤ ob
  h2 : n₀ ≤ W.heap.size
  h3 : Bc < n₀
  h4 : Bc ≠ ob
theorem kp_box {B0 n₀ ob Bc : Nat} {W W' : World} {vs : Array Value} {T : TypeId} (p : Pos B0 n₀ ob Bc W) (h : Box W Bc vs T) (k : Kp n₀ ob W W') : Box W' Bc vs T :=
  box_alt h k.1 (fun e => by have := p.h3; have := p.h4; rcases e with e | e <;> omega)
theorem kp_b0 {B0 n₀ ob Bc : Nat} {W W' : World} (p : Pos B0 n₀ ob Bc W) (k : Kp n₀ ob W W') : Below B0 W W' :=
  Alt.below (Below.refl B0 W) k.1 (Nat.le_trans p.h0 p.h2) (fun i h => by have := p.h0; have := p.h1; rcases h with h | h <;> omega)
set_option maxRecDepth 100000 in
set_option maxHeartbeats 8000000 in
theorem rows1_in (d : Nat) (hd : 1 ≤ d) (l Bc n₀ ob B0 : Nat) (c : ConfC) (J Jx : List (Nat × Nat) → World → Prop) (W : World)
    (ok : Hid (∀ W', Below B0 W W' → c.Ok W')) (P : Hid (Pos B0 n₀ ob Bc W)) (hcap : c.w.ln ≤ c.w.lc ∧ c.w.lc ≤ 9223372036854775807) (hv : Hid ((CheckR c).1 = 0)) (sh : Hid (Sh c))
    (hx : Hid (Box W Bc #[.slice c.pa c.pn c.pc, .slice c.ca c.cn c.cc, .slice c.ma c.mn c.mc, .slice c.w.la c.w.ln c.w.lc, .slice c.w.na c.w.nn c.w.nc, .int .i64 c.w.sw, .int .i64 c.w.id, .int .i64 c.w.ch, .int .i64 c.w.qu, .int .i64 c.w.sl, .int .i64 c.w.pp, .slice c.da c.dn c.dc, .slice c.ua c.un c.uc] 33))
    (HJ : Hid (∀ pre W1 W2, J pre W1 → Below W1.heap.size W1 W2 → W.heap.size ≤ W1.heap.size → J pre W2))
    (hY : Hid (∀ pre z W, J pre W → pre.length < (prs c c.mn).length → YieldAt Fence.wide (d - 1) Tryz.prog l #[.agg (rv c z).toArray] W fun e W' =>
      (e = .returned (.bool true) ∧ J (pre ++ [z]) W' ∧ Kp n₀ ob W W') ∨ (e = .returned (.bool false) ∧ Jx (pre ++ [z]) W')))
    (h0 : J [] W) :
    CallsIn Fence.wide d Tryz.prog 32 #[.func (.yield l) #[] #[], .pointer (some ⟨Bc, 0, none⟩)] W fun r W' => (∃ v, r = .returned v) ∧
      ((∃ ys, ys = prs c c.mn ∧ J ys W') ∨ (∃ pre, True ∧ Jx pre W')) := by
  have OK0 := ok.out W (Below.refl _ _)
  have hmn := OK0.modes.out.1
  have x1 := hx.out.cell
  obtain ⟨ma, hma⟩ : ∃ x, c.ma = x := ⟨_, rfl⟩
  rw [hma] at x1
  have HMA := Lib.hid hma
  clear OK0 hma
  refine callsIn_of_wp Tryz.func32 rfl trivial ?_ rfl
  simp only [Tryz.ntmps32, List.size_toArray, List.length_cons, List.length_nil, Nat.reduceAdd, Nat.reduceSub, Array.replicate_succ, Array.replicate_zero, List.push_toArray, List.append_toArray, List.nil_append, List.cons_append]
  gi_wp2
  clear x1
  gi_loopw [11] (fun i wr => ∃ k : Nat, k ≤ c.mn ∧ i = .int .i64 k ∧ J (prs c k) wr ∧ Hid (Kp n₀ ob W wr)) (fun i _ => c.mn - (intOf i).toNat)
  case atStart => exact ⟨0, Nat.zero_le _, rfl, h0, Lib.hid ⟨Alt.refl _ _, Tk.refl _⟩⟩
  case round =>
    obtain ⟨i, hi, rfl, hJ, K⟩ := hrel
    by_cases hl : i < c.mn
    · have okr := ok.out wr (kp_b0 P.out K.out)
      obtain ⟨b, off, ea, hlt, g0, g1⟩ := mode_cells okr i hl
      rw [HMA.out] at ea
      subst ea
      have x1 : ∀ j, wr.cell? ⟨Bc, j, none⟩ = (#[.slice c.pa c.pn c.pc, .slice c.ca c.cn c.cc, .slice (some ⟨b, off, none⟩) c.mn c.mc, .slice c.w.la c.w.ln c.w.lc, .slice c.w.na c.w.nn c.w.nc, .int .i64 c.w.sw, .int .i64 c.w.id, .int .i64 c.w.ch, .int .i64 c.w.qu, .int .i64 c.w.sl, .int .i64 c.w.pp, .slice c.da c.dn c.dc, .slice c.ua c.un c.uc] : Array Value)[j]? := fun j => ((kp_box P.out hx.out K.out).cell j).trans (by rw [HMA.out])
      obtain ⟨m, hm⟩ : ∃ m, c.m i = m := ⟨_, rfl⟩
      rw [hm] at g0 g1
      obtain ⟨wa, hwa⟩ : ∃ x, m.wa = x := ⟨_, rfl⟩
      rw [hwa] at g1
      have HWA := Lib.hid hwa
      have HM := Lib.hid hm
      have MB := mb_of hv.out sh.out i hl
      have G := (check_good hv.out).mode i hl
      have WB := Lib.hid (fun j (hj : j < (c.m i).wn) => win_bd G.1 G.2.1 hj)
      rw [hm] at MB WB
      clear hm G hwa
      have hwn := MB.wn
      have K1 := Lib.hid (kp_trans K.out (kp_below (n₀ := n₀) (ob := ob) ((Below.refl wr.heap.size wr).alloc (Nat.le_refl _) (.cells #[.int .i64 m.fr, .slice wa m.wn m.wc] 52))))
      have J1 := HJ.out _ _ _ hJ ((Below.refl wr.heap.size wr).alloc (Nat.le_refl _) (.cells #[.int .i64 m.fr, .slice wa m.wn m.wc] 52)) K.out.1.size
      have BM := Lib.hid (Box.new wr #[.int .i64 m.fr, .slice wa m.wn m.wc] 52)
      gi_wp2
      generalize wr.alloc (.cells #[.int .i64 m.fr, .slice wa m.wn m.wc] 52) = W1 at *
      generalize wr.heap.size = mb at *
      clear x1 g0 g1 hJ K okr
      gi_loopw [19] (fun x wr' => ∃ q : Nat, q ≤ m.wn ∧ x = .int .i64 q ∧ J (prs c i ++ wins i q) wr' ∧ Hid (Kp n₀ ob W wr') ∧ Hid (Box wr' mb #[.int .i64 m.fr, .slice wa m.wn m.wc] 52)) (fun x _ => m.wn - (intOf x).toNat)
      case atStart => exact ⟨0, Nat.zero_le _, rfl, by simpa [wins] using J1, K1, BM⟩
      case round =>
        clear J1 K1 BM W1
        obtain ⟨q, hq, rfl, hJ, K, BM⟩ := hrel
        by_cases hlq : q < m.wn
        · have okr := ok.out wr (kp_b0 P.out K.out)
          have mok := okr.mode i hl
          rw [HM.out] at mok
          obtain ⟨d1, o1, ew, hlt1, q0, q1, q2, i0, i1, i2⟩ := rows_at3 mok.win q hlq
          obtain ⟨p0, p1, -, s0, s1, l0, l1⟩ := WB.out q hlq
          have HLT := prs_lt c (i := i) (k := q) hl (by rw [HM.out]; exact hlq)
          have ew := ew
          rw [HWA.out] at ew
          subst ew
          obtain ⟨y0, e0⟩ : ∃ y, m.wf q 0 = y := ⟨_, rfl⟩
          obtain ⟨y1, e1⟩ : ∃ y, m.wf q 1 = y := ⟨_, rfl⟩
          obtain ⟨y2, e2⟩ : ∃ y, m.wf q 2 = y := ⟨_, rfl⟩
          rw [e0] at q0 p0 p1
          rw [e1] at q1
          rw [e2] at q2 l0 l1
          obtain ⟨lw, elw⟩ : ∃ y, lowP c y0 y2 = y := ⟨_, rfl⟩
          obtain ⟨sr, esr⟩ : ∃ y, spareP c y0 y2 = y := ⟨_, rfl⟩
          obtain ⟨gp, egp⟩ : ∃ y, gapP m q = y := ⟨_, rfl⟩
          obtain ⟨bs, ebs⟩ : ∃ y, BestR c.w 0 gp = y := ⟨_, rfl⟩
          have RV : rv c (i, q) = [.int .i64 (i : Int), .int .i64 (q : Int), .int .i64 y0, .int .i64 lw, .int .i64 sr, .int .i64 gp, .int .i64 bs] := by
            unfold rv; simp only [HM.out, e0, e2, elw, esr, egp, ebs]
          have Y := Lib.hid (fun W' hj => hY.out (prs c i ++ wins i q) (i, q) W' hj HLT)
          rw [RV] at Y
          have SZ := K.out.1.size
          have KB := Lib.hid (fun w' (h : Below wr.heap.size wr w') => kp_trans K.out (kp_below h))
          have OKB := Lib.hid (fun w' (h : Below wr.heap.size wr w') => ok.out w' (kp_b0 P.out (KB.out w' h)))
          have CG := Lib.hid (fun w' (h : Below wr.heap.size wr w') => gap_any m q gp w' (by have := (OKB.out w' h).mode i hl; rw [HM.out] at this; exact this) MB hlq (Lib.hid egp))
          have CL := Lib.hid (fun w' (h : Below wr.heap.size wr w') => lowest_any c y0 y1 y2 lw w' (OKB.out w' h) hcap p0 p1 (Lib.hid elw))
          have CS := Lib.hid (fun w' (h : Below wr.heap.size wr w') => spare_any c y0 y1 y2 sr w' (OKB.out w' h) p0 p1 (by omega) l1 (Lib.hid esr))
          have CB := Lib.hid (fun w' (h : Below wr.heap.size wr w') => Best_any c.w 0 gp w' (OKB.out w' h).pow sh.out.1.2.2.2.2.1 bs (Lib.hid ebs))
          have BXC := Lib.hid (fun w' (h : Below wr.heap.size wr w') => kp_box P.out hx.out (KB.out w' h))
          have ew := HWA.out
          rw [ew] at CG
          have D1 := Lib.hid ((Below.refl wr.heap.size wr).alloc (Nat.le_refl _) (.cells #[.int .i64 y0, .int .i64 y1, .int .i64 y2] 54))
          have BW := Lib.hid (Box.new wr #[.int .i64 y0, .int .i64 y1, .int .i64 y2] 54)
          have bm := BM.out.cell
          have bml := BM.out.lt
          clear e0 e1 e2 elw esr egp ebs RV okr mok HLT ew i0 i1 i2 s0 s1 l0 l1 p0 p1
          gi_wp2_with ((first | gi_at_call 26 | (refine ⟨trivial, ?_⟩; gi_at_call 26)); refine (callsIn_wide.2 (CG.out _ D1.out)).mono ?_; rintro e1 w2 ⟨rfl, k2⟩)
          have D2 := Lib.hid (below_next D1.out k2)
          have BW := Lib.hid (BW.out.next k2)
          clear D1 k2 bm bml q0 q1 q2
          generalize wr.heap.size = wb at BW ⊢
          gi_wp2
          have D2 := below_drew D2
          have BW := Lib.hid BW.out.drew
          refine wpIn_region_till (fun w' => True ∧ True) (fun w' => (∀ j, w'.cell? ⟨Bc, j, none⟩ = (#[.slice c.pa c.pn c.pc, .slice c.ca c.cn c.cc, .slice c.ma c.mn c.mc, .slice c.w.la c.w.ln c.w.lc, .slice c.w.na c.w.nn c.w.nc, .int .i64 c.w.sw, .int .i64 c.w.id, .int .i64 c.w.ch, .int .i64 c.w.qu, .int .i64 c.w.sl, .int .i64 c.w.pp, .slice c.da c.dn c.dc, .slice c.ua c.un c.uc] : Array Value)[j]?) ∧ ∀ j, w'.cell? ⟨wb, j, none⟩ = (#[.int .i64 y0, .int .i64 y1, .int .i64 y2] : Array Value)[j]?) 17 19 #[false, false, false, false, false, false, false, false, false, false, false, false, false, false, false, false, false, false, false] (by kernel_rfl) rfl rfl ⟨⟨trivial, trivial⟩, (BXC.out _ D2.out).cell, BW.out.cell⟩ (fun hHeld => ?_)
          refine HeldI.wpTillIn_take true (i := 0) (v := ?_) rfl rfl (by kernel_rfl) (by kernel_rfl) (by kernel_rfl) (fun _ _ _ h => h) (by kernel_rfl) (Or.inl ⟨by first | rfl | kernel_rfl, ?_⟩) (fun _ => rfl) hHeld (fun hHeld => ?_)
          rotate_left
          · (intro w' hSw; obtain ⟨⟨r1, r2⟩, r3⟩ := hSw; (try have r4 := r3 rfl); (try dsimp only at r1 r2 r4); clear r3; go_simp; try with_reducible rfl)
          try simp only [Act.put, List.setIfInBounds_toArray, List.set_cons_zero, List.set_cons_succ, List.getElem_toArray, List.getElem_cons_succ, List.getElem_cons_zero]
          refine HeldI.wpTillIn_take true (i := 1) (v := ?_) rfl rfl (by kernel_rfl) (by kernel_rfl) (by kernel_rfl) (fun _ _ _ h => h) (by kernel_rfl) (Or.inl ⟨by first | rfl | kernel_rfl, ?_⟩) (fun _ => rfl) hHeld (fun hHeld => ?_)
          rotate_left
          · (intro w' hSw; obtain ⟨⟨r1, r2⟩, r3⟩ := hSw; (try have r4 := r3 rfl); (try dsimp only at r1 r2 r4); clear r3; go_simp; try with_reducible rfl)
          try simp only [Act.put, List.setIfInBounds_toArray, List.set_cons_zero, List.set_cons_succ, List.getElem_toArray, List.getElem_cons_succ, List.getElem_cons_zero]
          refine HeldI.wpTillIn_take true (i := 2) (v := ?_) rfl rfl (by kernel_rfl) (by kernel_rfl) (by kernel_rfl) (fun _ _ _ h => h) (by kernel_rfl) (Or.inl ⟨by first | rfl | kernel_rfl, ?_⟩) (fun _ => rfl) hHeld (fun hHeld => ?_)
          rotate_left
          · (intro w' hSw; obtain ⟨⟨r1, r2⟩, r3⟩ := hSw; (try have r4 := r3 rfl); (try dsimp only at r1 r2 r4); clear r3; go_simp; try with_reducible rfl)
          try simp only [Act.put, List.setIfInBounds_toArray, List.set_cons_zero, List.set_cons_succ, List.getElem_toArray, List.getElem_cons_succ, List.getElem_cons_zero]
          refine HeldI.wpTillIn_take true (i := 3) (v := ?_) rfl rfl (by kernel_rfl) (by kernel_rfl) (by kernel_rfl) (fun _ _ _ h => h) (by kernel_rfl) (Or.inl ⟨by first | rfl | kernel_rfl, ?_⟩) (fun _ => rfl) hHeld (fun hHeld => ?_)
          rotate_left
          · (intro w' hSw; obtain ⟨⟨r1, r2⟩, r3⟩ := hSw; (try have r4 := r3 rfl); (try dsimp only at r1 r2 r4); clear r3; go_simp; try with_reducible rfl)
          try simp only [Act.put, List.setIfInBounds_toArray, List.set_cons_zero, List.set_cons_succ, List.getElem_toArray, List.getElem_cons_succ, List.getElem_cons_zero]
          refine HeldI.wpTillIn_take true (i := 4) (v := ?_) rfl rfl (by kernel_rfl) (by kernel_rfl) (by kernel_rfl) (fun _ _ _ h => h) (by kernel_rfl) (Or.inl ⟨by first | rfl | kernel_rfl, ?_⟩) (fun _ => rfl) hHeld (fun hHeld => ?_)
          rotate_left
          · (intro w' hSw; obtain ⟨⟨r1, r2⟩, r3⟩ := hSw; (try have r4 := r3 rfl); (try dsimp only at r1 r2 r4); clear r3; go_simp; try with_reducible rfl)
          try simp only [Act.put, List.setIfInBounds_toArray, List.set_cons_zero, List.set_cons_succ, List.getElem_toArray, List.getElem_cons_succ, List.getElem_cons_zero]
          refine HeldI.wpTillIn_take true (i := 5) (v := ?_) rfl rfl (by kernel_rfl) (by kernel_rfl) (by kernel_rfl) (fun _ _ _ h => h) (by kernel_rfl) (Or.inl ⟨by first | rfl | kernel_rfl, ?_⟩) (fun _ => rfl) hHeld (fun hHeld => ?_)
          rotate_left
          · (intro w' hSw; obtain ⟨⟨r1, r2⟩, r3⟩ := hSw; (try have r4 := r3 rfl); (try dsimp only at r1 r2 r4); clear r3; go_simp; try with_reducible rfl)
          try simp only [Act.put, List.setIfInBounds_toArray, List.set_cons_zero, List.set_cons_succ, List.getElem_toArray, List.getElem_cons_succ, List.getElem_cons_zero]
          refine HeldI.wpTillIn_take true (i := 6) (v := ?_) rfl rfl (by kernel_rfl) (by kernel_rfl) (by kernel_rfl) (fun _ _ _ h => h) (by kernel_rfl) (Or.inl ⟨by first | rfl | kernel_rfl, ?_⟩) (fun _ => rfl) hHeld (fun hHeld => ?_)
          rotate_left
          · (intro w' hSw; obtain ⟨⟨r1, r2⟩, r3⟩ := hSw; (try have r4 := r3 rfl); (try dsimp only at r1 r2 r4); clear r3; go_simp; try with_reducible rfl)
          try simp only [Act.put, List.setIfInBounds_toArray, List.set_cons_zero, List.set_cons_succ, List.getElem_toArray, List.getElem_cons_succ, List.getElem_cons_zero]
          refine HeldI.wpTillIn_take true (i := 8) (v := ?_) rfl rfl (by kernel_rfl) (by kernel_rfl) (by kernel_rfl) (fun _ _ _ h => h) (by kernel_rfl) (Or.inl ⟨by first | rfl | kernel_rfl, ?_⟩) (fun _ => rfl) hHeld (fun hHeld => ?_)
          rotate_left
          · (intro w' hSw; obtain ⟨⟨r1, r2⟩, r3⟩ := hSw; (try have r4 := r3 rfl); (try dsimp only at r1 r2 r4); clear r3; go_simp; try with_reducible rfl)
          try simp only [Act.put, List.setIfInBounds_toArray, List.set_cons_zero, List.set_cons_succ, List.getElem_toArray, List.getElem_cons_succ, List.getElem_cons_zero]
          refine HeldI.wpTillIn_take true (i := 9) (v := ?_) rfl rfl (by kernel_rfl) (by kernel_rfl) (by kernel_rfl) (fun _ _ _ h => h) (by kernel_rfl) (Or.inl ⟨by first | rfl | kernel_rfl, ?_⟩) (fun _ => rfl) hHeld (fun hHeld => ?_)
          rotate_left
          · (intro w' hSw; obtain ⟨⟨r1, r2⟩, r3⟩ := hSw; (try have r4 := r3 rfl); (try dsimp only at r1 r2 r4); clear r3; go_simp; try with_reducible rfl)
          try simp only [Act.put, List.setIfInBounds_toArray, List.set_cons_zero, List.set_cons_succ, List.getElem_toArray, List.getElem_cons_succ, List.getElem_cons_zero]
          refine HeldI.wpTillIn_take true (i := 11) (v := ?_) rfl rfl (by kernel_rfl) (by kernel_rfl) (by kernel_rfl) (fun _ _ _ h => h) (by kernel_rfl) (Or.inl ⟨by first | rfl | kernel_rfl, ?_⟩) (fun _ => rfl) hHeld (fun hHeld => ?_)
          rotate_left
          · (intro w' hSw; obtain ⟨⟨r1, r2⟩, r3⟩ := hSw; (try have r4 := r3 rfl); (try dsimp only at r1 r2 r4); clear r3; go_simp; try with_reducible rfl)
          try simp only [Act.put, List.setIfInBounds_toArray, List.set_cons_zero, List.set_cons_succ, List.getElem_toArray, List.getElem_cons_succ, List.getElem_cons_zero]
          refine HeldI.wpTillIn_take true (i := 12) (v := ?_) rfl rfl (by kernel_rfl) (by kernel_rfl) (by kernel_rfl) (fun _ _ _ h => h) (by kernel_rfl) (Or.inl ⟨by first | rfl | kernel_rfl, ?_⟩) (fun _ => rfl) hHeld (fun hHeld => ?_)
          rotate_left
          · (intro w' hSw; obtain ⟨⟨r1, r2⟩, r3⟩ := hSw; (try have r4 := r3 rfl); (try dsimp only at r1 r2 r4); clear r3; go_simp; try with_reducible rfl)
          try simp only [Act.put, List.setIfInBounds_toArray, List.set_cons_zero, List.set_cons_succ, List.getElem_toArray, List.getElem_cons_succ, List.getElem_cons_zero]
          refine HeldI.wpTillIn_take true (i := 13) (v := ?_) rfl rfl (by kernel_rfl) (by kernel_rfl) (by kernel_rfl) (fun _ _ _ h => h) (by kernel_rfl) (Or.inl ⟨by first | rfl | kernel_rfl, ?_⟩) (fun _ => rfl) hHeld (fun hHeld => ?_)
          rotate_left
          · (intro w' hSw; obtain ⟨⟨r1, r2⟩, r3⟩ := hSw; (try have r4 := r3 rfl); (try dsimp only at r1 r2 r4); clear r3; go_simp; try with_reducible rfl)
          try simp only [Act.put, List.setIfInBounds_toArray, List.set_cons_zero, List.set_cons_succ, List.getElem_toArray, List.getElem_cons_succ, List.getElem_cons_zero]
          refine HeldI.wpTillIn_take true (i := 14) (v := ?_) rfl rfl (by kernel_rfl) (by kernel_rfl) (by kernel_rfl) (fun _ _ _ h => h) (by kernel_rfl) (Or.inl ⟨by first | rfl | kernel_rfl, ?_⟩) (fun _ => rfl) hHeld (fun hHeld => ?_)
          rotate_left
          · (intro w' hSw; obtain ⟨⟨r1, r2⟩, r3⟩ := hSw; (try have r4 := r3 rfl); (try dsimp only at r1 r2 r4); clear r3; go_simp; try with_reducible rfl)
          try simp only [Act.put, List.setIfInBounds_toArray, List.set_cons_zero, List.set_cons_succ, List.getElem_toArray, List.getElem_cons_succ, List.getElem_cons_zero]
          refine wpTillIn_one (i := 7) (by kernel_rfl) rfl (fun K hK => ?_)
          rw [if_pos (by kernel_rfl)]
          go_simp
          first | refine (callsIn_wide.2 (CL.out _ D2.out)).mono ?_ | (refine ⟨trivial, ?_⟩; refine (callsIn_wide.2 (CL.out _ D2.out)).mono ?_)
          rintro e1 w3 ⟨rfl, k3⟩
          have D2 := Lib.hid (below_next D2.out k3)
          have BW := Lib.hid (BW.out.next k3)
          refine hK _ _ ⟨⟨trivial, trivial⟩, fun _ => ⟨(BXC.out _ D2.out).cell, BW.out.cell⟩⟩ (fun hHeld => ?_)
          clear hK K k3
          refine wpTillIn_one (i := 10) (by kernel_rfl) rfl (fun K hK => ?_)
          rw [if_pos (by kernel_rfl)]
          go_simp
          first | refine (callsIn_wide.2 (CS.out _ D2.out)).mono ?_ | (refine ⟨trivial, ?_⟩; refine (callsIn_wide.2 (CS.out _ D2.out)).mono ?_)
          rintro e1 w3 ⟨rfl, k3⟩
          have D2 := Lib.hid (below_next D2.out k3)
          have BW := Lib.hid (BW.out.next k3)
          refine hK _ _ ⟨⟨trivial, trivial⟩, fun _ => ⟨(BXC.out _ D2.out).cell, BW.out.cell⟩⟩ (fun hHeld => ?_)
          clear hK K k3
          refine wpTillIn_one (i := 15) (by kernel_rfl) rfl (fun K hK => ?_)
          rw [if_pos (by kernel_rfl)]
          go_simp
          first | refine (callsIn_wide.2 (CB.out _ D2.out)).mono ?_ | (refine ⟨trivial, ?_⟩; refine (callsIn_wide.2 (CB.out _ D2.out)).mono ?_)
          rintro e1 w3 ⟨rfl, k3⟩
          have D2 := Lib.hid (below_next D2.out k3)
          have BW := Lib.hid (BW.out.next k3)
          refine hK _ _ ⟨⟨trivial, trivial⟩, fun _ => ⟨(BXC.out _ D2.out).cell, BW.out.cell⟩⟩ (fun hHeld => ?_)
          clear hK K k3
          refine HeldI.wpTillIn_take true (i := 16) (v := ?_) rfl rfl (by kernel_rfl) (by kernel_rfl) (by kernel_rfl) (fun _ _ _ h => h) (by kernel_rfl) (Or.inl ⟨by first | rfl | kernel_rfl, ?_⟩) (fun _ => rfl) hHeld (fun hHeld => ?_)
          rotate_left
          · (intro w' hSw; obtain ⟨⟨r1, r2⟩, r3⟩ := hSw; (try have r4 := r3 rfl); (try dsimp only at r1 r2 r4); clear r3; go_simp; try with_reducible rfl)
          try simp only [Act.put, List.setIfInBounds_toArray, List.set_cons_zero, List.set_cons_succ, List.getElem_toArray, List.getElem_cons_succ, List.getElem_cons_zero]
          refine wpTillIn_one (i := 17) (by kernel_rfl) rfl (fun K hK => ?_)
          rw [if_pos (by kernel_rfl)]
          obtain ⟨fn, tmps, assign, body, hy, hR⟩ := Y.out _ (HJ.out _ _ _ hJ D2.out SZ)
          go_simp
          refine hR.mono ?_
          rintro r1 W3 h3
          obtain ⟨bb, rfl, hb3⟩ := yield_b h3
          refine hK _ _ ⟨⟨trivial, trivial⟩, fun h => (by cases h)⟩ (fun hHeld => ?_)
          clear hK K
          refine HeldI.wpTillIn_take false (i := 18) (v := ?_) rfl rfl (by kernel_rfl) (by kernel_rfl) (by kernel_rfl) (fun _ _ _ h => h) (by kernel_rfl) (Or.inl ⟨by first | rfl | kernel_rfl, ?_⟩) (fun _ => rfl) hHeld (fun hHeld => ?_)
          rotate_left
          · (intro w' hSw; obtain ⟨⟨r1, r2⟩, r3⟩ := hSw; (try have r4 := r3 rfl); (try dsimp only at r1 r2 r4); clear r3; go_simp; try with_reducible rfl)
          try simp only [Act.put, List.setIfInBounds_toArray, List.set_cons_zero, List.set_cons_succ, List.getElem_toArray, List.getElem_cons_succ, List.getElem_cons_zero]
          refine wpTillIn_done (by kernel_rfl) ?_ 0
          clear hHeld
          rcases hb3 with ⟨rfl, hJ3, hk3⟩ | ⟨rfl, hJx3⟩
          · have K3 := Lib.hid (kp_trans (KB.out _ D2.out) hk3)
            have BM3 := Lib.hid (box_tk (BM.out.next D2.out) hk3.2 (by decide) (by decide))
            gi_wp2
            go_roundw
            case rel => exact ⟨q + 1, by omega, by simp, by rw [wins_succ, ← List.append_assoc]; exact hJ3, K3, BM3⟩
            case measure => simp [intOf]; omega
          · gi_wp2
            refine bodyPost_ret (results_none rfl _ _ _) rfl ?_
            exact ⟨⟨_, rfl⟩, .inr ⟨_, hJx3⟩⟩
        · obtain rfl : q = m.wn := by omega
          gi_wp2
          go_roundw
          case rel => exact ⟨i + 1, by omega, by simp, by rw [prs, HM.out]; exact hJ, K⟩
          case measure => simp [intOf]; omega
    · obtain rfl : i = c.mn := by omega
      gi_wp2
      go_end0
      exact ⟨⟨_, rfl⟩, .inl ⟨_, rfl, hJ⟩⟩
end Go.Proofs.YtlafeijkpnpdeaaGreat.Sog

import Derived.Test.YtlafeijkpnpdeaaGreatMg31
import Derived.Test.YtlafeijkpnpdeaaGreatMg23

/- The reference of slots: Find; the rows' cells. -/
namespace Go.Proofs.YtlafeijkpnpdeaaGreat.Sok
open Go.RowKit Base Kit RefA WideA WideB RefC Plain Conf Conf2 PowA PowB Vfa Vfb Val Vld Vpa Vpb Vpr Vsh Short Vcf Vch Vci Vnu Vmo Vck Vrp Vl4 FitA FitB FitC NapG Soa Sob Soc Sod Soe Sof Alt Cls Sog Soh Soi Soj
set_option linter.unusedVariables false
set_option linter.unusedSimpArgs false
theorem enc_at (c : ConfC) : ∀ (L : List (Nat × Nat)) (i j : Nat) (hi : i < L.length), j < 7 → (encR c L)[i * 7 + j]? = (rv c L[i])[j]?
  | [], i, j, hi, _ => by simp at hi
  | z :: L, 0, j, hi, hj => by
    simp only [encR, List.flatMap_cons, List.getElem_cons_zero, Nat.zero_mul, Nat.zero_add]
    exact List.getElem?_append_left (by simp [rv]; omega)
  | z :: L, i + 1, j, hi, hj => by
    have ih := enc_at c L i j (by simpa using hi) hj
    simp only [encR, List.flatMap_cons, List.getElem_cons_succ] at ih ⊢
    rw [List.getElem?_append_right (by simp [rv]; omega), ← ih]
    congr 1
    simp [rv]; omega
theorem mem_prs {c : ConfC} : ∀ {n : Nat} {z : Nat × Nat}, z ∈ prs c n ↔ z.1 < n ∧ z.2 < (c.m z.1).wn
  | 0, z => by simp [prs]
  | n + 1, z => by
    have ih := mem_prs (c := c) (n := n) (z := z)
    simp only [prs, List.mem_append, ih, wins, List.mem_map, List.mem_range]
    constructor
    · rintro (h | ⟨a, h, rfl⟩)
      · omega
      · exact ⟨by simp, h⟩
    · rintro ⟨h1, h2⟩
      by_cases e : z.1 = n
      · exact .inr ⟨z.2, by rw [← e]; exact h2, by rw [← e]⟩
      · exact .inl ⟨by omega, h2⟩
/-- the cells of a row, in the walk's spelling -/
theorem row_at {w : World} {B : Nat} {T : TypeId} {v : Value} {c : ConfC} {L : List (Nat × Nat)} (h : w.ownsRow B T 7 v L.length (encR c L)) (i : Nat) (hi : i < L.length) : ∃ g cap, v = .slice (some ⟨g, 0, none⟩) L.length cap ∧ g < w.heap.size ∧
    ∀ x0 x1 x2 x3 x4 x5 x6 : Int, rv c L[i] = [.int .i64 x0, .int .i64 x1, .int .i64 x2, .int .i64 x3, .int .i64 x4, .int .i64 x5, .int .i64 x6] →
    w.cell? ⟨g, i * 7, none⟩ = some (.int .i64 x0) ∧ w.cell? ⟨g, i * 7 + 1, none⟩ = some (.int .i64 x1) ∧ w.cell? ⟨g, i * 7 + 2, none⟩ = some (.int .i64 x2) ∧
    w.cell? ⟨g, i * 7 + 3, none⟩ = some (.int .i64 x3) ∧ w.cell? ⟨g, i * 7 + 4, none⟩ = some (.int .i64 x4) ∧
    w.cell? ⟨g, i * 7 + 5, none⟩ = some (.int .i64 x5) ∧ w.cell? ⟨g, i * 7 + 6, none⟩ = some (.int .i64 x6) := by
  obtain ⟨g, cap, rfl, _, hlt⟩ := own_form h (fun e => by
    have h1 := h.2
    rw [e] at h1
    rcases h1 with ⟨_, h2⟩ | ⟨g, cap, cur, hv, _⟩
    · omega
    · simp at hv)
  have q : ∀ j, j < 7 → w.cell? ⟨g, i * 7 + j, none⟩ = (rv c L[i])[j]? := fun j hj => by
    rw [World.ownsRow.cellAt h (i * 7 + j) (by have := Nat.mul_le_mul_right 7 (show i + 1 ≤ L.length by omega); omega)]
    exact enc_at c L i j hi hj
  refine ⟨g, cap, rfl, hlt, fun x0 x1 x2 x3 x4 x5 x6 e => ?_⟩
  rw [e] at q
  exact ⟨q 0 (by omega), q 1 (by omega), q 2 (by omega), q 3 (by omega), q 4 (by omega), q 5 (by omega), q 6 (by omega)⟩
theorem rv_form (c : ConfC) (z : Nat × Nat) : ∃ x2 x3 x4 x5 x6 : Int, rv c z = [.int .i64 z.1, .int .i64 z.2, .int .i64 x2, .int .i64 x3, .int .i64 x4, .int .i64 x5, .int .i64 x6] := ⟨_, _, _, _, _, rfl⟩
theorem own_val {w : World} {B : Nat} {T : TypeId} {v : Value} {n : Nat} {xs : List Value} (h : w.ownsRow B T 7 v n xs) : ∃ a cap, v = .slice a n cap := by
  rcases h.2 with ⟨h', h0⟩ | ⟨g', cap', cur, hv, hg, hh, r⟩
  · exact ⟨none, 0, by rw [h', h0]⟩
  · exact ⟨_, _, hv⟩
theorem mem_rows {c : ConfC} {z : Nat × Nat} : z ∈ rowsL c ↔ (CheckR c).1 = 0 ∧ z.1 < c.mn ∧ z.2 < (c.m z.1).wn := by
  unfold rowsL
  split
  · rename_i h; rw [mem_prs]; simp [h]
  · rename_i h; simp [h]
theorem isW_iff {c : ConfC} {mode k : Int} : isW c mode k = true ↔ 0 ≤ mode ∧ 0 ≤ k ∧ (mode.toNat, k.toNat) ∈ rowsL c := by
  rw [mem_rows]
  constructor
  · intro h
    have d := wd_of h
    exact ⟨d.m0, d.k0, d.ok, by have := d.m0; have := d.m1; simp only; omega, by have := d.k0; have := d.k1; simp only; omega⟩
  · rintro ⟨h1, h2, h3, h4, h5⟩
    simp only at h4 h5
    have hf : isF c mode = true := isF_iff.2 ⟨h3, h1, by omega⟩
    unfold isW fm
    rw [hf, if_pos rfl]
    simp only [Bool.true_and, Bool.and_eq_true, decide_eq_true_eq]
    omega
/-- the world of Find -/
structure Fw (w0 w : World) (c : ConfC) (v : Value) (B rb : Nat) : Prop where
  S : Hid (Cs w0 w w0.heap.size c)
  own : w.ownsRow B 42 7 v (rowsL c).length (encR c (rowsL c))
  box : Box w rb #[.int .i64 0, .int .i64 0, .int .i64 0, .int .i64 0, .int .i64 0, .int .i64 0, .int .i64 0] 42
  hrb : w0.heap.size ≤ rb
set_option maxRecDepth 100000 in
set_option maxHeartbeats 2000000 in
theorem Findr_any (c : ConfC) (mode k : Int) (r : Bool) (x0 x1 x2 x3 x4 x5 x6 : Int) (w : World) (ok : c.Ok w) (sh : Sh c) (hr : Hid (isW c mode k = r)) (hx : Hid ((if r = true then rv c (mode.toNat, k.toNat) else [.int .i64 0, .int .i64 0, .int .i64 0, .int .i64 0, .int .i64 0, .int .i64 0, .int .i64 0]) = [.int .i64 x0, .int .i64 x1, .int .i64 x2, .int .i64 x3, .int .i64 x4, .int .i64 x5, .int .i64 x6])) :
    Calls Tryz.prog 11 #[.agg #[.slice c.pa c.pn c.pc, .slice c.ca c.cn c.cc, .slice c.ma c.mn c.mc, .slice c.w.la c.w.ln c.w.lc, .slice c.w.na c.w.nn c.w.nc, .int .i64 c.w.sw, .int .i64 c.w.id, .int .i64 c.w.ch, .int .i64 c.w.qu, .int .i64 c.w.sl, .int .i64 c.w.pp, .slice c.da c.dn c.dc, .slice c.ua c.un c.uc], .int .i64 mode, .int .i64 k] w fun e w' => e = .returned (.tuple #[.agg #[.int .i64 x0, .int .i64 x1, .int .i64 x2, .int .i64 x3, .int .i64 x4, .int .i64 x5, .int .i64 x6], .bool r]) ∧ Below w.heap.size w w' := by
  have OK := Lib.hid (fun w' (h : Below w.heap.size w w') => ok.below h (Nat.le_refl _))
  have CR := Lib.hid (fun w' (h : c.Ok w') => Rowsr_any c w' h sh)
  have LB : (rowsL c).length ≤ 10000 := by
    unfold rowsL
    split
    · have := prs_bd (c := c) sh.2.2 c.mn (Nat.le_refl _); have := sh.1.2.2.1; omega
    · simp
  have S : Hid (Cs w ((w.alloc (.cells #[.slice c.pa c.pn c.pc, .slice c.ca c.cn c.cc, .slice c.ma c.mn c.mc, .slice c.w.la c.w.ln c.w.lc, .slice c.w.na c.w.nn c.w.nc, .int .i64 c.w.sw, .int .i64 c.w.id, .int .i64 c.w.ch, .int .i64 c.w.qu, .int .i64 c.w.sl, .int .i64 c.w.pp, .slice c.da c.dn c.dc, .slice c.ua c.un c.uc] 33)).alloc (.cells #[.int .i64 0, .int .i64 0, .int .i64 0, .int .i64 0, .int .i64 0, .int .i64 0, .int .i64 0] 42)) w.heap.size c) := cs_alloc (cs_in w c) _
  have BM := Box.new (w.alloc (.cells #[.slice c.pa c.pn c.pc, .slice c.ca c.cn c.cc, .slice c.ma c.mn c.mc, .slice c.w.la c.w.ln c.w.lc, .slice c.w.na c.w.nn c.w.nc, .int .i64 c.w.sw, .int .i64 c.w.id, .int .i64 c.w.ch, .int .i64 c.w.qu, .int .i64 c.w.sl, .int .i64 c.w.pp, .slice c.da c.dn c.dc, .slice c.ua c.un c.uc] 33)) #[.int .i64 0, .int .i64 0, .int .i64 0, .int .i64 0, .int .i64 0, .int .i64 0, .int .i64 0] 42
  rw [World.size_alloc] at BM
  replace BM := Lib.hid BM
  have bc := S.out.box.cell
  clear ok sh
  go_enter Tryz.func11, Tryz.ntmps11
  go_wp2_with fail
  generalize (w.alloc (.cells #[.slice c.pa c.pn c.pc, .slice c.ca c.cn c.cc, .slice c.ma c.mn c.mc, .slice c.w.la c.w.ln c.w.lc, .slice c.w.na c.w.nn c.w.nc, .int .i64 c.w.sw, .int .i64 c.w.id, .int .i64 c.w.ch, .int .i64 c.w.qu, .int .i64 c.w.sl, .int .i64 c.w.pp, .slice c.da c.dn c.dc, .slice c.ua c.un c.uc] 33)).alloc (.cells #[.int .i64 0, .int .i64 0, .int .i64 0, .int .i64 0, .int .i64 0, .int .i64 0, .int .i64 0] 42) = W at *
  refine (CR.out _ (OK.out _ S.out.bel)).mono ?_
  rintro e1 w5 ⟨v, rfl, own, k5⟩
  have F : Hid (Fw w w5 c v W.heap.size (w.heap.size + 1)) := Lib.hid ⟨cs_next S k5, own, BM.out.next k5, by omega⟩
  clear S BM bc k5 own CR OK
  obtain ⟨va, vc, rfl⟩ := own_val F.out.own
  obtain ⟨n, hn⟩ : ∃ n, (rowsL c).length = n := ⟨_, rfl⟩
  have HN := Lib.hid hn
  rw [hn] at LB F ⊢
  clear hn
  go_wp2_with fail
  go_loopw [9] (fun i wr => ∃ q : Nat, q ≤ n ∧ i = .int .i64 q ∧ Hid (∀ j (hj : j < (rowsL c).length), j < q → ((rowsL c)[j].1 : Int) = mode → ((rowsL c)[j].2 : Int) = k → False) ∧ Hid (Fw w wr c (.slice va n vc) W.heap.size (w.heap.size + 1))) (fun i _ => n - (intOf i).toNat)
  case atStart => exact ⟨0, by omega, rfl, Lib.hid (fun j _ hj => by omega), F⟩
  case round =>
    clear F
    obtain ⟨q, hq, rfl, NF, F⟩ := hrel
    have bm := F.out.box.cell
    have bf := F.out.box.frozen
    have BE := Lib.hid F.out.S.out.bel
    by_cases hl : q < n
    · obtain ⟨g, cap, e1, hlt, qq⟩ := row_at F.out.own q (by rw [HN.out]; exact hl)
      simp only [Value.slice.injEq] at e1
      obtain ⟨rfl, -, rfl⟩ := e1
      obtain ⟨a2, a3, a4, a5, a6, e⟩ := rv_form c ((rowsL c)[q]'(by rw [HN.out]; exact hl))
      obtain ⟨q0, q1, q2, q3, q4, q5, q6⟩ := qq _ _ _ _ _ _ _ e
      clear qq
      have hqm : (rowsL c)[q]'(by rw [HN.out]; exact hl) ∈ rowsL c := List.getElem_mem _
      have NF2 := Lib.hid (fun (h1 : ¬ (((rowsL c)[q]'(by rw [HN.out]; exact hl)).1 : Int) = mode ∨ ¬ (((rowsL c)[q]'(by rw [HN.out]; exact hl)).2 : Int) = k) => (show ∀ j (hj : j < (rowsL c).length), j < q + 1 → ((rowsL c)[j].1 : Int) = mode → ((rowsL c)[j].2 : Int) = k → False from fun j hj hjq z1 z2 => by
        by_cases ej : j = q
        · subst ej; rcases h1 with h1 | h1
          · exact h1 z1
          · exact h1 z2
        · exact NF.out j hj (by omega) z1 z2))
      generalize (rowsL c)[q]'(by rw [HN.out]; exact hl) = z at *
      obtain ⟨z0, z1⟩ := z
      dsimp only at *
      have HE := Lib.hid e
      clear e
      obtain ⟨a0, h0⟩ : ∃ a : Int, (z0 : Int) = a := ⟨_, rfl⟩
      obtain ⟨a1, h1⟩ : ∃ a : Int, (z1 : Int) = a := ⟨_, rfl⟩
      rw [h0] at q0 NF2 HE
      rw [h1] at q1 NF2 HE
      have H01 := Lib.hid (And.intro h0 h1)
      clear h0 h1
      by_cases c0 : a0 = mode
      · by_cases c1 : a1 = k
        · subst c0 c1
          have er : r = true := by
            rw [← hr.out, isW_iff]
            obtain ⟨h0, h1⟩ := H01.out
            exact ⟨by omega, by omega, by rw [← h0, ← h1]; simpa using hqm⟩
          subst er
          have hx := hx.out
          rw [if_pos rfl, show (a0.toNat, a1.toNat) = (z0, z1) by obtain ⟨h0, h1⟩ := H01.out; rw [← h0, ← h1]; simp, HE.out] at hx
          simp only [List.cons.injEq, Value.int.injEq, true_and, and_true] at hx
          obtain ⟨rfl, rfl, rfl, rfl, rfl, rfl, rfl⟩ := hx
          clear NF2 NF hqm
          go_wp2_with fail
          refine bodyPost_ret (v := .tuple #[.agg #[.int .i64 a0, .int .i64 a1, .int .i64 a2, .int .i64 a3, .int .i64 a4, .int .i64 a5, .int .i64 a6], .bool true]) ?_ rfl ⟨rfl, ?_⟩
          · simp [results, Tryz.results11, go_sem, bm]
          · have := F.out.hrb
            iterate 7 (refine Below.setCell ?_ (by simp) _)
            exact BE.out
        · have NF := Lib.hid (NF2.out (.inr c1))
          clear NF2 hqm
          go_wp2_with fail
          go_roundw
          case rel => exact ⟨q + 1, by omega, by go_num, NF, F⟩
          case measure => simp [intOf]; omega
      · have NF := Lib.hid (NF2.out (.inl c0))
        clear NF2 hqm
        go_wp2_with fail
        go_roundw
        case rel => exact ⟨q + 1, by omega, by go_num, NF, F⟩
        case measure => simp [intOf]; omega
    · obtain rfl : q = n := by omega
      have er : r = false := by
        rw [← hr.out, ← Bool.not_eq_true, isW_iff]
        rintro ⟨h0, h1, h2⟩
        obtain ⟨j, hj, ej⟩ := List.getElem_of_mem h2
        exact NF.out j hj (by rw [← HN.out]; exact hj) (by rw [ej]; simp; omega) (by rw [ej]; simp; omega)
      subst er
      have hx := hx.out
      rw [if_neg (by decide)] at hx
      simp only [List.cons.injEq, Value.int.injEq, true_and, and_true] at hx
      obtain ⟨rfl, rfl, rfl, rfl, rfl, rfl, rfl⟩ := hx
      go_wp2_with fail
      refine bodyPost_ret (v := .tuple #[.agg #[.int .i64 0, .int .i64 0, .int .i64 0, .int .i64 0, .int .i64 0, .int .i64 0, .int .i64 0], .bool false]) ?_ rfl ⟨rfl, ?_⟩
      · simp [results, Tryz.results11, go_sem, bm]
      · have := F.out.hrb
        iterate 7 (refine Below.setCell ?_ (by simp) _)
        exact BE.out
end Go.Proofs.YtlafeijkpnpdeaaGreat.Sok

/- The laws of slots: works. -/
namespace Go.Proofs.YtlafeijkpnpdeaaGreat.Sow
open Go.RowKit Base Kit RefA WideA WideB RefC Plain Conf Conf2 PowA PowB Vfa Vfb Val Vld Vpa Vpb Vpr Vsh Short Vcf Vch Vci Vnu Vmo Vck Vrp Vl4 FitA FitB FitC NapG Soa Sob Soc Sod Soe Sof Alt Cls Sog Soh Soi Soj Sok Vpl
set_option linter.unusedVariables false
set_option linter.unusedSimpArgs false
theorem pl_rows (n : Nat) : rowsL (plC n) = [(0, 0)] := by kernel_rfl
theorem pl_low (n : Nat) : lowP (plC n) 0 5000 = 0 := by kernel_rfl
theorem pl_spare (n : Nat) : spareP (plC n) 0 5000 = 3000 := by kernel_rfl
theorem pl_gap (n : Nat) : gapP (plM n) 0 = 4000 := by kernel_rfl
theorem pl_w1 (n : Nat) : isW (plC n) 0 0 = true := by kernel_rfl
theorem pl_w2 (n : Nat) : isW (plC n) 0 1 = false := by kernel_rfl
theorem pl_rv (n : Nat) : ∃ b : Int, rv (plC n) (0, 0) = [.int .i64 0, .int .i64 0, .int .i64 0, .int .i64 0, .int .i64 3000, .int .i64 4000, .int .i64 b] := ⟨BestR (plC n).w 0 4000, by kernel_rfl⟩
theorem pl_sh (n : Nat) : Sh (plC n) := by
  refine ⟨⟨Nat.le_of_ble_eq_true rfl, Nat.le_of_ble_eq_true rfl, Nat.le_of_ble_eq_true rfl, Nat.le_of_ble_eq_true rfl, Nat.le_of_ble_eq_true rfl, Nat.le_of_ble_eq_true rfl, Nat.le_of_ble_eq_true rfl⟩, fun i hi => ?_, fun i hi => ?_⟩
  · obtain rfl : i = 0 := by have : i < 1 := hi; omega
    exact ⟨Nat.le_of_ble_eq_true rfl, Nat.le_of_ble_eq_true rfl, Nat.le_of_ble_eq_true rfl, Nat.le_of_ble_eq_true rfl, Nat.le_of_ble_eq_true rfl, Nat.le_of_ble_eq_true rfl, Nat.le_of_ble_eq_true rfl⟩
  · exact Nat.le_of_ble_eq_true rfl
theorem pl_cap (n : Nat) : (plC n).w.ln ≤ (plC n).w.lc ∧ (plC n).w.lc ≤ 9223372036854775807 := ⟨Nat.le_of_ble_eq_true rfl, Nat.le_of_ble_eq_true (by kernel_rfl)⟩
/-- a configuration's box behind the entry -/
structure Wx (w0 w : World) (c : ConfC) (v : Value) (B cb : Nat) : Prop where
  bel : Below w0.heap.size w0 w
  box : Box w cb #[.slice c.pa c.pn c.pc, .slice c.ca c.cn c.cc, .slice c.ma c.mn c.mc, .slice c.w.la c.w.ln c.w.lc, .slice c.w.na c.w.nn c.w.nc, .int .i64 c.w.sw, .int .i64 c.w.id, .int .i64 c.w.ch, .int .i64 c.w.qu, .int .i64 c.w.sl, .int .i64 c.w.pp, .slice c.da c.dn c.dc, .slice c.ua c.un c.uc] 33
  ok : c.Ok w
  own : w.ownsRow B 41 7 v (rowsL c).length (encR c (rowsL c))
theorem wx_next {w0 w w1 : World} {c : ConfC} {v : Value} {B cb : Nat} (h : Hid (Wx w0 w c v B cb)) (k : Below w.heap.size w w1) : Hid (Wx w0 w1 c v B cb) :=
  Lib.hid ⟨below_next h.out.bel k, h.out.box.next k, h.out.ok.below k (Nat.le_refl _), own_below h.out.own k⟩
set_option maxRecDepth 100000 in
set_option maxHeartbeats 2000000 in
theorem works_any (w : World) : Calls Tryz.prog 8 #[] w fun e w' => e = .returned (.bool true) ∧ Below w.heap.size w w' := by
  go_enter Tryz.func8, Tryz.ntmps8
  go_wp2_with fail
  refine (plain_any _).mono ?_
  rintro e1 w5 ⟨n, c, hc, rfl, ok, k5⟩
  have CR := Lib.hid (fun w' (ok : c.Ok w') => Rows_any c w' ok (by rw [hc]; exact pl_cap n) (by rw [hc]; exact pl_sh n))
  have CG := Lib.hid (fun w' (ok : c.Ok w') => Gap_any c 0 0 true 4000 0 w' ok (by rw [hc]; exact pl_sh n) (Lib.hid (by rw [hc]; exact pl_w1 n)) (Lib.hid (by rw [hc, if_pos rfl]; exact congrArg (fun x => (x, (0 : Int))) (pl_gap n))))
  have CL := Lib.hid (fun w' (ok : c.Ok w') => Lowest_any c 0 1 false (-1) w' ok (by rw [hc]; exact pl_cap n) (Lib.hid (by rw [hc]; exact pl_w2 n)) (Lib.hid (if_neg (by decide))))
  have HL : Hid (rowsL c = [(0, 0)]) := Lib.hid (by rw [hc]; exact pl_rows n)
  obtain ⟨b, hb⟩ : ∃ b : Int, rv c (0, 0) = [.int .i64 0, .int .i64 0, .int .i64 0, .int .i64 0, .int .i64 3000, .int .i64 4000, .int .i64 b] := by rw [hc]; exact pl_rv n
  have HV := Lib.hid hb
  have HB := Lib.hid k5
  have OK := Lib.hid (fun w' (h : Below w5.heap.size w5 w') => ok.below h (Nat.le_refl _))
  clear hc ok hb k5
  have X := Lib.hid (Box.new w5 #[.slice c.pa c.pn c.pc, .slice c.ca c.cn c.cc, .slice c.ma c.mn c.mc, .slice c.w.la c.w.ln c.w.lc, .slice c.w.na c.w.nn c.w.nc, .int .i64 c.w.sw, .int .i64 c.w.id, .int .i64 c.w.ch, .int .i64 c.w.qu, .int .i64 c.w.sl, .int .i64 c.w.pp, .slice c.da c.dn c.dc, .slice c.ua c.un c.uc] 33)
  have H5 := Lib.hid ((Below.refl w5.heap.size w5).alloc (Nat.le_refl _) (.cells #[.slice c.pa c.pn c.pc, .slice c.ca c.cn c.cc, .slice c.ma c.mn c.mc, .slice c.w.la c.w.ln c.w.lc, .slice c.w.na c.w.nn c.w.nc, .int .i64 c.w.sw, .int .i64 c.w.id, .int .i64 c.w.ch, .int .i64 c.w.qu, .int .i64 c.w.sl, .int .i64 c.w.pp, .slice c.da c.dn c.dc, .slice c.ua c.un c.uc] 33))
  have HB := below_hid HB H5.out
  go_wp2_with fail
  refine (CR.out _ (OK.out _ H5.out)).mono ?_
  rintro e1 w6 ⟨v, rfl, own, k6⟩
  have S : Hid (Wx w w6 c v (w5.alloc (.cells #[.slice c.pa c.pn c.pc, .slice c.ca c.cn c.cc, .slice c.ma c.mn c.mc, .slice c.w.la c.w.ln c.w.lc, .slice c.w.na c.w.nn c.w.nc, .int .i64 c.w.sw, .int .i64 c.w.id, .int .i64 c.w.ch, .int .i64 c.w.qu, .int .i64 c.w.sl, .int .i64 c.w.pp, .slice c.da c.dn c.dc, .slice c.ua c.un c.uc] 33)).heap.size w5.heap.size) := Lib.hid ⟨below_next HB.out k6, X.out.next k6, (OK.out _ H5.out).below k6 (Nat.le_refl _), own⟩
  clear X H5 HB OK k6 own CR
  generalize (w5.alloc (.cells #[.slice c.pa c.pn c.pc, .slice c.ca c.cn c.cc, .slice c.ma c.mn c.mc, .slice c.w.la c.w.ln c.w.lc, .slice c.w.na c.w.nn c.w.nc, .int .i64 c.w.sw, .int .i64 c.w.id, .int .i64 c.w.ch, .int .i64 c.w.qu, .int .i64 c.w.sl, .int .i64 c.w.pp, .slice c.da c.dn c.dc, .slice c.ua c.un c.uc] 33)).heap.size = B at *
  generalize w5.heap.size = cb at *
  have bc := S.out.box.cell
  go_wp2_with fail
  refine (CG.out _ S.out.ok).mono ?_
  rintro e1 w7 ⟨rfl, k6⟩
  replace S := wx_next S k6
  clear k6 bc CG
  obtain ⟨g, cap, e1, hlt, qq⟩ := row_at S.out.own 0 (by rw [HL.out]; exact Nat.le_refl _)
  obtain ⟨q0, q1, q2, q3, q4, q5, q6⟩ := qq 0 0 0 0 3000 4000 b (by simp only [HL.out, List.getElem_cons_zero]; exact HV.out)
  rw [HL.out] at e1
  subst e1
  have bc := S.out.box.cell
  go_wp2_with fail
  refine (CL.out _ S.out.ok).mono ?_
  rintro e1 w8 ⟨rfl, k6⟩
  replace S := wx_next S k6
  go_wp2_with fail
  go_ret
  exact ⟨rfl, S.out.bel⟩
end Go.Proofs.YtlafeijkpnpdeaaGreat.Sow

/- Slots: sums over all partitions; enough levels; plain. -/
namespace Go.Proofs.YtlafeijkpnpdeaaGreat.Sop
open Go.RowKit Base Kit RefA WideA WideB RefC Plain Conf Conf2 PowA PowB Vfa Vfb Val Vld Vpa Vpb Vpr Vsh Short Vcf Vch Vci Vnu Vmo Vck Vrp Vl4 FitA FitB FitC NapG Soa Sob Soc Sod Soe Sof Alt Cls Sog Soh Soi Soj Sok Vpl Sow
set_option linter.unusedVariables false
set_option linter.unusedSimpArgs false
def sC (m : ModeC) (n : Nat) : Nat → Nat
  | 0 => 0
  | p + 1 => sC m n p + cntP m (p : Int) n
def sL (m : ModeC) (n : Nat) : Nat → Int
  | 0 => 0
  | p + 1 => sL m n p + lenP m (p : Int) n
theorem sC_succ (m : ModeC) (n : Nat) : ∀ p : Nat, sC m (n + 1) p = sC m n p + if 0 ≤ m.wf n 0 ∧ m.wf n 0 < (p : Int) then 1 else 0
  | 0 => by simp only [sC]; rw [if_neg (by omega)]
  | p + 1 => by
    have ih := sC_succ m n p
    have e : cntP m (p : Int) (n + 1) = if m.wf n 0 = (p : Int) then cntP m (p : Int) n + 1 else cntP m (p : Int) n := rfl
    unfold sC
    rw [ih, e]
    by_cases h : m.wf n 0 = (p : Int)
    · rw [if_pos h, if_neg (by omega), if_pos (by omega)]; omega
    · rw [if_neg h]
      by_cases h2 : 0 ≤ m.wf n 0 ∧ m.wf n 0 < (p : Int)
      · rw [if_pos h2, if_pos (by omega)]; omega
      · rw [if_neg h2, if_neg (by omega)]; omega
theorem sL_succ (m : ModeC) (n : Nat) : ∀ p : Nat, sL m (n + 1) p = sL m n p + if 0 ≤ m.wf n 0 ∧ m.wf n 0 < (p : Int) then m.wf n 2 else 0
  | 0 => by simp only [sL]; rw [if_neg (by omega)]; omega
  | p + 1 => by
    have ih := sL_succ m n p
    have e : lenP m (p : Int) (n + 1) = if m.wf n 0 = (p : Int) then lenP m (p : Int) n + m.wf n 2 else lenP m (p : Int) n := rfl
    unfold sL
    rw [ih, e]
    by_cases h : m.wf n 0 = (p : Int)
    · rw [if_pos h, if_neg (by omega), if_pos (by omega)]; omega
    · rw [if_neg h]
      by_cases h2 : 0 ≤ m.wf n 0 ∧ m.wf n 0 < (p : Int)
      · rw [if_pos h2, if_pos (by omega)]; omega
      · rw [if_neg h2, if_neg (by omega)]; omega
theorem sC_zero (m : ModeC) : ∀ p, sC m 0 p = 0
  | 0 => rfl
  | p + 1 => by unfold sC; rw [sC_zero m p]; rfl
theorem sL_zero (m : ModeC) : ∀ p, sL m 0 p = 0
  | 0 => rfl
  | p + 1 => by unfold sL; rw [sL_zero m p]; rfl
theorem sC_all {m : ModeC} {pn : Nat} : ∀ n, (∀ j, j < n → 0 ≤ m.wf j 0 ∧ m.wf j 0 < (pn : Int)) → sC m n pn = n
  | 0, _ => sC_zero m pn
  | n + 1, h => by rw [sC_succ, sC_all n (fun j hj => h j (by omega)), if_pos (h n (by omega))]
theorem sL_all {m : ModeC} {pn : Nat} : ∀ n, (∀ j, j < n → 0 ≤ m.wf j 0 ∧ m.wf j 0 < (pn : Int)) → sL m n pn = sumL m n
  | 0, _ => sL_zero m pn
  | n + 1, h => by rw [sL_succ, sL_all n (fun j hj => h j (by omega)), if_pos (h n (by omega))]; rfl
theorem sumL_ah {c : ConfC} {m : ModeC} (h : inB m.fr 1 1000000000 = true) : ∀ k, (∀ i, i < k → winP c m i = true) → sumL m k ≤ ahI (fun j => m.wf j 1) k + ahI (fun j => m.wf j 2) k
  | 0, _ => by simp [sumL, sumTo, ahI]
  | k + 1, h1 => by
    have ih := sumL_ah h k (fun i hi => h1 i (by omega))
    have w := h1 k (by omega)
    unfold winP winB at w
    simp only [Bool.and_eq_true, inB_iff] at w
    have e : sumL m (k + 1) = sumL m k + m.wf k 2 := rfl
    rw [e]
    simp only [ahI]
    omega
theorem sC_mono (m : ModeC) (n : Nat) : ∀ {p q : Nat}, p ≤ q → sC m n p ≤ sC m n q := by
  intro p q h
  induction h with
  | refl => exact Nat.le_refl _
  | step h ih => exact Nat.le_trans ih (Nat.le_add_right _ _ : sC m n _ ≤ sC m n _ + cntP m _ n)
/-- what SlotsSums asks of a mode -/
structure Sums (c : ConfC) (m : ModeC) : Prop where
  cnt : sC m m.wn c.pn = m.wn
  all : m.fr - sumL m m.wn + sL m m.wn c.pn = m.fr
  nn : 0 ≤ m.fr - sumL m m.wn
  fr : m.fr ≤ 1000000000
  pn : c.pn ≤ 8
  bd : ∀ p, p ≤ c.pn → sC m m.wn p ≤ m.wn ∧ 0 ≤ sL m m.wn p ∧ sL m m.wn p ≤ p * 100000000000
theorem pn_of {c : ConfC} (h : (CheckR c).1 = 0) : c.pn ≤ 8 := by
  unfold CheckR at h
  split at h
  · rename_i h1; have := inB_iff.1 h1; omega
  · cases h
theorem sums_of {c : ConfC} (h : (CheckR c).1 = 0) (sh : Sh c) {i : Nat} (hi : i < c.mn) : Sums c (c.m i) := by
  have g := (check_good h).mode i hi
  have mb := mb_of h sh i hi
  have hp : ∀ j, j < (c.m i).wn → 0 ≤ (c.m i).wf j 0 ∧ (c.m i).wf j 0 < (c.pn : Int) := fun j hj => by
    have := win_bd g.1 g.2.1 hj; omega
  have hs := sumL_ah g.1 _ g.2.1
  have ha := (win_ah g.1 _ g.2.1).2.2
  have hf := inB_iff.1 g.1
  refine ⟨sC_all _ hp, by rw [sL_all _ hp]; omega, by omega, by omega, pn_of h, fun p hpn => ⟨?_, ?_⟩⟩
  · have := sC_mono (c.m i) (c.m i).wn hpn; rw [sC_all _ hp] at this; exact this
  · clear hpn
    have hw := mb.wn
    induction p with
    | zero => simp [sL]
    | succ p ih =>
      have := len_bd mb (p : Int) _ (Nat.le_refl _)
      unfold sL
      omega
end Go.Proofs.YtlafeijkpnpdeaaGreat.Sop

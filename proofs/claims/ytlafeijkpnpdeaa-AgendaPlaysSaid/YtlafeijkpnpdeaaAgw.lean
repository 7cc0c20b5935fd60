/- The reference of agenda: Due. -/
import Derived.Test.YtlafeijkpnpdeaaAgt
namespace Go.Proofs.Ytlafeijkpnpdeaa.Agw
open Go.RowKit Base Kit RefA Alt Held Agp Aga Agb Agc Agd Age Agf Agg Agh Agi Agj Agn Agt
set_option linter.unusedVariables false
set_option linter.unusedSimpArgs false
theorem due_stop {S : List E} {now : Int} {k : Nat} (h1 : ∀ j, j < k → (at_ S j).1 ≤ now) (hk : k ≤ S.length) (h2 : k < S.length → now < (at_ S k).1) : dueS now S = S.take k ∧ rstS now S = S.drop k := by
  induction S generalizing k with
  | nil => simp at hk; subst hk; exact ⟨rfl, rfl⟩
  | cons s S ih =>
    unfold dueS rstS at *
    cases k with
    | zero =>
      have h3 := h2 (by simp)
      have e : at_ (s :: S) 0 = s := rfl
      rw [e] at h3
      rw [List.takeWhile_cons_of_neg (by simpa using h3), List.dropWhile_cons_of_neg (by simpa using h3)]
      exact ⟨rfl, rfl⟩
    | succ k =>
      have h3 := h1 0 (by omega)
      have e : at_ (s :: S) 0 = s := rfl
      rw [e] at h3
      obtain ⟨a, b⟩ := ih (k := k) (fun j hj => h1 (j + 1) (by omega)) (by simpa using hk) (fun hk2 => h2 (by simpa using hk2))
      rw [List.takeWhile_cons_of_pos (by simpa using h3), List.dropWhile_cons_of_pos (by simpa using h3), a, b]
      exact ⟨rfl, rfl⟩
theorem one_cells : ∀ (M : List E) (u : Value), u ∈ encE M → u.oneCell' = true
  | [], u, hu => by simp [encE] at hu
  | e :: M, u, hu => by
    simp only [encE, List.mem_cons] at hu
    rcases hu with rfl | rfl | rfl | hu
    · rfl
    · rfl
    · rfl
    · exact one_cells M u hu
/-- append of entries that lie anywhere -/
theorem append_src (w : World) {ops : Array Oper} {rest : List Oper} {o : Oper} {a : Act} {Q : Exit → Act → World → Prop} (hgd : o.guard = .none) (s x : Operand) (t : TypeId)
    (ho : o.op = .call { callee := .builtin .append, args := #[s, x], argTypes := #[t, t] }) (e : TypeId) (ht : Try.prog.underlying t = some (.slice e)) (hinfo : (Try.prog.info? e).map (fun i => (i.zero, i.size, i.bytes)) = some (some (.agg #[.int .i64 0, .int .i64 0, .int .i64 0]), 3, 24))
    (base : Nat) (v : Value) (hs : a.eval s = v) (hown : w.ownsRow base e 3 v 0 []) (g off m c : Nat) (M2 : List E) (hx : a.eval x = .slice (some ⟨g, off, none⟩) m c) (hm : M2.length = m) (hc : Hid (∀ j u, (encE M2)[j]? = some u → w.cell? ⟨g, off + j, none⟩ = some u)) (hn2 : M2.length ≤ 1000) (hbase : base ≤ w.heap.size)
    (h : ∀ v' w', w'.ownsRow base e 3 v' M2.length (encE M2) → w.grownBy w' v.ownBlock → wpList Try.prog ops Q rest (a.put o.dst v') w') :
    wpList Try.prog ops Q (o :: rest) a w := by
  obtain ⟨i0, hi, hz0, hz1, hz2⟩ := info_parts hinfo
  subst hm
  refine wpList_append_own w hgd s x t ho base e i0 (.agg #[.int .i64 0, .int .i64 0, .int .i64 0]) 3 24 ht hi hz0 hz1 hz2 rfl (by decide) v 0 [] hs hown ⟨g, off, none⟩ M2.length c (encE M2) hx (encE_len M2) (fun j u hj => ?_) (fun u hu => one_cells M2 u hu) (by unfold maxLen; omega) (by omega) hbase ?_
  · rw [show (⟨g, off, none⟩ : Addr).add j = ⟨g, off + j, none⟩ by unfold Addr.add; split <;> simp_all]
    exact hc.out j u hj
  · intro v' w' h1 h2 _
    exact h v' w' (by simpa using h1) h2
theorem own_empty (w : World) (e : TypeId) : (w.alloc (.cells #[] e)).ownsRow w.heap.size e 3 (.slice (some ⟨w.heap.size, 0, none⟩) 0 0) 0 [] :=
  ⟨rfl, .inr ⟨w.heap.size, 0, #[], rfl, Nat.le_refl _, heap_alloc_new _ _, Nat.le_refl _, Nat.zero_le _, rfl, rfl⟩⟩
theorem enc_drop : ∀ (M : List E) (k j : Nat), (encE (M.drop k))[j]? = (encE M)[k * 3 + j]?
  | [], k, j => by simp [encE]
  | e :: M, 0, j => by simp
  | e :: M, k + 1, j => by
    rw [List.drop_succ_cons, enc_drop M k j, show (k + 1) * 3 + j = (k * 3 + j) + 3 by omega]
    simp only [encE, List.getElem?_cons_succ]
set_option maxRecDepth 100000 in
set_option maxHeartbeats 4000000 in
theorem RDue_any (rb : Nat) (u : Value) (S : List E) (last most now : Int) (w : World) (h : Hid (Rf w rb u S last most)) : Calls Try.prog 24 #[.pointer (some ⟨rb, 0, none⟩), .int .i64 now] w fun e w' => ∃ x u', e = .returned x ∧ w'.ownsRow w.heap.size 45 3 x (dueS now S).length (encE (dueS now S)) ∧ Hid (Rf w' rb u' (rstS now S) last most) ∧ Rov rb u' w w' := by
  have hl := h.out.len
  obtain ⟨a, cap, rfl⟩ := own_val h.out.own
  have hcap : S.length ≤ cap := by
    rcases h.out.own.2 with ⟨h', _⟩ | ⟨g', cap', cur, h', _, _, hc, _⟩
    · simp only [Value.slice.injEq] at h'; omega
    · simp only [Value.slice.injEq] at h'; omega
  have bc := h.out.box.cell
  obtain ⟨n, hn⟩ : ∃ n, S.length = n := ⟨_, rfl⟩
  have HN := Lib.hid hn
  rw [hn] at hl hcap bc
  clear hn
  go_enter Try.func24, Try.ntmps24
  go_wp2_with fail
  go_loopw [5] (fun i wr => ∃ k : Nat, k ≤ n ∧ i = .int .i64 k ∧ Hid (∀ j, j < k → (at_ S j).1 ≤ now) ∧ wr = w) (fun i _ => n - (intOf i).toNat)
  case atStart => exact ⟨0, by omega, rfl, Lib.hid (fun j hj => by omega), rfl⟩
  case round =>
    obtain ⟨k, hk, rfl, HJ, rfl⟩ := hrel
    by_cases hkn : k < n
    · obtain ⟨⟨x0, x1, x2⟩, hx⟩ : ∃ x, at_ S k = x := ⟨_, rfl⟩
      have hkl : k < S.length := by rw [HN.out]; exact hkn
      obtain ⟨g, rfl, -, hlt, c0, c1, c2⟩ := rent h k hkl (Lib.hid hx)
      by_cases hd : x0 ≤ now
      · have HJ2 : Hid (∀ j, j < k + 1 → (at_ S j).1 ≤ now) := Lib.hid (fun j hj => if e : j = k then by rw [e, hx]; exact hd else HJ.out j (by omega))
        clear hx h
        go_wp2_with fail
        go_roundw
        case rel => exact ⟨k + 1, by omega, by go_num, HJ2, trivial⟩
        case measure => simp [intOf]; omega
      · have DS := Lib.hid (due_stop HJ.out (by omega) (fun _ => by rw [hx]; dsimp only; omega))
        have hd2 : now < x0 := by omega
        clear hx HJ hd hkl
        rw [HN.out] at h
        have K0 := (Below.refl wr.heap.size wr).alloc (Nat.le_refl _) (.cells #[] 45)
        have h1 := rf_next h K0
        have bc1 := h1.out.box.cell
        have hck : cap ≠ k := by omega
        have o := h1.out.own
        rw [HN.out] at o
        have O1 := own_take o (k) (by omega)
        rw [enc_take] at O1
        have hkl : (S.take (k)).length = k := by simp [HN.out] <;> omega
        have hdl : (S.drop (k)).length = n - k := by simp [HN.out]
        obtain ⟨M1, hM1⟩ : ∃ M1, S.take (k) = M1 := ⟨_, rfl⟩
        obtain ⟨M2, hM2⟩ : ∃ M2, S.drop (k) = M2 := ⟨_, rfl⟩
        rw [hM1] at O1 hkl
        rw [hM2] at hdl
        have HM1 := Lib.hid hM1
        have HM2 := Lib.hid hM2
        have HKL := Lib.hid hkl
        have HDL := Lib.hid hdl
        clear hkl hdl hM1 hM2
        go_wp2_with (at_builtin; go_loud (refine append_rows (wr.alloc (.cells #[] 45)) rfl _ _ 37 rfl 45 (by kernel_rfl) infoEntR wr.heap.size 0 _ _ [] M1 rfl (by exact own_empty wr _) rfl (by rw [HKL.out]; exact O1) (by simp) (by rw [HKL.out]; omega) (by simp) ?_))
        intro v2 w2 ho1 hg
        have ho2 : w2.ownsRow wr.heap.size 45 3 v2 M1.length (encE M1) := by simpa using ho1
        have A2 : Alt (fun i => i = wr.heap.size) (wr.alloc (.cells #[] 45)) w2 := Alt.of_grown hg (fun i e => by cases e; rfl)
        have hrb := h.out.box.lt
        have h2 := rf_alt h1 A2 (by omega) (fun q hq z => by have := (own_lo h.out.own hq).2; omega)
        have K2 : Below wr.heap.size wr w2 := K0.grown hg (by simp) (fun r e => by cases e; exact Nat.le_refl _)
        have KA2 := (Below.refl w2.heap.size w2).alloc (Nat.le_refl _) (.cells #[] 45)
        have h3 := rf_next h2 KA2
        have bc3 := h3.out.box.cell
        have o3 := h3.out.own
        rw [HN.out] at o3
        have HC : Hid (∀ j u, (encE M2)[j]? = some u → (w2.alloc (.cells #[] 45)).cell? ⟨g, (k) * 3 + j, none⟩ = some u) := Lib.hid (fun j u hj => by
          have hj2 : j < (encE M2).length := (List.getElem?_eq_some_iff.1 hj).1
          rw [encE_len, HDL.out] at hj2
          rw [World.ownsRow.cellAt o3 ((k) * 3 + j) (by omega), ← enc_drop, HM2.out]
          exact hj)
        have K2 := Lib.hid K2
        have ho2 := Lib.hid ho2
        clear ho1 hg A2 h1 bc1 O1 o K0 o3
        go_wp2_with (at_builtin; go_loud (refine append_src (w2.alloc (.cells #[] 45)) rfl _ _ 37 rfl 45 (by kernel_rfl) infoEntR w2.heap.size _ rfl (by exact own_empty w2 _) g (k * 3) (n - k) (cap - k) M2 rfl (HDL.out) (HC) (by rw [HDL.out]; omega) (by simp) ?_))
        intro v3 w4 ho3 hg3
        have A4 : Alt (fun i => i = w2.heap.size) (w2.alloc (.cells #[] 45)) w4 := Alt.of_grown hg3 (fun i e => by cases e; rfl)
        have hs2 := K2.out.size
        have h4 := rf_alt h3 A4 (by have := h2.out.box.lt; omega) (fun q hq z => by have := (own_lo h2.out.own hq).2; omega)
        have K4 : Below w2.heap.size w2 w4 := KA2.grown hg3 (by simp) (fun r e => by cases e; exact Nat.le_refl _)
        obtain ⟨m9, hm9⟩ : ∃ m, M2.length = m := ⟨_, rfl⟩
        rw [hm9] at ho3
        obtain ⟨va, vc, rfl⟩ := own_val ho3
        have bc4 := h4.out.box.cell
        have fz4 := h4.out.box.frozen
        have hva : ∀ q, (Value.slice va m9 vc).ownBlock = some q → w2.heap.size ≤ q := fun q hq => (own_lo ho3 hq).1
        have A5 : Alt (fun i => i = rb) w4 (w4.setCell ⟨rb, 0, none⟩ (.slice va m9 vc)) := Alt.set _ _ _ rfl
        have R5 : Hid (Rf (w4.setCell ⟨rb, 0, none⟩ (.slice va m9 vc)) rb (.slice va m9 vc) (rstS now S) last most) := Lib.hid ⟨h4.out.box.set 0 _, by
          rw [DS.out.2, HM2.out, hm9]
          exact own_altv (own_base ho3 (fun _ _ => Nat.zero_le _)) A5 (fun q hq z => by have := hva q hq; have := h2.out.box.lt; omega), by rw [DS.out.2, HM2.out, HDL.out]; omega⟩
        have R6 : Hid ((w4.setCell ⟨rb, 0, none⟩ (.slice va m9 vc)).ownsRow wr.heap.size 45 3 v2 (dueS now S).length (encE (dueS now S))) := Lib.hid (by
          rw [DS.out.1, HM1.out]
          exact own_altv (own_below ho2.out K4) A5 (fun q hq z => by have := (own_lo ho2.out hq).1; have := h.out.box.lt; omega))
        have R7 : Hid (Rov rb (.slice va m9 vc) wr (w4.setCell ⟨rb, 0, none⟩ (.slice va m9 vc))) := Lib.hid ⟨(Alt.of_below (K2.out.trans (K4.mono hs2))).trans A5, fun q hq => by have := hva q hq; omega⟩
        clear ho3 hg3 A4 A5 hva hm9 h3 bc3 HC
        go_wp2_with fail
        go_ret
        exact ⟨_, _, rfl, R6.out, R5, R7.out⟩
    · obtain rfl : k = n := by omega
      have DS := Lib.hid (due_stop HJ.out (by rw [HN.out]; omega) (fun z => by rw [HN.out] at z; omega))
      clear HJ
      rw [HN.out] at h
      have K0 := (Below.refl wr.heap.size wr).alloc (Nat.le_refl _) (.cells #[] 45)
      have h1 := rf_next h K0
      have bc1 := h1.out.box.cell
      rcases h.out.own.2 with ⟨e1, e2⟩ | ⟨g, cp, cur, e1, _, _, _⟩
      · simp only [Value.slice.injEq] at e1
        obtain ⟨rfl, rfl, rfl⟩ := e1
        clear e2
        have ea : S = [] := List.length_eq_zero_iff.1 HN.out
        subst ea
        have hrb := h.out.box.lt
        obtain ⟨i0, hi0, hz0, hz1, hz2⟩ := info_parts infoEntR
        clear DS
        have K1 := (Below.refl (wr.alloc (.cells #[] 45)).heap.size (wr.alloc (.cells #[] 45))).alloc (Nat.le_refl _) (.cells #[] 45)
        have h2 := rf_next h1 K1
        have bc2 := h2.out.box.cell
        have fz2 := h2.out.box.frozen
        have sz1 : (wr.alloc (.cells #[] 45)).heap.size = wr.heap.size + 1 := by simp
        have oe := own_empty (wr.alloc (.cells #[] 45)) 45
        have oe0 := own_below (own_empty wr 45) K1
        have K2 : Below wr.heap.size wr ((wr.alloc (.cells #[] 45)).alloc (.cells #[] 45)) := below_next K0 K1
        rw [sz1] at oe
        clear h1 K1 K0
        go_wp2_with (at_builtin; first | (refine wpList_append_own_none rfl _ _ 37 rfl wr.heap.size 45 i0 3 (by kernel_rfl) hi0 _ 0 [] rfl (by exact own_empty wr _) rfl ?_) | (refine wpList_append_own_none rfl _ _ 37 rfl (wr.heap.size + 1) 45 i0 3 (by kernel_rfl) hi0 _ 0 [] rfl (by exact oe) rfl ?_))
        obtain ⟨W2, hW2⟩ : ∃ W2, W2 = (wr.alloc (.cells #[] 45)).alloc (.cells #[] 45) := ⟨_, rfl⟩
        rw [← hW2] at h2 oe oe0 K2
        have A5 : Alt (fun i => i = rb) W2 (W2.setCell ⟨rb, 0, none⟩ (.slice (some ⟨wr.heap.size + 1, 0, none⟩) 0 0)) := Alt.set _ _ _ rfl
        have R5 : Hid (Rf (W2.setCell ⟨rb, 0, none⟩ (.slice (some ⟨wr.heap.size + 1, 0, none⟩) 0 0)) rb (.slice (some ⟨wr.heap.size + 1, 0, none⟩) 0 0) [] last most) := Lib.hid ⟨h2.out.box.set 0 _, own_altv (own_base oe (fun _ _ => Nat.zero_le _)) A5 (fun q hq z => by have := (own_lo oe hq).1; omega), by simp⟩
        have R6 : Hid ((W2.setCell ⟨rb, 0, none⟩ (.slice (some ⟨wr.heap.size + 1, 0, none⟩) 0 0)).ownsRow wr.heap.size 45 3 (.slice (some ⟨wr.heap.size, 0, none⟩) 0 0) 0 []) := Lib.hid (own_altv oe0 A5 (fun q hq z => by have := (own_lo oe0 hq).1; omega))
        have R7 : Hid (Rov rb (.slice (some ⟨wr.heap.size + 1, 0, none⟩) 0 0) wr (W2.setCell ⟨rb, 0, none⟩ (.slice (some ⟨wr.heap.size + 1, 0, none⟩) 0 0))) := Lib.hid ⟨(Alt.of_below K2).trans A5, fun q hq => by have := (own_lo oe hq).1; omega⟩
        clear oe oe0 A5 K2
        have EW : W2.setCell ⟨rb, 0, none⟩ (.slice (some ⟨wr.heap.size + 1, 0, none⟩) 0 0) = ((wr.setCell ⟨rb, 0, none⟩ (.slice (some ⟨wr.heap.size + 1, 0, none⟩) 0 0)).alloc (.cells #[] 45)).alloc (.cells #[] 45) := by
          rw [hW2]
          go_simp
        rw [EW] at R5 R6 R7
        go_ret
        exact ⟨_, _, rfl, R6.out, R5, R7.out⟩
      · simp only [Value.slice.injEq] at e1
        obtain ⟨rfl, -, rfl⟩ := e1
        have hlt := (own_lo h.out.own (g := g) rfl).2
        by_cases hck : cap = k
        · obtain rfl : k = cap := hck.symm
          by_cases hk0 : k = 0
          · subst hk0
            have o := h1.out.own
            rw [HN.out] at o
            have O1 := own_take o (0) (by omega)
            rw [enc_take] at O1
            have hkl : (S.take (0)).length = 0 := by simp [HN.out] <;> omega
            have hdl : (S.drop (0)).length = 0 - 0 := by simp [HN.out]
            obtain ⟨M1, hM1⟩ : ∃ M1, S.take (0) = M1 := ⟨_, rfl⟩
            obtain ⟨M2, hM2⟩ : ∃ M2, S.drop (0) = M2 := ⟨_, rfl⟩
            rw [hM1] at O1 hkl
            rw [hM2] at hdl
            have HM1 := Lib.hid hM1
            have HM2 := Lib.hid hM2
            have HKL := Lib.hid hkl
            have HDL := Lib.hid hdl
            clear hkl hdl hM1 hM2
            go_wp2_with (at_builtin; go_loud (refine append_rows (wr.alloc (.cells #[] 45)) rfl _ _ 37 rfl 45 (by kernel_rfl) infoEntR wr.heap.size 0 _ _ [] M1 rfl (by exact own_empty wr _) rfl (by rw [HKL.out]; exact O1) (by simp) (by rw [HKL.out]; omega) (by simp) ?_))
            intro v2 w2 ho1 hg
            have ho2 : w2.ownsRow wr.heap.size 45 3 v2 M1.length (encE M1) := by simpa using ho1
            have A2 : Alt (fun i => i = wr.heap.size) (wr.alloc (.cells #[] 45)) w2 := Alt.of_grown hg (fun i e => by cases e; rfl)
            have hrb := h.out.box.lt
            have h2 := rf_alt h1 A2 (by omega) (fun q hq z => by have := (own_lo h.out.own hq).2; omega)
            have K2 : Below wr.heap.size wr w2 := K0.grown hg (by simp) (fun r e => by cases e; exact Nat.le_refl _)
            have KA2 := (Below.refl w2.heap.size w2).alloc (Nat.le_refl _) (.cells #[] 45)
            have h3 := rf_next h2 KA2
            have bc3 := h3.out.box.cell
            have o3 := h3.out.own
            rw [HN.out] at o3
            have HC : Hid (∀ j u, (encE M2)[j]? = some u → (w2.alloc (.cells #[] 45)).cell? ⟨g, (0) * 3 + j, none⟩ = some u) := Lib.hid (fun j u hj => by
              have hj2 : j < (encE M2).length := (List.getElem?_eq_some_iff.1 hj).1
              rw [encE_len, HDL.out] at hj2
              rw [World.ownsRow.cellAt o3 ((0) * 3 + j) (by omega), ← enc_drop, HM2.out]
              exact hj)
            have K2 := Lib.hid K2
            have ho2 := Lib.hid ho2
            clear ho1 hg A2 h1 bc1 O1 o K0 o3
            go_wp2_with (at_builtin; go_loud (refine append_src (w2.alloc (.cells #[] 45)) rfl _ _ 37 rfl 45 (by kernel_rfl) infoEntR w2.heap.size _ rfl (by exact own_empty w2 _) g (0) (0) (0) M2 rfl (HDL.out) ((Lib.hid (fun j u hj => by have := (List.getElem?_eq_some_iff.1 hj).1; rw [encE_len, HDL.out] at this; omega))) (by rw [HDL.out]; omega) (by simp) ?_))
            intro v3 w4 ho3 hg3
            have A4 : Alt (fun i => i = w2.heap.size) (w2.alloc (.cells #[] 45)) w4 := Alt.of_grown hg3 (fun i e => by cases e; rfl)
            have hs2 := K2.out.size
            have h4 := rf_alt h3 A4 (by have := h2.out.box.lt; omega) (fun q hq z => by have := (own_lo h2.out.own hq).2; omega)
            have K4 : Below w2.heap.size w2 w4 := KA2.grown hg3 (by simp) (fun r e => by cases e; exact Nat.le_refl _)
            obtain ⟨m9, hm9⟩ : ∃ m, M2.length = m := ⟨_, rfl⟩
            rw [hm9] at ho3
            obtain ⟨va, vc, rfl⟩ := own_val ho3
            have bc4 := h4.out.box.cell
            have fz4 := h4.out.box.frozen
            have hva : ∀ q, (Value.slice va m9 vc).ownBlock = some q → w2.heap.size ≤ q := fun q hq => (own_lo ho3 hq).1
            have A5 : Alt (fun i => i = rb) w4 (w4.setCell ⟨rb, 0, none⟩ (.slice va m9 vc)) := Alt.set _ _ _ rfl
            have R5 : Hid (Rf (w4.setCell ⟨rb, 0, none⟩ (.slice va m9 vc)) rb (.slice va m9 vc) (rstS now S) last most) := Lib.hid ⟨h4.out.box.set 0 _, by
              rw [DS.out.2, HM2.out, hm9]
              exact own_altv (own_base ho3 (fun _ _ => Nat.zero_le _)) A5 (fun q hq z => by have := hva q hq; have := h2.out.box.lt; omega), by rw [DS.out.2, HM2.out, HDL.out]; omega⟩
            have R6 : Hid ((w4.setCell ⟨rb, 0, none⟩ (.slice va m9 vc)).ownsRow wr.heap.size 45 3 v2 (dueS now S).length (encE (dueS now S))) := Lib.hid (by
              rw [DS.out.1, HM1.out]
              exact own_altv (own_below ho2.out K4) A5 (fun q hq z => by have := (own_lo ho2.out hq).1; have := h.out.box.lt; omega))
            have R7 : Hid (Rov rb (.slice va m9 vc) wr (w4.setCell ⟨rb, 0, none⟩ (.slice va m9 vc))) := Lib.hid ⟨(Alt.of_below (K2.out.trans (K4.mono hs2))).trans A5, fun q hq => by have := hva q hq; omega⟩
            clear ho3 hg3 A4 A5 hva hm9 h3 bc3 HC
            go_wp2_with fail
            go_ret
            exact ⟨_, _, rfl, R6.out, R5, R7.out⟩
          · have hk1 : 0 < k := by omega
            clear hk0
            have o := h1.out.own
            rw [HN.out] at o
            have O1 := own_take o (k) (by omega)
            rw [enc_take] at O1
            have hkl : (S.take (k)).length = k := by simp [HN.out] <;> omega
            have hdl : (S.drop (k)).length = k - k := by simp [HN.out]
            obtain ⟨M1, hM1⟩ : ∃ M1, S.take (k) = M1 := ⟨_, rfl⟩
            obtain ⟨M2, hM2⟩ : ∃ M2, S.drop (k) = M2 := ⟨_, rfl⟩
            rw [hM1] at O1 hkl
            rw [hM2] at hdl
            have HM1 := Lib.hid hM1
            have HM2 := Lib.hid hM2
            have HKL := Lib.hid hkl
            have HDL := Lib.hid hdl
            clear hkl hdl hM1 hM2
            go_wp2_with (at_builtin; go_loud (refine append_rows (wr.alloc (.cells #[] 45)) rfl _ _ 37 rfl 45 (by kernel_rfl) infoEntR wr.heap.size 0 _ _ [] M1 rfl (by exact own_empty wr _) rfl (by rw [HKL.out]; exact O1) (by simp) (by rw [HKL.out]; omega) (by simp) ?_))
            intro v2 w2 ho1 hg
            have ho2 : w2.ownsRow wr.heap.size 45 3 v2 M1.length (encE M1) := by simpa using ho1
            have A2 : Alt (fun i => i = wr.heap.size) (wr.alloc (.cells #[] 45)) w2 := Alt.of_grown hg (fun i e => by cases e; rfl)
            have hrb := h.out.box.lt
            have h2 := rf_alt h1 A2 (by omega) (fun q hq z => by have := (own_lo h.out.own hq).2; omega)
            have K2 : Below wr.heap.size wr w2 := K0.grown hg (by simp) (fun r e => by cases e; exact Nat.le_refl _)
            have KA2 := (Below.refl w2.heap.size w2).alloc (Nat.le_refl _) (.cells #[] 45)
            have h3 := rf_next h2 KA2
            have bc3 := h3.out.box.cell
            have o3 := h3.out.own
            rw [HN.out] at o3
            have HC : Hid (∀ j u, (encE M2)[j]? = some u → (w2.alloc (.cells #[] 45)).cell? ⟨g, (k) * 3 + j, none⟩ = some u) := Lib.hid (fun j u hj => by
              have hj2 : j < (encE M2).length := (List.getElem?_eq_some_iff.1 hj).1
              rw [encE_len, HDL.out] at hj2
              rw [World.ownsRow.cellAt o3 ((k) * 3 + j) (by omega), ← enc_drop, HM2.out]
              exact hj)
            have K2 := Lib.hid K2
            have ho2 := Lib.hid ho2
            clear ho1 hg A2 h1 bc1 O1 o K0 o3
            go_wp2_with (at_builtin; go_loud (refine append_src (w2.alloc (.cells #[] 45)) rfl _ _ 37 rfl 45 (by kernel_rfl) infoEntR w2.heap.size _ rfl (by exact own_empty w2 _) g (0) (0) (0) M2 rfl ((by rw [HDL.out]; omega)) ((Lib.hid (fun j u hj => by have := (List.getElem?_eq_some_iff.1 hj).1; rw [encE_len, HDL.out] at this; omega))) (by rw [HDL.out]; omega) (by simp) ?_))
            intro v3 w4 ho3 hg3
            have A4 : Alt (fun i => i = w2.heap.size) (w2.alloc (.cells #[] 45)) w4 := Alt.of_grown hg3 (fun i e => by cases e; rfl)
            have hs2 := K2.out.size
            have h4 := rf_alt h3 A4 (by have := h2.out.box.lt; omega) (fun q hq z => by have := (own_lo h2.out.own hq).2; omega)
            have K4 : Below w2.heap.size w2 w4 := KA2.grown hg3 (by simp) (fun r e => by cases e; exact Nat.le_refl _)
            obtain ⟨m9, hm9⟩ : ∃ m, M2.length = m := ⟨_, rfl⟩
            rw [hm9] at ho3
            obtain ⟨va, vc, rfl⟩ := own_val ho3
            have bc4 := h4.out.box.cell
            have fz4 := h4.out.box.frozen
            have hva : ∀ q, (Value.slice va m9 vc).ownBlock = some q → w2.heap.size ≤ q := fun q hq => (own_lo ho3 hq).1
            have A5 : Alt (fun i => i = rb) w4 (w4.setCell ⟨rb, 0, none⟩ (.slice va m9 vc)) := Alt.set _ _ _ rfl
            have R5 : Hid (Rf (w4.setCell ⟨rb, 0, none⟩ (.slice va m9 vc)) rb (.slice va m9 vc) (rstS now S) last most) := Lib.hid ⟨h4.out.box.set 0 _, by
              rw [DS.out.2, HM2.out, hm9]
              exact own_altv (own_base ho3 (fun _ _ => Nat.zero_le _)) A5 (fun q hq z => by have := hva q hq; have := h2.out.box.lt; omega), by rw [DS.out.2, HM2.out, HDL.out]; omega⟩
            have R6 : Hid ((w4.setCell ⟨rb, 0, none⟩ (.slice va m9 vc)).ownsRow wr.heap.size 45 3 v2 (dueS now S).length (encE (dueS now S))) := Lib.hid (by
              rw [DS.out.1, HM1.out]
              exact own_altv (own_below ho2.out K4) A5 (fun q hq z => by have := (own_lo ho2.out hq).1; have := h.out.box.lt; omega))
            have R7 : Hid (Rov rb (.slice va m9 vc) wr (w4.setCell ⟨rb, 0, none⟩ (.slice va m9 vc))) := Lib.hid ⟨(Alt.of_below (K2.out.trans (K4.mono hs2))).trans A5, fun q hq => by have := hva q hq; omega⟩
            clear ho3 hg3 A4 A5 hva hm9 h3 bc3 HC
            go_wp2_with fail
            go_ret
            exact ⟨_, _, rfl, R6.out, R5, R7.out⟩
        · have hck2 : k < cap := by omega
          clear hck
          have o := h1.out.own
          rw [HN.out] at o
          have O1 := own_take o (k) (by omega)
          rw [enc_take] at O1
          have hkl : (S.take (k)).length = k := by simp [HN.out] <;> omega
          have hdl : (S.drop (k)).length = k - k := by simp [HN.out]
          obtain ⟨M1, hM1⟩ : ∃ M1, S.take (k) = M1 := ⟨_, rfl⟩
          obtain ⟨M2, hM2⟩ : ∃ M2, S.drop (k) = M2 := ⟨_, rfl⟩
          rw [hM1] at O1 hkl
          rw [hM2] at hdl
          have HM1 := Lib.hid hM1
          have HM2 := Lib.hid hM2
          have HKL := Lib.hid hkl
          have HDL := Lib.hid hdl
          clear hkl hdl hM1 hM2
          go_wp2_with (at_builtin; go_loud (refine append_rows (wr.alloc (.cells #[] 45)) rfl _ _ 37 rfl 45 (by kernel_rfl) infoEntR wr.heap.size 0 _ _ [] M1 rfl (by exact own_empty wr _) rfl (by rw [HKL.out]; exact O1) (by simp) (by rw [HKL.out]; omega) (by simp) ?_))
          intro v2 w2 ho1 hg
          have ho2 : w2.ownsRow wr.heap.size 45 3 v2 M1.length (encE M1) := by simpa using ho1
          have A2 : Alt (fun i => i = wr.heap.size) (wr.alloc (.cells #[] 45)) w2 := Alt.of_grown hg (fun i e => by cases e; rfl)
          have hrb := h.out.box.lt
          have h2 := rf_alt h1 A2 (by omega) (fun q hq z => by have := (own_lo h.out.own hq).2; omega)
          have K2 : Below wr.heap.size wr w2 := K0.grown hg (by simp) (fun r e => by cases e; exact Nat.le_refl _)
          have KA2 := (Below.refl w2.heap.size w2).alloc (Nat.le_refl _) (.cells #[] 45)
          have h3 := rf_next h2 KA2
          have bc3 := h3.out.box.cell
          have o3 := h3.out.own
          rw [HN.out] at o3
          have HC : Hid (∀ j u, (encE M2)[j]? = some u → (w2.alloc (.cells #[] 45)).cell? ⟨g, (k) * 3 + j, none⟩ = some u) := Lib.hid (fun j u hj => by
            have hj2 : j < (encE M2).length := (List.getElem?_eq_some_iff.1 hj).1
            rw [encE_len, HDL.out] at hj2
            rw [World.ownsRow.cellAt o3 ((k) * 3 + j) (by omega), ← enc_drop, HM2.out]
            exact hj)
          have K2 := Lib.hid K2
          have ho2 := Lib.hid ho2
          clear ho1 hg A2 h1 bc1 O1 o K0 o3
          go_wp2_with (at_builtin; go_loud (refine append_src (w2.alloc (.cells #[] 45)) rfl _ _ 37 rfl 45 (by kernel_rfl) infoEntR w2.heap.size _ rfl (by exact own_empty w2 _) g (k * 3) (0) (cap - k) M2 rfl ((by rw [HDL.out]; omega)) (HC) (by rw [HDL.out]; omega) (by simp) ?_))
          intro v3 w4 ho3 hg3
          have A4 : Alt (fun i => i = w2.heap.size) (w2.alloc (.cells #[] 45)) w4 := Alt.of_grown hg3 (fun i e => by cases e; rfl)
          have hs2 := K2.out.size
          have h4 := rf_alt h3 A4 (by have := h2.out.box.lt; omega) (fun q hq z => by have := (own_lo h2.out.own hq).2; omega)
          have K4 : Below w2.heap.size w2 w4 := KA2.grown hg3 (by simp) (fun r e => by cases e; exact Nat.le_refl _)
          obtain ⟨m9, hm9⟩ : ∃ m, M2.length = m := ⟨_, rfl⟩
          rw [hm9] at ho3
          obtain ⟨va, vc, rfl⟩ := own_val ho3
          have bc4 := h4.out.box.cell
          have fz4 := h4.out.box.frozen
          have hva : ∀ q, (Value.slice va m9 vc).ownBlock = some q → w2.heap.size ≤ q := fun q hq => (own_lo ho3 hq).1
          have A5 : Alt (fun i => i = rb) w4 (w4.setCell ⟨rb, 0, none⟩ (.slice va m9 vc)) := Alt.set _ _ _ rfl
          have R5 : Hid (Rf (w4.setCell ⟨rb, 0, none⟩ (.slice va m9 vc)) rb (.slice va m9 vc) (rstS now S) last most) := Lib.hid ⟨h4.out.box.set 0 _, by
            rw [DS.out.2, HM2.out, hm9]
            exact own_altv (own_base ho3 (fun _ _ => Nat.zero_le _)) A5 (fun q hq z => by have := hva q hq; have := h2.out.box.lt; omega), by rw [DS.out.2, HM2.out, HDL.out]; omega⟩
          have R6 : Hid ((w4.setCell ⟨rb, 0, none⟩ (.slice va m9 vc)).ownsRow wr.heap.size 45 3 v2 (dueS now S).length (encE (dueS now S))) := Lib.hid (by
            rw [DS.out.1, HM1.out]
            exact own_altv (own_below ho2.out K4) A5 (fun q hq z => by have := (own_lo ho2.out hq).1; have := h.out.box.lt; omega))
          have R7 : Hid (Rov rb (.slice va m9 vc) wr (w4.setCell ⟨rb, 0, none⟩ (.slice va m9 vc))) := Lib.hid ⟨(Alt.of_below (K2.out.trans (K4.mono hs2))).trans A5, fun q hq => by have := hva q hq; omega⟩
          clear ho3 hg3 A4 A5 hva hm9 h3 bc3 HC
          go_wp2_with fail
          go_ret
          exact ⟨_, _, rfl, R6.out, R5, R7.out⟩
end Go.Proofs.Ytlafeijkpnpdeaa.Agw

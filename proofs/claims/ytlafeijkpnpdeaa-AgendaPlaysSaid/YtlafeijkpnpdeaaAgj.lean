/- The law AgendaWaits. -/
import Derived.Test.YtlafeijkpnpdeaaAgi
namespace Go.Proofs.Ytlafeijkpnpdeaa.Agj
open Go.RowKit Base Kit RefA Alt Held Agp Aga Agb Agc Agd Age Agf Agg Agh Agi
set_option linter.unusedVariables false
set_option linter.unusedSimpArgs false
theorem due_split (mid end1 : Int) (h : mid ≤ end1) : ∀ S : List E, dueS mid S ++ dueS end1 (rstS mid S) = dueS end1 S ∧ rstS end1 (rstS mid S) = rstS end1 S
  | [] => ⟨rfl, rfl⟩
  | s :: S => by
    have ih := due_split mid end1 h S
    unfold dueS rstS at *
    by_cases c : s.1 ≤ mid
    · have c2 : s.1 ≤ end1 := by omega
      rw [List.takeWhile_cons_of_pos (by simpa using c), List.dropWhile_cons_of_pos (by simpa using c)]
      conv => rhs; rhs; rw [List.dropWhile_cons_of_pos (by simpa using c2)]
      conv => lhs; rhs; rw [List.takeWhile_cons_of_pos (by simpa using c2)]
      exact ⟨by rw [List.cons_append, ih.1], ih.2⟩
    · rw [List.takeWhile_cons_of_neg (by simpa using c), List.dropWhile_cons_of_neg (by simpa using c)]
      exact ⟨rfl, rfl⟩
theorem len_due {S : List E} (mid : Int) (h : S.length ≤ 1000) : (dueS mid S).length ≤ 1000 := Nat.le_trans (List.takeWhile_sublist _).length_le h
theorem len_due2 {S : List E} (mid end1 : Int) (h : S.length ≤ 1000) : (dueS end1 (rstS mid S)).length ≤ 1000 := Nat.le_trans (List.takeWhile_sublist _).length_le (Nat.le_trans (List.dropWhile_sublist _).length_le h)
/-- append of a row of entries to a row of the call's own -/
theorem append_rows (w : World) {ops : Array Oper} {rest : List Oper} {o : Oper} {a : Act} {Q : Exit → Act → World → Prop} (hgd : o.guard = .none) (s x : Operand) (t : TypeId)
    (ho : o.op = .call { callee := .builtin .append, args := #[s, x], argTypes := #[t, t] }) (e : TypeId) (ht : Try.prog.underlying t = some (.slice e)) (hinfo : (Try.prog.info? e).map (fun i => (i.zero, i.size, i.bytes)) = some (some (.agg #[.int .i64 0, .int .i64 0, .int .i64 0]), 3, 24))
    (base base2 : Nat) (v u : Value) (M M2 : List E) (hs : a.eval s = v) (hown : w.ownsRow base e 3 v M.length (encE M)) (hx : a.eval x = u) (hown2 : w.ownsRow base2 e 3 u M2.length (encE M2)) (hn : M.length ≤ 1000) (hn2 : M2.length ≤ 1000) (hbase : base ≤ w.heap.size)
    (h : ∀ v' w', w'.ownsRow base e 3 v' (M ++ M2).length (encE (M ++ M2)) → w.grownBy w' v.ownBlock → wpList Try.prog ops Q rest (a.put o.dst v') w') :
    wpList Try.prog ops Q (o :: rest) a w := by
  obtain ⟨i0, hi, hz0, hz1, hz2⟩ := info_parts hinfo
  by_cases hu : u = .slice none 0 0
  · subst hu
    have e2 : M2 = [] := by
      have := own_lenV hown2
      exact List.length_eq_zero_iff.1 (by rw [← this]; rfl)
    subst e2
    refine wpList_append_own_none hgd s x t ho base e i0 3 ht hi v M.length (encE M) hs hown hx ?_
    exact h v w (by simpa using hown) (grown_refl _ _)
  · obtain ⟨g, c, rfl, _, hlt⟩ := own_form hown2 hu
    refine wpList_append_own w hgd s x t ho base e i0 (.agg #[.int .i64 0, .int .i64 0, .int .i64 0]) 3 24 ht hi hz0 hz1 hz2 rfl (by decide) v M.length (encE M) hs hown ⟨g, 0, none⟩ M2.length c (encE M2) hx (encE_len M2) (fun j u hj => ?_) (fun u hu => ?_) (by unfold maxLen; omega) (by omega) hbase ?_
    · have hj2 : j < (encE M2).length := (List.getElem?_eq_some_iff.1 hj).1
      rw [encE_len] at hj2
      have := World.ownsRow.cellAt hown2 j hj2
      rw [show (⟨g, 0, none⟩ : Addr).add j = ⟨g, j, none⟩ by unfold Addr.add; split <;> simp_all, this]
      exact hj
    · have : ∀ M : List E, ∀ u ∈ encE M, u.oneCell' = true := fun M => by
        induction M with
        | nil => intro u hu; simp [encE] at hu
        | cons e M ih =>
          intro u hu
          simp only [encE, List.mem_cons] at hu
          rcases hu with rfl | rfl | rfl | hu
          · rfl
          · rfl
          · rfl
          · exact ih u hu
      exact this M2 u hu
    · intro v' w' h1 h2 _
      exact h v' w' (by rw [List.length_append, encE_app]; exact h1) h2
theorem fne3 (x y z : Int) (w : World) : (binOp .neq 33 (.agg #[.int .i64 x, .int .i64 y, .int .i64 z]) (.agg #[.int .i64 x, .int .i64 y, .int .i64 z])).run Try.prog w = .ok (.bool false) w := by
  have h1 : Try.prog.underlying 33 = some (.struct (Try.prog.fieldsOf 33)) := by kernel_rfl
  have h2 : Try.prog.stoodInHeld 33 = false := by kernel_rfl
  rw [run_neq_struct, run_equalIn_struct w 9999 _ _ _ h1 h2]
  unfold Program.fieldsOf
  rw [Try.underlying33]
  simp [go_sem, run_equalIn_int (P := Try.prog) _ 9998 3 .i64 .i64 _ _ Try.underlying3]
/-- what some adds lay -/
def sq (f : Nat → Int) : Nat → List E
  | 0 => []
  | k + 1 => ins (f k, (k : Int) + 1, (k : Int)) (sq f k)
theorem sq_len (f : Nat → Int) : ∀ k, (sq f k).length = k
  | 0 => rfl
  | k + 1 => by unfold sq; rw [(ins_perm _ _).length_eq, List.length_append, sq_len f k]; rfl
/-- two agendas -/
structure W2 (w0 w : World) (B a1 : Nat) (v1 : Value) (a2 : Nat) (v2 : Value) (S1 : List E) (l1 : Int) (S2 : List E) (l2 : Int) : Prop where
  bel : Below B w0 w
  hB : B = w0.heap.size
  A : Hid (Wk B w a1 v1 S1 l1 100)
  K : Hid (Wk B w a2 v2 S2 l2 100)
  ne : a1 ≠ a2
  dv : ∀ g, v1.ownBlock = some g → v2.ownBlock ≠ some g
theorem w2_sz {w0 w : World} {B a1 : Nat} {v1 : Value} {a2 : Nat} {v2 : Value} {S1 : List E} {l1 : Int} {S2 : List E} {l2 : Int} (h : Hid (W2 w0 w B a1 v1 a2 v2 S1 l1 S2 l2)) : B ≤ w.heap.size := by
  have := h.out.bel.size; have := h.out.hB; omega
theorem w2_1 {w0 w w1 : World} {B a1 : Nat} {v1 v3 : Value} {a2 : Nat} {v2 : Value} {S1 S3 : List E} {l1 l3 : Int} {S2 : List E} {l2 : Int} (h : Hid (W2 w0 w B a1 v1 a2 v2 S1 l1 S2 l2)) (m : Mov a1 v1 v3 w w1) (k : Hid (Wk B w1 a1 v3 S3 l3 100)) : Hid (W2 w0 w1 B a1 v3 a2 v2 S3 l3 S2 l2) := by
  obtain ⟨x, y⟩ := wk_other h.out.A h.out.K h.out.ne h.out.dv m
  exact Lib.hid ⟨wk_bel h.out.A h.out.bel (w2_sz h) m, h.out.hB, k, x, h.out.ne, y⟩
theorem w2_2 {w0 w w1 : World} {B a1 : Nat} {v1 : Value} {a2 : Nat} {v2 v4 : Value} {S1 : List E} {l1 : Int} {S2 S4 : List E} {l2 l4 : Int} (h : Hid (W2 w0 w B a1 v1 a2 v2 S1 l1 S2 l2)) (m : Mov a2 v2 v4 w w1) (k : Hid (Wk B w1 a2 v4 S4 l4 100)) : Hid (W2 w0 w1 B a1 v1 a2 v4 S1 l1 S4 l4) := by
  obtain ⟨x, y⟩ := wk_other h.out.K h.out.A (fun z => h.out.ne z.symm) (fun g h1 h2 => h.out.dv g h2 h1) m
  exact Lib.hid ⟨wk_bel h.out.K h.out.bel (w2_sz h) m, h.out.hB, x, k, h.out.ne, fun g h1 h2 => y g h2 h1⟩
theorem wk_at {B b : Nat} {w w1 : World} {ab : Nat} {v : Value} {S : List E} {last most : Int} (h : Hid (Wk B w ab v S last most)) (k : Below b w w1) (h1 : ab < b) (h2 : ∀ g, v.ownBlock = some g → g < b) : Hid (Wk B w1 ab v S last most) := by
  obtain ⟨L, a, i⟩ := h.out.ag
  have A : Alt (fun k => b ≤ k) w w1 := ⟨k.os, k.tape, k.output, k.size, fun i hi hs => k.block i (by omega)⟩
  exact Lib.hid ⟨⟨L, Lib.hid ⟨box_alt a.out.box A (by omega), own_altv a.out.own A (fun g hg z => by have := h2 g hg; omega), a.out.len⟩, i⟩, h.out.lo, Nat.lt_of_lt_of_le h.out.lt.1 k.size, fun g hg => Nat.lt_of_lt_of_le (h.out.lt.2 g hg) k.size⟩
/-- two rows -/
structure Zz (w0 w : World) (B B3 B4 : Nat) (u3 u4 : Value) (D : List E) : Prop where
  bel : Below B w0 w
  hB : B = w0.heap.size
  r3 : w.ownsRow B3 33 3 u3 D.length (encE D)
  r4 : w.ownsRow B4 33 3 u4 D.length (encE D)
theorem zz_next {w0 w w1 : World} {B B3 B4 : Nat} {u3 u4 : Value} {D : List E} (h : Hid (Zz w0 w B B3 B4 u3 u4 D)) (k : Below w.heap.size w w1) : Hid (Zz w0 w1 B B3 B4 u3 u4 D) := by
  have := h.out.bel.size
  have := h.out.hB
  exact Lib.hid ⟨h.out.bel.trans (k.mono (by omega)), h.out.hB, own_below h.out.r3 k, own_below h.out.r4 k⟩
attribute [local go_sem] fne3
set_option maxRecDepth 100000 in
set_option maxHeartbeats 4000000 in
theorem waits_law (a : Option Addr) (n cp : Nat) (f : Nat → Int) (mid end1 : Int) (w : World) (h : Hid (Open.RowsIn w a n 1 (fun i _ => f i))) (i1 : -9223372036854775808 ≤ mid ∧ mid ≤ 9223372036854775807) (i2 : -9223372036854775808 ≤ end1 ∧ end1 ≤ 9223372036854775807) : Calls Try.prog 3 #[.slice a n cp, .int .i64 mid, .int .i64 end1] w fun e w' => e = .returned (.bool true) ∧ Below w.heap.size w w' := by
  obtain ⟨B, hBe⟩ : ∃ B, B = w.heap.size := ⟨_, rfl⟩
  have hn := h.out.1
  have CW := Lib.hid (fun w' => works_any w')
  have RO := Lib.hid (fun w' (hb : Below B w w') => rows_below h.out hb (by omega))
  go_enter Try.func3, Try.ntmps3
  go_wp2_with fail
  refine (NewW 100 w B (by omega)).mono ?_
  rintro e w1 ⟨rfl, S, k⟩
  go_wp2_with fail
  refine (NewW 100 w1 B (by have := k.size; omega)).mono ?_
  rintro e w2 ⟨rfl, T, k2⟩
  have W : Hid (W2 w w2 B w.heap.size (.slice none 0 0) w1.heap.size (.slice none 0 0) (sq f 0) 0 (sq f 0) 0) := Lib.hid ⟨by rw [hBe]; exact below_next k k2, hBe, wk_next S k2, T, by have := S.out.lt.1; omega, fun g hg => by cases hg⟩
  clear S T k k2 h
  replace hBe := Lib.hid hBe
  generalize w.heap.size = a1 at W ⊢
  generalize w1.heap.size = a2 at W ⊢
  go_wp2_with fail
  go_loopw [9] (fun i wr => ∃ (k : Nat) (v1 v2 : Value), k ≤ n ∧ k ≤ 100 ∧ i = .int .i64 k ∧ Hid (W2 w wr B a1 v1 a2 v2 (sq f k) k (sq f k) k)) (fun i _ => n - (intOf i).toNat)
  case atStart => exact ⟨0, _, _, by omega, by omega, rfl, W⟩
  case round =>
    clear W
    obtain ⟨k, v1, v2, hkn, hk1, rfl, W⟩ := hrel
    by_cases hk : k < n ∧ k < 100
    · obtain ⟨hk2, hk3⟩ := hk
      obtain ⟨b, off, ea, hlt, c0, _⟩ := rows_at1 (Lib.hid (RO.out _ W.out.bel)) k hk2
      have RC := Lib.hid (fun w' (hb : Below B w w') => (by
        obtain ⟨b', off', ea', hlt', c0', _⟩ := rows_at1 (Lib.hid (RO.out _ hb)) k hk2
        rw [ea] at ea'; cases ea'; exact c0' : w'.cell? ⟨b, off + k, none⟩ = some (.int .i64 (f k))))
      subst ea
      have C1 := Lib.hid (AddW (f k) (k : Int) W.out.A (w2_sz W) (by rw [sq_len]; omega) (by omega) (by omega) (by omega))
      go_wp2_with fail
      refine C1.out.mono ?_
      rintro e w5 ⟨rfl, v3, X, M⟩
      have W' := w2_1 W M X
      clear C1 X M W c0
      have c0 := RC.out _ W'.out.bel
      have C1 := Lib.hid (AddW (f k) (k : Int) W'.out.K (w2_sz W') (by rw [sq_len]; omega) (by omega) (by omega) (by omega))
      go_wp2_with fail
      refine C1.out.mono ?_
      rintro e w6 ⟨rfl, v4, X, M⟩
      have W := w2_2 W' M X
      clear C1 X M W' c0
      go_wp2_with fail
      go_roundw
      case rel => exact ⟨k + 1, v3, v4, by omega, by omega, by go_num, by rw [show sq f (k + 1) = ins (f k, (k : Int) + 1, (k : Int)) (sq f k) from rfl]; simpa using W⟩
      case measure => simp [intOf]; omega
    · have hk2 : n = k ∨ (k < n ∧ k = 100) := by omega
      clear RO hk
      have HS := Lib.hid (sq_len f k)
      generalize sq f k = S at *
      obtain ⟨l, hl⟩ : ∃ l : Int, l = (k : Int) := ⟨_, rfl⟩
      rw [← hl] at W
      clear hl
      rcases hk2 with rfl | ⟨hk2, rfl⟩
      · by_cases hme : end1 < mid
        · skip
          go_wp2_with fail
          refine (CW.out _).mono ?_
          rintro e w7 ⟨rfl, k7⟩
          go_wp2_with fail
          go_ret
          exact ⟨rfl, by have := W.out.bel; rw [W.out.hB] at this; exact below_next this k7⟩
        · have hle : mid ≤ end1 := by omega
          clear hme
          have SL : S.length ≤ 1000 := wk_len W.out.A
          obtain ⟨ds1, ds2⟩ := due_split mid end1 hle S
          have C1 := Lib.hid (DueW mid W.out.A (w2_sz W))
          go_wp2_with fail
          refine C1.out.mono ?_
          clear C1
          rintro e w5 ⟨u1, v3, rfl, X, M, ow, O1⟩
          have W5 := w2_1 W M X
          obtain ⟨B1, hB1⟩ : ∃ B1, B1 = wr.heap.size := ⟨_, rfl⟩
          rw [← hB1] at O1
          have lo1 : a1 < B1 ∧ a2 < B1 ∧ (∀ g, v3.ownBlock = some g → g < B1) ∧ (∀ g, v2.ownBlock = some g → g < B1) := ⟨by have := W.out.A.out.lt.1; omega, by have := W.out.K.out.lt.1; omega, fun g hg => by rw [ow] at hg; have := W.out.A.out.lt.2 g hg; omega, fun g hg => by have := W.out.K.out.lt.2 g hg; omega⟩
          have hB15 : B1 ≤ w5.heap.size := by have := M.alt.size; omega
          replace hB1 : B ≤ B1 := by rw [hB1]; exact w2_sz W
          clear W X M ow
          have C1 := Lib.hid (DueW end1 W5.out.A (w2_sz W5))
          go_wp2_with fail
          refine C1.out.mono ?_
          clear C1
          rintro e w6 ⟨u2, v5, rfl, X, M, ow, O2⟩
          have W6 := w2_1 W5 M X
          obtain ⟨O1', D1⟩ := row_mov W5.out.A O1 (fun g hg z => by have := (own_lo O1 z).1; have := lo1.2.2.1 g hg; omega) M
          have lo2 : ∀ g, v5.ownBlock = some g → g < B1 := fun g hg => by rw [ow] at hg; exact lo1.2.2.1 g hg
          have hB16 : B1 ≤ w6.heap.size := by have := M.alt.size; omega
          clear W5 X M ow O1 hB15
          go_wp2_with (at_builtin; go_loud (refine append_rows w6 rfl _ _ 29 rfl 33 (by kernel_rfl) infoEntry B1 w5.heap.size u1 u2 _ _ rfl (by exact O1') rfl (by exact O2) (by exact len_due mid SL) (by exact len_due2 mid end1 SL) (by exact hB16) ?_))
          intro u3 w7 O3 hg
          try rw [ds1] at O3
          rw [ds2] at W6
          have k7 : Below B1 w6 w7 := (Below.refl B1 w6).grown hg hB16 (fun k hk => (own_lo O1' hk).1)
          have W7 : Hid (W2 w w7 B a1 v5 a2 v2 _ l S l) := Lib.hid ⟨W6.out.bel.trans (k7.mono hB1), W6.out.hB, wk_at W6.out.A k7 lo1.1 lo2, wk_at W6.out.K k7 lo1.2.1 lo1.2.2.2, W6.out.ne, W6.out.dv⟩
          clear W6 O1' O2 hg k7 ds1 ds2 D1
          have C1 := Lib.hid (DueW end1 W7.out.K (w2_sz W7))
          go_wp2_with fail
          refine C1.out.mono ?_
          clear C1
          rintro e w8 ⟨u4, v6, rfl, X, M, ow, O4⟩
          have W8 := w2_2 W7 M X
          obtain ⟨O3', D3⟩ := row_mov W7.out.K O3 (fun g hg z => by have := (own_lo O3 z).1; have := lo1.2.2.2 g hg; omega) M
          have CL1 := Lib.hid (LenW W8.out.A)
          have CL2 := Lib.hid (LenW W8.out.K)
          have DL : (dueS end1 S).length ≤ 1000 := len_due end1 SL
          have Z : Hid (Zz w w8 B B1 w7.heap.size u3 u4 (dueS end1 S)) := Lib.hid ⟨W8.out.bel, W8.out.hB, O3', O4⟩
          clear W7 W8 X M ow O3 O3' O4 D3 lo1 lo2 hB16 hB1 SL
          generalize w7.heap.size = B4 at Z
          generalize (rstS end1 S).length = rl at *
          generalize dueS end1 S = D at *
          obtain ⟨t3, q3, rfl⟩ := own_val Z.out.r3
          obtain ⟨t4, q4, rfl⟩ := own_val Z.out.r4
          have HD : Hid (D.length = D.length) := Lib.hid rfl
          obtain ⟨d, hd⟩ : ∃ d, D.length = d := ⟨_, rfl⟩
          replace HD := Lib.hid hd
          rw [hd] at Z DL ⊢
          clear hd
          go_wp2_with fail
          refine CL1.out.mono ?_
          rintro e w9 ⟨rfl, e9⟩
          cases e9
          go_wp2_with fail
          refine CL2.out.mono ?_
          rintro e w9 ⟨rfl, e9⟩
          cases e9
          clear CL1 CL2
          go_wp2_with fail
          go_loopw [12] (fun i wr => ∃ q : Nat, q ≤ d ∧ i = .int .i64 q ∧ Hid (Zz w wr B B1 B4 (.slice t3 d q3) (.slice t4 d q4) D)) (fun i _ => d - (intOf i).toNat)
          case atStart => exact ⟨0, by omega, rfl, Z⟩
          case round =>
            clear Z
            obtain ⟨q, hq, rfl, Z⟩ := hrel
            by_cases hl : q < d
            · obtain ⟨⟨x0, x1, x2⟩, hx⟩ : ∃ x, at_ D q = x := ⟨_, rfl⟩
              obtain ⟨g3, c3, e3, _, s0, s1, s2⟩ := row_at Z.out.r3 rfl q (by rw [HD.out]; exact hl) (Lib.hid hx)
              obtain ⟨g4, c4, e4, _, z0, z1, z2⟩ := row_at Z.out.r4 rfl q (by rw [HD.out]; exact hl) (Lib.hid hx)
              simp only [Value.slice.injEq] at e3 e4
              obtain ⟨rfl, -, rfl⟩ := e3
              obtain ⟨rfl, -, rfl⟩ := e4
              clear hx
              go_wp2_with fail
              go_quiet (fail)
              have Z := zz_next Z (below_drewN' (Below.refl _ _) nq)
              go_wp2_with fail
              go_roundw
              case rel => exact ⟨q + 1, by omega, by go_num, Z⟩
              case measure => simp [intOf]; omega
            · obtain rfl : q = d := by omega
              go_wp2_with fail
              refine (CW.out _).mono ?_
              rintro e w7 ⟨rfl, k7⟩
              go_wp2_with fail
              go_ret
              exact ⟨rfl, by have := Z.out.bel; rw [Z.out.hB] at this; exact below_next this k7⟩
      · by_cases hme : end1 < mid
        · skip
          go_wp2_with fail
          refine (CW.out _).mono ?_
          rintro e w7 ⟨rfl, k7⟩
          go_wp2_with fail
          go_ret
          exact ⟨rfl, by have := W.out.bel; rw [W.out.hB] at this; exact below_next this k7⟩
        · have hle : mid ≤ end1 := by omega
          clear hme
          have SL : S.length ≤ 1000 := wk_len W.out.A
          obtain ⟨ds1, ds2⟩ := due_split mid end1 hle S
          have C1 := Lib.hid (DueW mid W.out.A (w2_sz W))
          go_wp2_with fail
          refine C1.out.mono ?_
          clear C1
          rintro e w5 ⟨u1, v3, rfl, X, M, ow, O1⟩
          have W5 := w2_1 W M X
          obtain ⟨B1, hB1⟩ : ∃ B1, B1 = wr.heap.size := ⟨_, rfl⟩
          rw [← hB1] at O1
          have lo1 : a1 < B1 ∧ a2 < B1 ∧ (∀ g, v3.ownBlock = some g → g < B1) ∧ (∀ g, v2.ownBlock = some g → g < B1) := ⟨by have := W.out.A.out.lt.1; omega, by have := W.out.K.out.lt.1; omega, fun g hg => by rw [ow] at hg; have := W.out.A.out.lt.2 g hg; omega, fun g hg => by have := W.out.K.out.lt.2 g hg; omega⟩
          have hB15 : B1 ≤ w5.heap.size := by have := M.alt.size; omega
          replace hB1 : B ≤ B1 := by rw [hB1]; exact w2_sz W
          clear W X M ow
          have C1 := Lib.hid (DueW end1 W5.out.A (w2_sz W5))
          go_wp2_with fail
          refine C1.out.mono ?_
          clear C1
          rintro e w6 ⟨u2, v5, rfl, X, M, ow, O2⟩
          have W6 := w2_1 W5 M X
          obtain ⟨O1', D1⟩ := row_mov W5.out.A O1 (fun g hg z => by have := (own_lo O1 z).1; have := lo1.2.2.1 g hg; omega) M
          have lo2 : ∀ g, v5.ownBlock = some g → g < B1 := fun g hg => by rw [ow] at hg; exact lo1.2.2.1 g hg
          have hB16 : B1 ≤ w6.heap.size := by have := M.alt.size; omega
          clear W5 X M ow O1 hB15
          go_wp2_with (at_builtin; go_loud (refine append_rows w6 rfl _ _ 29 rfl 33 (by kernel_rfl) infoEntry B1 w5.heap.size u1 u2 _ _ rfl (by exact O1') rfl (by exact O2) (by exact len_due mid SL) (by exact len_due2 mid end1 SL) (by exact hB16) ?_))
          intro u3 w7 O3 hg
          try rw [ds1] at O3
          rw [ds2] at W6
          have k7 : Below B1 w6 w7 := (Below.refl B1 w6).grown hg hB16 (fun k hk => (own_lo O1' hk).1)
          have W7 : Hid (W2 w w7 B a1 v5 a2 v2 _ l S l) := Lib.hid ⟨W6.out.bel.trans (k7.mono hB1), W6.out.hB, wk_at W6.out.A k7 lo1.1 lo2, wk_at W6.out.K k7 lo1.2.1 lo1.2.2.2, W6.out.ne, W6.out.dv⟩
          clear W6 O1' O2 hg k7 ds1 ds2 D1
          have C1 := Lib.hid (DueW end1 W7.out.K (w2_sz W7))
          go_wp2_with fail
          refine C1.out.mono ?_
          clear C1
          rintro e w8 ⟨u4, v6, rfl, X, M, ow, O4⟩
          have W8 := w2_2 W7 M X
          obtain ⟨O3', D3⟩ := row_mov W7.out.K O3 (fun g hg z => by have := (own_lo O3 z).1; have := lo1.2.2.2 g hg; omega) M
          have CL1 := Lib.hid (LenW W8.out.A)
          have CL2 := Lib.hid (LenW W8.out.K)
          have DL : (dueS end1 S).length ≤ 1000 := len_due end1 SL
          have Z : Hid (Zz w w8 B B1 w7.heap.size u3 u4 (dueS end1 S)) := Lib.hid ⟨W8.out.bel, W8.out.hB, O3', O4⟩
          clear W7 W8 X M ow O3 O3' O4 D3 lo1 lo2 hB16 hB1 SL
          generalize w7.heap.size = B4 at Z
          generalize (rstS end1 S).length = rl at *
          generalize dueS end1 S = D at *
          obtain ⟨t3, q3, rfl⟩ := own_val Z.out.r3
          obtain ⟨t4, q4, rfl⟩ := own_val Z.out.r4
          have HD : Hid (D.length = D.length) := Lib.hid rfl
          obtain ⟨d, hd⟩ : ∃ d, D.length = d := ⟨_, rfl⟩
          replace HD := Lib.hid hd
          rw [hd] at Z DL ⊢
          clear hd
          go_wp2_with fail
          refine CL1.out.mono ?_
          rintro e w9 ⟨rfl, e9⟩
          cases e9
          go_wp2_with fail
          refine CL2.out.mono ?_
          rintro e w9 ⟨rfl, e9⟩
          cases e9
          clear CL1 CL2
          go_wp2_with fail
          go_loopw [12] (fun i wr => ∃ q : Nat, q ≤ d ∧ i = .int .i64 q ∧ Hid (Zz w wr B B1 B4 (.slice t3 d q3) (.slice t4 d q4) D)) (fun i _ => d - (intOf i).toNat)
          case atStart => exact ⟨0, by omega, rfl, Z⟩
          case round =>
            clear Z
            obtain ⟨q, hq, rfl, Z⟩ := hrel
            by_cases hl : q < d
            · obtain ⟨⟨x0, x1, x2⟩, hx⟩ : ∃ x, at_ D q = x := ⟨_, rfl⟩
              obtain ⟨g3, c3, e3, _, s0, s1, s2⟩ := row_at Z.out.r3 rfl q (by rw [HD.out]; exact hl) (Lib.hid hx)
              obtain ⟨g4, c4, e4, _, z0, z1, z2⟩ := row_at Z.out.r4 rfl q (by rw [HD.out]; exact hl) (Lib.hid hx)
              simp only [Value.slice.injEq] at e3 e4
              obtain ⟨rfl, -, rfl⟩ := e3
              obtain ⟨rfl, -, rfl⟩ := e4
              clear hx
              go_wp2_with fail
              go_quiet (fail)
              have Z := zz_next Z (below_drewN' (Below.refl _ _) nq)
              go_wp2_with fail
              go_roundw
              case rel => exact ⟨q + 1, by omega, by go_num, Z⟩
              case measure => simp [intOf]; omega
            · obtain rfl : q = d := by omega
              go_wp2_with fail
              refine (CW.out _).mono ?_
              rintro e w7 ⟨rfl, k7⟩
              go_wp2_with fail
              go_ret
              exact ⟨rfl, by have := Z.out.bel; rw [Z.out.hB] at this; exact below_next this k7⟩
end Go.Proofs.Ytlafeijkpnpdeaa.Agj

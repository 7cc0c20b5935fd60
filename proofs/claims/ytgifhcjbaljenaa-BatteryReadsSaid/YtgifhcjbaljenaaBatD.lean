/- The law of battery: Sums. -/
import Derived.Test.YtgifhcjbaljenaaBatC
import Derived.Test.YtgifhcjbaljenaaOpen
namespace Go.Proofs.Ytgifhcjbaljenaa.BatD
open Go.RowKit Base WideA WideB BatA BatB BatC
set_option linter.unusedVariables false
set_option linter.unusedSimpArgs false

theorem rd_eq {L S F : Int} (h0 : 0 ≤ L) (h1 : L ≤ F) (hF : 1 ≤ F) (hS : 1 ≤ S) (hS' : S ≤ 1000000) : rd L S F = L * S / F ∧ 0 ≤ L * S / F ∧ L * S / F ≤ S := by
  have a : 0 ≤ L * S := Int.mul_nonneg h0 (by omega)
  have b : L * S ≤ F * S := Int.mul_le_mul_of_nonneg_right h1 (by omega)
  have c : L * S / F ≤ S := by
    have := Int.ediv_le_ediv (show 0 < F by omega) b
    rw [Int.mul_ediv_cancel_left _ (by omega)] at this
    exact this
  have d : 0 ≤ L * S / F := Int.ediv_nonneg a (by omega)
  refine ⟨?_, d, c⟩
  unfold rd md mdQ
  rw [if_neg (by omega)]
  simp only [Bool.false_eq_true, if_false]
  rw [if_pos (by omega)]
theorem rd_mono {L M S F : Int} (h0 : 0 ≤ L) (h : L ≤ M) (h1 : M ≤ F) (hF : 1 ≤ F) (hS : 1 ≤ S) (hS' : S ≤ 1000000) : rd L S F ≤ rd M S F := by
  rw [(rd_eq h0 (by omega) hF hS hS').1, (rd_eq (L := M) (by omega) h1 hF hS hS').1]
  exact Int.ediv_le_ediv (by omega) (Int.mul_le_mul_of_nonneg_right h (by omega))
theorem rd_bd {L S F : Int} (h0 : 0 ≤ L) (h1 : L ≤ F) (hF : 1 ≤ F) (hS : 1 ≤ S) (hS' : S ≤ 1000000) : 0 ≤ rd L S F ∧ rd L S F ≤ S := by
  obtain ⟨e, a, b⟩ := rd_eq h0 h1 hF hS hS'; omega
theorem got_bd {n L : Int} (h : 0 ≤ L) : 0 ≤ got n L ∧ got n L ≤ L := by unfold got; (repeat' split) <;> omega
theorem fill_bd {n F L : Int} (h : 0 ≤ L) (h1 : L ≤ F) : 0 ≤ fill n F L ∧ fill n F L ≤ F - L := by unfold fill; (repeat' split) <;> omega
theorem want_bd {n L W : Int} (h : 0 ≤ L) (hW : 0 ≤ W ∧ W ≤ 1152921504606846976) : 0 ≤ want n L W ∧ want n L W ≤ 1152921504606846976 := by
  have := got_bd (n := n) h
  unfold want; split
  · omega
  · have : n - got n L ≥ 0 := by unfold got; (repeat' split) <;> omega
    split <;> omega

theorem sums_bad (F F0 S : Int) (a : Option Addr) (n cap : Nat) (w : World) (hb : bad F F0 S) :
    Calls Try.prog 9 #[.agg #[.int .i64 F, .int .i64 F0, .int .i64 S], .slice a n cap] w fun e w' => e = .returned (.bool true) ∧ Below w.heap.size w w' := by
  have C1 := Lib.hid (fun w => of_any F F0 S w)
  have C2 := Lib.hid (fun w => new_bad F F0 S w hb)
  have C3 := fun w => checkr_any F F0 S w
  rw [show chk F F0 S = 2 from by unfold chk; rw [if_pos hb]] at C3
  have C3 := Lib.hid C3
  clear hb
  go_enter Try.func9, Try.ntmps9
  go_wp2_with fail
  refine (C1.out _).mono ?_
  rintro e1 w1 ⟨rfl, hb1⟩
  have o0 := ((show Cell _ w.heap.size 0 (.int .i64 F) from ⟨by go_simp, by go_simp⟩ : Cell (w.alloc (Obj.cells #[Value.int IntKind.i64 F, Value.int IntKind.i64 F0, Value.int IntKind.i64 S] 42)) _ _ _).below hb1 (by simp)).1
  have o1 := ((show Cell _ w.heap.size 1 (.int .i64 F0) from ⟨by go_simp, by go_simp⟩ : Cell (w.alloc (Obj.cells #[Value.int IntKind.i64 F, Value.int IntKind.i64 F0, Value.int IntKind.i64 S] 42)) _ _ _).below hb1 (by simp)).1
  have o2 := ((show Cell _ w.heap.size 2 (.int .i64 S) from ⟨by go_simp, by go_simp⟩ : Cell (w.alloc (Obj.cells #[Value.int IntKind.i64 F, Value.int IntKind.i64 F0, Value.int IntKind.i64 S] 42)) _ _ _).below hb1 (by simp)).1
  have hz1 : w.heap.size < w1.heap.size := by have := hb1.size; simp at this; omega
  have HB := Lib.hid (((Below.refl w.heap.size w).alloc (Nat.le_refl _) _).trans (hb1.mono (by simp)))
  clear hb1
  go_wp2_with fail
  refine (C2.out _).mono ?_
  rintro e1 w2 ⟨rfl, hb2⟩
  have o0 := keep hb2 o0 (by first | (simp; done) | (simp; omega))
  have o1 := keep hb2 o1 (by first | (simp; done) | (simp; omega))
  have o2 := keep hb2 o2 (by first | (simp; done) | (simp; omega))
  have hz2 : w.heap.size < w2.heap.size := Nat.lt_of_lt_of_le hz1 hb2.size
  have HB := Lib.hid (HB.out.trans (hb2.mono (Nat.le_of_lt hz1)))
  clear hb2
  go_wp2_with fail
  refine (C3.out _).mono ?_
  rintro e1 w3 ⟨rfl, hb2⟩
  have o0 := keep hb2 o0 (by first | (simp; done) | (simp; omega))
  have o1 := keep hb2 o1 (by first | (simp; done) | (simp; omega))
  have o2 := keep hb2 o2 (by first | (simp; done) | (simp; omega))
  have hz3 : w.heap.size < w3.heap.size := Nat.lt_of_lt_of_le hz2 hb2.size
  have HB := Lib.hid (HB.out.trans (hb2.mono (Nat.le_of_lt hz2)))
  clear hb2
  go_wp2_with fail
  refine (works_any _).mono ?_
  rintro e1 w7 ⟨rfl, hb7⟩
  go_wp2_with fail
  go_ret
  exact ⟨rfl, HB.out.trans (hb7.mono (Nat.le_of_lt (by omega)))⟩

set_option maxRecDepth 100000 in
set_option maxHeartbeats 8000000 in
theorem sums_good (F F0 S : Int) (bb off n cap : Nat) (f : Nat → Nat → Int) (w : World) (hb : ¬ bad F F0 S) (hn : n ≤ 9223372036854775807) (hlt : bb < w.heap.size)
    (hc : Hid (∀ i, i < n → ∀ j, j < 2 → w.cell? ⟨bb, off + (i * 2 + j), none⟩ = some (.int .i64 (f i j)))) (hf : Hid (∀ i, i < n → ∀ j, j < 2 → -9223372036854775808 ≤ f i j ∧ f i j ≤ 9223372036854775807)) :
    Calls Try.prog 9 #[.agg #[.int .i64 F, .int .i64 F0, .int .i64 S], .slice (some ⟨bb, off, none⟩) n cap] w fun e w' => e = .returned (.bool true) ∧ Below w.heap.size w w' := by
  have C1 := Lib.hid (fun w => of_any F F0 S w)
  have C2 := Lib.hid (fun w => new_good F F0 S w hb)
  obtain ⟨g1, g2, g3, g4, g5, g6⟩ := good hb
  have CR := Lib.hid (fun w b (L W : Int) (hL : 0 ≤ L ∧ L ≤ F) (h : Bat w b F F0 S L W) => reading_any w b F F0 S L W h (by unfold I64; omega) (by unfold I64; omega) (by unfold I64; omega))
  obtain ⟨r1, r2⟩ := rd_bd (L := F0) g3 g4 g1 g5 g6
  have HR0 := Lib.hid (show rd F0 S F = rd F0 S F from rfl)
  obtain ⟨r0, hr0⟩ : ∃ r0, rd F0 S F = r0 := ⟨_, rfl⟩
  have CR0 := fun w b h => CR.out w b F0 0 (by omega) h
  rw [hr0] at CR0 r1 r2
  have CR0 := Lib.hid CR0
  have HR := Lib.hid hr0
  clear hb hr0 HR0
  go_enter Try.func9, Try.ntmps9
  go_wp2_with fail
  refine (C1.out _).mono ?_
  rintro e1 w1 ⟨rfl, hb1⟩
  have o0 := ((show Cell _ w.heap.size 0 (.int .i64 F) from ⟨by go_simp, by go_simp⟩ : Cell (w.alloc (Obj.cells #[Value.int IntKind.i64 F, Value.int IntKind.i64 F0, Value.int IntKind.i64 S] 42)) _ _ _).below hb1 (by simp)).1
  have o1 := ((show Cell _ w.heap.size 1 (.int .i64 F0) from ⟨by go_simp, by go_simp⟩ : Cell (w.alloc (Obj.cells #[Value.int IntKind.i64 F, Value.int IntKind.i64 F0, Value.int IntKind.i64 S] 42)) _ _ _).below hb1 (by simp)).1
  have o2 := ((show Cell _ w.heap.size 2 (.int .i64 S) from ⟨by go_simp, by go_simp⟩ : Cell (w.alloc (Obj.cells #[Value.int IntKind.i64 F, Value.int IntKind.i64 F0, Value.int IntKind.i64 S] 42)) _ _ _).below hb1 (by simp)).1
  have hz1 : w.heap.size < w1.heap.size := by have := hb1.size; simp at this; omega
  have HB := Lib.hid (((Below.refl w.heap.size w).alloc (Nat.le_refl _) _).trans (hb1.mono (by simp)))
  clear hb1
  go_wp2_with fail
  refine (C2.out _).mono ?_
  rintro e1 w2 ⟨b, rfl, hb2, hbl, hbat⟩
  have o0 := keep hb2 o0 (by first | (simp; done) | (simp; omega))
  have o1 := keep hb2 o1 (by first | (simp; done) | (simp; omega))
  have o2 := keep hb2 o2 (by first | (simp; done) | (simp; omega))
  have hz2 : w.heap.size < w2.heap.size := Nat.lt_of_lt_of_le hz1 hb2.size
  have HB := Lib.hid (HB.out.trans (hb2.mono (Nat.le_of_lt hz1)))
  clear hb2
  have HT := Lib.hid hbat
  have hbl : w.heap.size < b := by omega
  clear hbat C1 C2
  go_wp2_with fail
  go_region_held3 (fun w' => (w'.cell? ⟨w.heap.size, 1, none⟩ = some (.int .i64 F0)))
    (first
      | exact o1
      | go_keep
      | (go_split_ands; exact keep' hb5 (by assumption)))
    (first
      | (go_at_call 34; refine (CR0.out _ b (by exact HT.out)).mono ?_; rintro e1 w5 ⟨rfl, hb5⟩))
  have HT := Lib.hid (Bat.below (w := w2.drew) (by exact HT.out) hb5)
  have HB := Lib.hid ((show Below w.heap.size w w2.drew from HB.out.drew).trans (hb5.mono (Nat.le_of_lt hz2)))
  have p0 := keep' (w1 := w5) hb5 (show w2.drew.cell? ⟨w.heap.size, 0, none⟩ = _ from o0)
  have p2 := keep' (w1 := w5) hb5 (show w2.drew.cell? ⟨w.heap.size, 2, none⟩ = _ from o2)
  have hz5 : w.heap.size < w5.heap.size := Nat.lt_of_lt_of_le hz2 hb5.size
  have HP := Lib.hid (show w5.cell? ⟨w.heap.size, 0, none⟩ = some (.int .i64 F) ∧ w5.cell? ⟨w.heap.size, 2, none⟩ = some (.int .i64 S) from ⟨p0, p2⟩)
  clear p0 p2 o0 o1 o2 hb5 CR0
  go_wp2_with fail
  go_loopw [7, 8, 9, 10] (fun l la r i wr => ∃ (k : Nat) (L W rr : Int), k ≤ n ∧ i = .int .i64 k ∧ l = .int .i64 L ∧ la = .int .i64 L ∧ r = .int .i64 rr ∧ 0 ≤ L ∧ L ≤ F ∧ 0 ≤ W ∧ W ≤ 1152921504606846976 ∧ Hid (rd L S F = rr) ∧ Hid (Bat wr b F F0 S L W) ∧ Hid (Below w.heap.size w wr) ∧ Hid (wr.cell? ⟨w.heap.size, 0, none⟩ = some (.int .i64 F) ∧ wr.cell? ⟨w.heap.size, 2, none⟩ = some (.int .i64 S)) ∧ w.heap.size < wr.heap.size) (fun _ _ _ i _ => n - (intOf i).toNat)
  case atStart => exact ⟨0, F0, 0, r0, by omega, rfl, rfl, rfl, rfl, by omega, by omega, by omega, by omega, HR, HT, HB, HP, hz5⟩
  case round =>
    clear HT HB HP HR
    obtain ⟨k, L, W, rr, hk, rfl, rfl, rfl, rfl, l0, l1, q0, q1, HR, HT, HB, HP, hzr⟩ := hrel
    by_cases hlt1 : k < n
    · by_cases hlt2 : k < 100
      · have hc0 : wr.cell? ⟨bb, off + k * 2, none⟩ = some (.int .i64 (f k 0)) := keep HB.out (hc.out k hlt1 0 (by omega)) hlt
        have hc1 : wr.cell? ⟨bb, off + k * 2 + 1, none⟩ = some (.int .i64 (f k 1)) := keep HB.out (hc.out k hlt1 1 (by omega)) hlt
        obtain ⟨m, hm⟩ : ∃ m, f k 1 = m := ⟨_, rfl⟩
        have hmI : I64 m := by rw [← hm]; exact hf.out k hlt1 1 (by omega)
        rw [hm] at hc1
        clear hm
        obtain ⟨dd, hdd⟩ : ∃ dd, f k 0 = dd := ⟨_, rfl⟩
        rw [hdd] at hc0
        clear hdd
        have HR0 := HR
        by_cases hd : dd = 0
        · subst hd
          have CA := take_any wr b F F0 S L W m HT.out hmI ⟨l0, by omega⟩ ⟨q0, q1⟩
          have gb := got_bd (n := m) l0
          obtain ⟨g, hg⟩ : ∃ g, got m L = g := ⟨_, rfl⟩
          rw [hg] at CA gb
          have wb := want_bd (n := m) l0 ⟨q0, q1⟩
          obtain ⟨W2, hW2⟩ : ∃ W2, want m L W = W2 := ⟨_, rfl⟩
          rw [hW2] at CA wb
          obtain ⟨x1, x2⟩ := rd_bd (L := L - g) (S := S) (F := F) (by omega) (by omega) g1 g5 g6
          have mono := rd_mono (L := L - g) (M := L) (by omega) (by omega) l1 g1 g5 g6
          obtain ⟨r2, hr2⟩ : ∃ r2, rd (L - g) S F = r2 := ⟨_, rfl⟩
          rw [hr2] at x1 x2 mono
          rw [HR.out] at mono
          have CL := Lib.hid (fun w h => level_any w b F F0 S (L - g) W2 h)
          have CR2 := fun w h => CR.out w b (L - g) W2 (by omega) h
          rw [hr2] at CR2
          have CR2 := Lib.hid CR2
          have HR2 := Lib.hid hr2
          have CA := Lib.hid CA
          obtain ⟨y1, y2⟩ : 0 ≤ L - g ∧ L - g ≤ F := by omega
          clear hg hW2 hr2 HR CR hmI
          go_wp2_with fail
          refine CA.out.mono ?_
          rintro e1 w3 ⟨rfl, hgr, hbt⟩
          have HT3 := Lib.hid hbt
          have HB3 := Lib.hid (fromGrown HB.out hgr (Nat.le_of_lt hzr) (Nat.le_of_lt hbl))
          have HP3 := Lib.hid (show w3.cell? ⟨w.heap.size, 0, none⟩ = some (.int .i64 F) ∧ w3.cell? ⟨w.heap.size, 2, none⟩ = some (.int .i64 S) from ⟨hgr.cell HP.out.1 (by simp; omega), hgr.cell HP.out.2 (by simp; omega)⟩)
          have hz3 : w.heap.size < w3.heap.size := Nat.lt_of_lt_of_le hzr hgr.size
          clear hgr hbt CA HT HB HP hc0 hc1
          go_wp2_with fail
          refine (CR2.out _ HT3.out).mono ?_
          rintro e1 w4 ⟨rfl, hb4⟩
          have HT4 := Lib.hid (Bat.below HT3.out hb4)
          have HB4 := Lib.hid (HB3.out.trans (hb4.mono (Nat.le_of_lt hz3)))
          have p0 := keep' hb4 HP3.out.1
          have p2 := keep' hb4 HP3.out.2
          have HP4 := Lib.hid (And.intro p0 p2)
          have hz4 : w.heap.size < w4.heap.size := Nat.lt_of_lt_of_le hz3 hb4.size
          clear hb4 HT3 HB3 HP3 CR2
          go_wp2_with fail
          refine (CL.out _ HT4.out).mono ?_
          rintro e1 w5' ⟨rfl, rfl⟩
          clear CL
          rcases Int.lt_trichotomy g 0 with hgl | hgl | hgl
          · exfalso; omega
          · subst hgl
            have m0 : r2 = rr := by have h9 := HR2.out; rw [show (L - 0) = L from by omega, HR0.out] at h9; omega
            subst m0
            go_wp2_with fail
            go_roundw
            case rel => exact ⟨k + 1, L, W2, r2, by omega, by go_num, rfl, rfl, rfl, l0, l1, wb.1, wb.2, HR0, Bat_eq HT4.out (by omega) rfl, HB4, HP4, hz4⟩
            case measure => simp [intOf]; omega
          · go_wp2_with fail
            go_roundw
            case rel => exact ⟨k + 1, (L - g), W2, r2, by omega, by go_num, rfl, rfl, rfl, y1, y2, wb.1, wb.2, HR2, HT4, HB4, HP4, hz4⟩
            case measure => simp [intOf]; omega
        · have hdb : (dd == 0) = false := by simp [hd]
          have CA := fill_any wr b F F0 S L W m HT.out hmI ⟨l0, l1⟩ g2
          have gb := fill_bd (n := m) l0 l1
          obtain ⟨g, hg⟩ : ∃ g, fill m F L = g := ⟨_, rfl⟩
          rw [hg] at CA gb
          have wb : 0 ≤ W ∧ W ≤ 1152921504606846976 := ⟨q0, q1⟩
          obtain ⟨W2, hW2⟩ : ∃ W2, W = W2 := ⟨_, rfl⟩
          rw [hW2] at CA wb
          obtain ⟨x1, x2⟩ := rd_bd (L := L + g) (S := S) (F := F) (by omega) (by omega) g1 g5 g6
          have mono := rd_mono (L := L) (M := L + g) l0 (by omega) (by omega) g1 g5 g6
          obtain ⟨r2, hr2⟩ : ∃ r2, rd (L + g) S F = r2 := ⟨_, rfl⟩
          rw [hr2] at x1 x2 mono
          rw [HR.out] at mono
          have CL := Lib.hid (fun w h => level_any w b F F0 S (L + g) W2 h)
          have CR2 := fun w h => CR.out w b (L + g) W2 (by omega) h
          rw [hr2] at CR2
          have CR2 := Lib.hid CR2
          have HR2 := Lib.hid hr2
          have CA := Lib.hid CA
          obtain ⟨y1, y2⟩ : 0 ≤ L + g ∧ L + g ≤ F := by omega
          clear hg hW2 hr2 HR CR hmI
          go_wp2_with fail
          refine CA.out.mono ?_
          rintro e1 w3 ⟨rfl, hgr, hbt⟩
          have HT3 := Lib.hid hbt
          have HB3 := Lib.hid (fromGrown HB.out hgr (Nat.le_of_lt hzr) (Nat.le_of_lt hbl))
          have HP3 := Lib.hid (show w3.cell? ⟨w.heap.size, 0, none⟩ = some (.int .i64 F) ∧ w3.cell? ⟨w.heap.size, 2, none⟩ = some (.int .i64 S) from ⟨hgr.cell HP.out.1 (by simp; omega), hgr.cell HP.out.2 (by simp; omega)⟩)
          have hz3 : w.heap.size < w3.heap.size := Nat.lt_of_lt_of_le hzr hgr.size
          clear hgr hbt CA HT HB HP hc0 hc1
          go_wp2_with fail
          refine (CR2.out _ HT3.out).mono ?_
          rintro e1 w4 ⟨rfl, hb4⟩
          have HT4 := Lib.hid (Bat.below HT3.out hb4)
          have HB4 := Lib.hid (HB3.out.trans (hb4.mono (Nat.le_of_lt hz3)))
          have p0 := keep' hb4 HP3.out.1
          have p2 := keep' hb4 HP3.out.2
          have HP4 := Lib.hid (And.intro p0 p2)
          have hz4 : w.heap.size < w4.heap.size := Nat.lt_of_lt_of_le hz3 hb4.size
          clear hb4 HT3 HB3 HP3 CR2
          go_wp2_with fail
          refine (CL.out _ HT4.out).mono ?_
          rintro e1 w5' ⟨rfl, rfl⟩
          clear CL
          rcases Int.lt_trichotomy g 0 with hgl | hgl | hgl
          · exfalso; omega
          · subst hgl
            have m0 : r2 = rr := by have h9 := HR2.out; rw [show (L + 0) = L from by omega, HR0.out] at h9; omega
            subst m0
            go_wp2_with fail
            go_roundw
            case rel => exact ⟨k + 1, L, W2, r2, by omega, by go_num, rfl, rfl, rfl, l0, l1, wb.1, wb.2, HR0, Bat_eq HT4.out (by omega) rfl, HB4, HP4, hz4⟩
            case measure => simp [intOf]; omega
          · go_wp2_with fail
            go_roundw
            case rel => exact ⟨k + 1, (L + g), W2, r2, by omega, by go_num, rfl, rfl, rfl, y1, y2, wb.1, wb.2, HR2, HT4, HB4, HP4, hz4⟩
            case measure => simp [intOf]; omega
      · go_wp2_with fail
        refine (works_any _).mono ?_
        rintro e1 w7 ⟨rfl, hb7⟩
        go_wp2_with fail
        go_ret
        exact ⟨rfl, HB.out.trans (hb7.mono (Nat.le_of_lt (by omega)))⟩
    · go_wp2_with fail
      refine (works_any _).mono ?_
      rintro e1 w7 ⟨rfl, hb7⟩
      go_wp2_with fail
      go_ret
      exact ⟨rfl, HB.out.trans (hb7.mono (Nat.le_of_lt (by omega)))⟩

end Go.Proofs.Ytgifhcjbaljenaa.BatD

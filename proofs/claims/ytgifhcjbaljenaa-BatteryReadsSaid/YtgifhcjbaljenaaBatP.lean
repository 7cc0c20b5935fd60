/- The law of battery: Plays. -/
import Derived.Test.YtgifhcjbaljenaaBatD
import Derived.Test.YtgifhcjbaljenaaBatR
import Derived.Test.YtgifhcjbaljenaaOpen
namespace Go.Proofs.Ytgifhcjbaljenaa.BatP
open Go.RowKit Base WideA WideB BatA BatB BatC BatD BatR
set_option linter.unusedVariables false
set_option linter.unusedSimpArgs false

theorem Ref.below {w w1 : World} {b : Nat} {F F0 S L W : Int} (h : Ref w b F F0 S L W) (hb : Below w.heap.size w w1) : Ref w1 b F F0 S L W := by
  unfold Ref; rw [hb.block b h.cells.2.2.2.2.2.2]; exact h
/-- both batteries in memory -/
structure Duo (w0 w : World) (b r : Nat) (F F0 S L L' W W' : Int) : Prop where
  bel : Below w0.heap.size w0 w
  hb : w0.heap.size ≤ b
  hr : w0.heap.size ≤ r
  ne : b ≠ r
  bat : Bat w b F F0 S L W
  ref : Ref w r F F0 S L' W'
theorem Duo.drew {w0 w : World} {b r : Nat} {F F0 S L L' W W' : Int} (h : Duo w0 w b r F F0 S L L' W W') : Duo w0 w.drew b r F F0 S L L' W W' :=
  ⟨h.bel.drew, h.hb, h.hr, h.ne, h.bat, h.ref⟩
theorem Duo.below {w0 w w1 : World} {b r : Nat} {F F0 S L L' W W' : Int} (h : Duo w0 w b r F F0 S L L' W W') (k : Below w.heap.size w w1) : Duo w0 w1 b r F F0 S L L' W W' :=
  ⟨h.bel.trans (k.mono h.bel.size), h.hb, h.hr, h.ne, Bat.below h.bat k, Ref.below h.ref k⟩
theorem Duo.setB {w0 w w1 : World} {b r : Nat} {F F0 S L L' W W' L2 W2 : Int} (h : Duo w0 w b r F F0 S L L' W W') (k : w.grownBy w1 (some b)) (t : Bat w1 b F F0 S L2 W2) : Duo w0 w1 b r F F0 S L2 L' W2 W' :=
  ⟨fromGrown h.bel k h.bel.size h.hb, h.hb, h.hr, h.ne, t, by unfold Ref; rw [k.block r h.ref.cells.2.2.2.2.2.2 (fun e => h.ne (Option.some.inj e).symm)]; exact h.ref⟩
theorem Duo.setR {w0 w w1 : World} {b r : Nat} {F F0 S L L' W W' L2 W2 : Int} (h : Duo w0 w b r F F0 S L L' W W') (k : w.grownBy w1 (some r)) (t : Ref w1 r F F0 S L2 W2) : Duo w0 w1 b r F F0 S L L2 W W2 :=
  ⟨fromGrown h.bel k h.bel.size h.hr, h.hb, h.hr, h.ne, by unfold Bat; rw [k.block b h.bat.cells.2.2.2.2.2.2.2 (fun e => h.ne (Option.some.inj e))]; exact h.bat, t⟩

theorem below_hid {w0 w w1 : World} (h : Hid (Below w0.heap.size w0 w)) (k : Below w.heap.size w w1) : Hid (Below w0.heap.size w0 w1) := Lib.hid (h.out.trans (k.mono h.out.size))
theorem plays_bad (F F0 S : Int) (a : Option Addr) (n cap : Nat) (w : World) (hb : bad F F0 S) :
    Calls Try.prog 8 #[.agg #[.int .i64 F, .int .i64 F0, .int .i64 S], .slice a n cap] w fun e w' => e = .returned (.bool true) ∧ Below w.heap.size w w' := by
  have C1 := Lib.hid (fun w => of_any F F0 S w)
  have C2 := Lib.hid (fun w => new_bad F F0 S w hb)
  have C3 := fun w => checkr_any F F0 S w
  have C4 := fun w => check_any F F0 S w
  rw [show chk F F0 S = 2 from by unfold chk; rw [if_pos hb]] at C3 C4
  have C3 := Lib.hid C3
  have C4 := Lib.hid C4
  clear hb
  go_enter Try.func8, Try.ntmps8
  go_wp2_with fail
  refine (C1.out _).mono ?_
  rintro e1 w1 ⟨rfl, hb1⟩
  have o0 := ((show Cell _ w.heap.size 0 (.int .i64 F) from ⟨by go_simp, by go_simp⟩ : Cell (w.alloc (Obj.cells #[Value.int IntKind.i64 F, Value.int IntKind.i64 F0, Value.int IntKind.i64 S] 42)) _ _ _).below hb1 (by simp)).1
  have o1 := ((show Cell _ w.heap.size 1 (.int .i64 F0) from ⟨by go_simp, by go_simp⟩ : Cell (w.alloc (Obj.cells #[Value.int IntKind.i64 F, Value.int IntKind.i64 F0, Value.int IntKind.i64 S] 42)) _ _ _).below hb1 (by simp)).1
  have o2 := ((show Cell _ w.heap.size 2 (.int .i64 S) from ⟨by go_simp, by go_simp⟩ : Cell (w.alloc (Obj.cells #[Value.int IntKind.i64 F, Value.int IntKind.i64 F0, Value.int IntKind.i64 S] 42)) _ _ _).below hb1 (by simp)).1
  have hz1 : w.heap.size < w1.heap.size := by have := hb1.size; simp at this; omega
  have HB := Lib.hid (((Below.refl w.heap.size w).alloc (Nat.le_refl _) _).trans (hb1.mono (by simp)))
  clear hb1
  go_wp2_with fail
  refine (C2.out _).mono ?_
  rintro e1 w2 ⟨rfl, hb2⟩
  have o0 := keep hb2 o0 (by first | (simp; done) | (simp; omega))
  have o1 := keep hb2 o1 (by first | (simp; done) | (simp; omega))
  have o2 := keep hb2 o2 (by first | (simp; done) | (simp; omega))
  have hz2 : w.heap.size < w2.heap.size := Nat.lt_of_lt_of_le hz1 hb2.size
  have HB := Lib.hid (HB.out.trans (hb2.mono (Nat.le_of_lt hz1)))
  clear hb2
  go_wp2_with fail
  have HB : Hid (Below w.heap.size w w2.drew) := Lib.hid HB.out.drew
  go_region_held3 (fun w' => (w'.cell? ⟨w.heap.size, 0, none⟩ = some (.int .i64 F) ∧ w'.cell? ⟨w.heap.size, 1, none⟩ = some (.int .i64 F0) ∧ w'.cell? ⟨w.heap.size, 2, none⟩ = some (.int .i64 S) ∧ Hid (Below w.heap.size w w')))
    (first
      | exact ⟨o0, o1, o2, HB⟩
      | (go_split_ands; refine ⟨?_, ?_, ?_, ?_⟩ <;> first | assumption | exact keep' hb5 (by assumption) | exact below_hid (by assumption) hb5))
    (first
      | (go_at_call 25; refine (C3.out _).mono ?_; rintro e1 w5 ⟨rfl, hb5⟩)
      | (go_at_call 24; refine (C1.out _).mono ?_; rintro e1 w5 ⟨rfl, hb5⟩)
      | (go_at_call 26; refine (C4.out _).mono ?_; rintro e1 w5 ⟨rfl, hb5⟩)
      | (go_at_call 27; refine (works_any _).mono ?_; rintro e1 w5 ⟨rfl, hb5⟩))
  rename_i hH
  obtain ⟨o0, o1, o2, HB⟩ := hH
  go_wp2_with fail
  go_ret
  exact ⟨rfl, HB.out⟩
theorem bat_hid {w0 w w1 : World} {b : Nat} {F F0 S L W : Int} (h : Hid (Below w0.heap.size w0 w ∧ Bat w b F F0 S L W)) (k : Below w.heap.size w w1) : Hid (Below w0.heap.size w0 w1 ∧ Bat w1 b F F0 S L W) := Lib.hid ⟨h.out.1.trans (k.mono h.out.1.size), Bat.below h.out.2 k⟩

theorem duo_take {w0 w : World} {b r : Nat} {F F0 S L L' W W' n g L2 W2 : Int} (h : Hid (Duo w0 w b r F F0 S L L' W W')) (hn : I64 n) (hL : 0 ≤ L ∧ L ≤ 1152921504606846976) (hW : 0 ≤ W ∧ W ≤ 1152921504606846976)
    (e1 : got n L = g) (e2 : L - got n L = L2) (e3 : want n L W = W2) :
    Calls Try.prog 28 #[.pointer (some ⟨b, 0, none⟩), .int .i64 n] w fun e w' => e = .returned (.int .i64 g) ∧ Hid (Duo w0 w' b r F F0 S L2 L' W2 W') := by
  subst e1 e2 e3
  exact (BatA.take_any w b F F0 S L W n h.out.bat hn hL hW).mono fun e w' hh => ⟨hh.1, Lib.hid (h.out.setB hh.2.1 hh.2.2)⟩
theorem duo_takeR {w0 w : World} {b r : Nat} {F F0 S L L' W W' n g L2 W2 : Int} (h : Hid (Duo w0 w b r F F0 S L' L W' W)) (hn : I64 n) (hL : 0 ≤ L ∧ L ≤ 1152921504606846976) (hW : 0 ≤ W ∧ W ≤ 1152921504606846976)
    (e1 : got n L = g) (e2 : L - got n L = L2) (e3 : want n L W = W2) :
    Calls Try.prog 29 #[.pointer (some ⟨r, 0, none⟩), .int .i64 n] w fun e w' => e = .returned (.int .i64 g) ∧ Hid (Duo w0 w' b r F F0 S L' L2 W' W2) := by
  subst e1 e2 e3
  exact (BatR.take_any w r F F0 S L W n h.out.ref hn hL hW).mono fun e w' hh => ⟨hh.1, Lib.hid (h.out.setR hh.2.1 hh.2.2)⟩
theorem duo_fill {w0 w : World} {b r : Nat} {F F0 S L L' W W' n g L2 : Int} (h : Hid (Duo w0 w b r F F0 S L L' W W')) (hn : I64 n) (hL : 0 ≤ L ∧ L ≤ F) (hF : F ≤ 1152921504606846976)
    (e1 : fill n F L = g) (e2 : L + fill n F L = L2) :
    Calls Try.prog 30 #[.pointer (some ⟨b, 0, none⟩), .int .i64 n] w fun e w' => e = .returned (.int .i64 g) ∧ Hid (Duo w0 w' b r F F0 S L2 L' W W') := by
  subst e1 e2
  exact (BatA.fill_any w b F F0 S L W n h.out.bat hn hL hF).mono fun e w' hh => ⟨hh.1, Lib.hid (h.out.setB hh.2.1 hh.2.2)⟩
theorem duo_fillR {w0 w : World} {b r : Nat} {F F0 S L L' W W' n g L2 : Int} (h : Hid (Duo w0 w b r F F0 S L' L W' W)) (hn : I64 n) (hL : 0 ≤ L ∧ L ≤ F) (hF : F ≤ 1152921504606846976)
    (e1 : fill n F L = g) (e2 : L + fill n F L = L2) :
    Calls Try.prog 31 #[.pointer (some ⟨r, 0, none⟩), .int .i64 n] w fun e w' => e = .returned (.int .i64 g) ∧ Hid (Duo w0 w' b r F F0 S L' L2 W' W) := by
  subst e1 e2
  exact (BatR.fill_any w r F F0 S L W n h.out.ref hn hL hF).mono fun e w' hh => ⟨hh.1, Lib.hid (h.out.setR hh.2.1 hh.2.2)⟩
theorem duo_c3 {w0 w : World} {b r : Nat} {F F0 S L L' W W' : Int} (h : Hid (Duo w0 w b r F F0 S L L' W W')) : w.cell? ⟨r, 3, none⟩ = some (.int .i64 L') := h.out.ref.cells.2.2.2.1
theorem duo_c4 {w0 w : World} {b r : Nat} {F F0 S L L' W W' : Int} (h : Hid (Duo w0 w b r F F0 S L L' W W')) : w.cell? ⟨r, 4, none⟩ = some (.int .i64 W') := h.out.ref.cells.2.2.2.2.1
theorem take_bd {n L W : Int} (l0 : 0 ≤ L) (l1 : L ≤ 1152921504606846976) (q0 : 0 ≤ W) (q1 : W ≤ 1152921504606846976) : 0 ≤ L - got n L ∧ L - got n L ≤ L ∧ 0 ≤ want n L W ∧ want n L W ≤ 1152921504606846976 := by
  unfold want got; (repeat' split) <;> omega
theorem fill_bd {n F L : Int} (l0 : 0 ≤ L) (l1 : L ≤ F) : 0 ≤ L + fill n F L ∧ L + fill n F L ≤ F := by
  unfold fill; (repeat' split) <;> omega

set_option maxRecDepth 100000 in
set_option maxHeartbeats 8000000 in
theorem plays_good (F F0 S : Int) (a : Option Addr) (n cap : Nat) (f : Nat → Nat → Int) (w : World) (hb : ¬ bad F F0 S) (hin : Hid (Open.RowsIn w a n 2 f)) :
    Calls Try.prog 8 #[.agg #[.int .i64 F, .int .i64 F0, .int .i64 S], .slice a n cap] w fun e w' => e = .returned (.bool true) ∧ Below w.heap.size w w' := by
  have C1 := Lib.hid (fun w => of_any F F0 S w)
  have C2 := Lib.hid (fun w => new_good F F0 S w hb)
  have C3 := fun w => checkr_any F F0 S w
  have C4 := fun w => check_any F F0 S w
  rw [show chk F F0 S = 0 from by unfold chk; rw [if_neg hb]] at C3 C4
  have C3 := Lib.hid C3
  have C4 := Lib.hid C4
  obtain ⟨g1, g2, g3, g4, g5, g6⟩ := good hb
  have hn := hin.out.1
  have CL := Lib.hid (fun w w0 b r (L W : Int) (h : Hid (Duo w0 w b r F F0 S L L W W)) => (level_any w b F F0 S L W h.out.bat).mono (fun e w' hh => (⟨hh.1, by rw [← hh.2]; exact h⟩ : e = _ ∧ Hid (Duo w0 w' b r F F0 S L L W W))))
  have CE := Lib.hid (fun w w0 b r (L W : Int) (h : Hid (Duo w0 w b r F F0 S L L W W)) => (empty_any w b F F0 S L W h.out.bat).mono (fun e w' hh => (⟨hh.1, by rw [← hh.2]; exact h⟩ : e = _ ∧ Hid (Duo w0 w' b r F F0 S L L W W))))
  have CR := Lib.hid (fun w w0 b r (L W : Int) (hL : 0 ≤ L ∧ L ≤ F) (h : Hid (Duo w0 w b r F F0 S L L W W)) => (BatA.reading_any w b F F0 S L W h.out.bat (by unfold I64; omega) (by unfold I64; omega) (by unfold I64; omega)).mono (fun e w' hh => (⟨hh.1, Lib.hid (h.out.below hh.2)⟩ : e = _ ∧ Hid (Duo w0 w' b r F F0 S L L W W))))
  have CQ := Lib.hid (fun w w0 b r (L W : Int) (hL : 0 ≤ L ∧ L ≤ F) (h : Hid (Duo w0 w b r F F0 S L L W W)) => (BatR.reading_any w r F F0 S L W h.out.ref (by unfold I64; omega) (by unfold I64; omega) (by unfold I64; omega)).mono (fun e w' hh => (⟨hh.1, Lib.hid (h.out.below hh.2)⟩ : e = _ ∧ Hid (Duo w0 w' b r F F0 S L L W W))))
  clear hb
  go_enter Try.func8, Try.ntmps8
  go_wp2_with fail
  refine (C1.out _).mono ?_
  rintro e1 w1 ⟨rfl, hb1⟩
  have o0 := ((show Cell _ w.heap.size 0 (.int .i64 F) from ⟨by go_simp, by go_simp⟩ : Cell (w.alloc (Obj.cells #[Value.int IntKind.i64 F, Value.int IntKind.i64 F0, Value.int IntKind.i64 S] 42)) _ _ _).below hb1 (by simp)).1
  have o1 := ((show Cell _ w.heap.size 1 (.int .i64 F0) from ⟨by go_simp, by go_simp⟩ : Cell (w.alloc (Obj.cells #[Value.int IntKind.i64 F, Value.int IntKind.i64 F0, Value.int IntKind.i64 S] 42)) _ _ _).below hb1 (by simp)).1
  have o2 := ((show Cell _ w.heap.size 2 (.int .i64 S) from ⟨by go_simp, by go_simp⟩ : Cell (w.alloc (Obj.cells #[Value.int IntKind.i64 F, Value.int IntKind.i64 F0, Value.int IntKind.i64 S] 42)) _ _ _).below hb1 (by simp)).1
  have hz1 : w.heap.size < w1.heap.size := by have := hb1.size; simp at this; omega
  have HB := Lib.hid (((Below.refl w.heap.size w).alloc (Nat.le_refl _) _).trans (hb1.mono (by simp)))
  clear hb1
  go_wp2_with fail
  refine (C2.out _).mono ?_
  rintro e1 w2 ⟨b, rfl, hb2, hbl, hbat⟩
  have o0 := keep hb2 o0 (by first | (simp; done) | (simp; omega))
  have o1 := keep hb2 o1 (by first | (simp; done) | (simp; omega))
  have o2 := keep hb2 o2 (by first | (simp; done) | (simp; omega))
  have hz2 : w.heap.size < w2.heap.size := Nat.lt_of_lt_of_le hz1 hb2.size
  have HB := Lib.hid (HB.out.trans (hb2.mono (Nat.le_of_lt hz1)))
  clear hb2
  have HT := Lib.hid hbat
  have hbl : w.heap.size < b := by omega
  clear hbat
  go_wp2_with fail
  have HB : Hid (Below w.heap.size w w2.drew ∧ Bat w2.drew b F F0 S F0 0) := Lib.hid ⟨HB.out.drew, HT.out⟩
  go_region_held3 (fun w' => (w'.cell? ⟨w.heap.size, 0, none⟩ = some (.int .i64 F) ∧ w'.cell? ⟨w.heap.size, 1, none⟩ = some (.int .i64 F0) ∧ w'.cell? ⟨w.heap.size, 2, none⟩ = some (.int .i64 S) ∧ Hid (Below w.heap.size w w' ∧ Bat w' b F F0 S F0 0)))
    (first
      | exact ⟨o0, o1, o2, HB⟩
      | (go_split_ands; refine ⟨?_, ?_, ?_, ?_⟩ <;> first | assumption | exact keep' hb5 (by assumption) | exact bat_hid (by assumption) hb5))
    (first
      | (go_at_call 25; refine (C3.out _).mono ?_; rintro e1 w5 ⟨rfl, hb5⟩)
      | (go_at_call 24; refine (C1.out _).mono ?_; rintro e1 w5 ⟨rfl, hb5⟩)
      | (go_at_call 26; refine (C4.out _).mono ?_; rintro e1 w5 ⟨rfl, hb5⟩)
      | (go_at_call 27; refine (works_any _).mono ?_; rintro e1 w5 ⟨rfl, hb5⟩))
  rename_i hH
  clear o0 o1 o2 HB HT
  obtain ⟨o0, o1, o2, HB⟩ := hH
  rename_i w5' _ _
  go_wp2_with fail
  have HD : Hid (Duo w (w5.alloc (Obj.cells #[.int .i64 F, .int .i64 F0, .int .i64 S, .int .i64 F0, .int .i64 0] 53)) b w5.heap.size F F0 S F0 F0 0 0) := by
    have hb5' := HB.out.2.cells.2.2.2.2.2.2.2
    refine Lib.hid ⟨HB.out.1.alloc HB.out.1.size _, by omega, HB.out.1.size, by omega, ?_, ?_⟩
    · unfold Bat; rw [Below.heap_alloc _ _ _ hb5']; exact HB.out.2
    · unfold Ref; exact heap_alloc_new _ _
  generalize w5.alloc (Obj.cells #[.int .i64 F, .int .i64 F0, .int .i64 S, .int .i64 F0, .int .i64 0] 53) = w6 at HD ⊢
  generalize w5.heap.size = r at HD ⊢
  clear HB o0 o1 o2
  go_loopw [8, 9] (fun i sm wr => ∃ (k : Nat) (L W : Int), k ≤ n ∧ i = .int .i64 k ∧ 0 ≤ L ∧ L ≤ F ∧ 0 ≤ W ∧ W ≤ 1152921504606846976 ∧ Hid (Duo w wr b r F F0 S L L W W)) (fun i _ _ => n - (intOf i).toNat)
  case atStart => exact ⟨0, F0, 0, by omega, rfl, by omega, by omega, by omega, by omega, HD⟩
  case round =>
    clear HD
    obtain ⟨k, L, W, hk, rfl, l0, l1, q0, q1, HD⟩ := hrel
    by_cases hlt1 : k < n
    · by_cases hlt2 : k < 100
      · obtain ⟨bb, off, rfl, hlt, hc⟩ : ∃ b off, a = some ⟨b, off, none⟩ ∧ b < w.heap.size ∧ Hid (∀ i, i < n → ∀ j, j < 2 → w.cell? ⟨b, off + (i * 2 + j), none⟩ = some (.int .i64 (f i j))) := by
          rcases hin.out.2.1 with h | ⟨b, off, e, h1, h2⟩
          · omega
          · exact ⟨b, off, e, h1, Lib.hid h2⟩
        have hc0 : wr.cell? ⟨bb, off + k * 2, none⟩ = some (.int .i64 (f k 0)) := keep HD.out.bel (hc.out k hlt1 0 (by omega)) hlt
        have hc1 : w.cell? ⟨bb, off + k * 2 + 1, none⟩ = some (.int .i64 (f k 1)) := hc.out k hlt1 1 (by omega)
        obtain ⟨m, hm⟩ : ∃ m, f k 1 = m := ⟨_, rfl⟩
        have hmI : I64 m := by rw [← hm]; exact hin.out.2.2 k hlt1 1 (by omega)
        rw [hm] at hc1
        clear hm
        obtain ⟨dd, hdd⟩ : ∃ dd, f k 0 = dd := ⟨_, rfl⟩
        rw [hdd] at hc0
        clear hdd
        have HC1 := Lib.hid hc1
        have cw := keep HD.out.bel hc1 hlt
        clear hc1
        by_cases hd : dd = 0
        · subst hd
          obtain ⟨g, hg⟩ : ∃ g, got m L = g := ⟨_, rfl⟩
          obtain ⟨L2, hL2⟩ : ∃ L2, L - got m L = L2 := ⟨_, rfl⟩
          obtain ⟨W2, hW2⟩ : ∃ W2, want m L W = W2 := ⟨_, rfl⟩
          have hb2 := take_bd (n := m) l0 (by omega) q0 q1
          rw [hL2, hW2] at hb2
          obtain ⟨p0, p1, p2, p3⟩ := hb2
          have CT1 := Lib.hid (fun w' (h : Hid (Duo w w' b r F F0 S L L W W)) => duo_take h hmI ⟨l0, by omega⟩ ⟨q0, q1⟩ hg hL2 hW2)
          have CT2 := Lib.hid (fun w' (h : Hid (Duo w w' b r F F0 S L2 L W2 W)) => duo_takeR h hmI ⟨l0, by omega⟩ ⟨q0, q1⟩ hg hL2 hW2)
          clear hg hL2 hW2
          go_wp2_with fail
          go_region_held3 (fun w' => w'.cell? ⟨bb, off + k * 2 + 1, none⟩ = some (.int .i64 m))
            (first
              | exact cw
              | exact keep hD5.out.bel HC1.out hlt)
            (first
              | (go_at_call 28; refine (CT1.out _ (by first | exact HD | exact Lib.hid HD.out.drew)).mono ?_; rintro e1 w7 ⟨rfl, hD5⟩)
              | (go_at_call 29; refine (CT2.out _ (by first | exact hD5 | exact Lib.hid hD5.out.drew)).mono ?_; rintro e1 w7 ⟨rfl, hD5⟩))
          clear CT1 CT2 cw HC1 HD hc0
          rename_i w8 _ _
          have o3 := duo_c3 hD5
          have o4 := duo_c4 hD5
          go_wp2_with fail
          go_region_held3 (fun w' => w'.cell? ⟨r, 3, none⟩ = some (.int .i64 L2) ∧ w'.cell? ⟨r, 4, none⟩ = some (.int .i64 W2) ∧ Hid (Duo w w' b r F F0 S L2 L2 W2 W2))
            (first
              | exact ⟨o3, o4, hD5⟩
              | exact ⟨o3, o4, Lib.hid hD5.out.drew⟩
              | exact ⟨duo_c3 hD6, duo_c4 hD6, hD6⟩)
            (first
              | (go_at_call 32; go_split_ands; refine (CL.out _ _ _ _ _ _ (by assumption)).mono ?_; rintro e1 w9 ⟨rfl, hD6⟩)
              | (go_at_call 33; go_split_ands; refine (CE.out _ _ _ _ _ _ (by assumption)).mono ?_; rintro e1 w9 ⟨rfl, hD6⟩)
              | (go_at_call 34; go_split_ands; refine (CR.out _ _ _ _ L2 W2 (by omega) (by assumption)).mono ?_; rintro e1 w9 ⟨rfl, hD6⟩)
              | (go_at_call 35; go_split_ands; refine (CQ.out _ _ _ _ L2 W2 (by omega) (by assumption)).mono ?_; rintro e1 w9 ⟨rfl, hD6⟩))
          go_wp2_with fail
          go_roundw
          case rel => exact ⟨k + 1, L2, W2, by omega, by go_num, by omega, by omega, by omega, by omega, hD6⟩
          case measure => simp [intOf]; omega
        · have hdb : (dd == 0) = false := by simp [hd]
          obtain ⟨g, hg⟩ : ∃ g, fill m F L = g := ⟨_, rfl⟩
          obtain ⟨L2, hL2⟩ : ∃ L2, L + fill m F L = L2 := ⟨_, rfl⟩
          have hb2 := fill_bd (n := m) l0 l1
          rw [hL2] at hb2
          obtain ⟨p0, p1⟩ := hb2
          have CT1 := Lib.hid (fun w' (h : Hid (Duo w w' b r F F0 S L L W W)) => duo_fill h hmI ⟨l0, l1⟩ g2 hg hL2)
          have CT2 := Lib.hid (fun w' (h : Hid (Duo w w' b r F F0 S L2 L W W)) => duo_fillR h hmI ⟨l0, l1⟩ g2 hg hL2)
          clear hg hL2 hd
          go_wp2_with fail
          go_region_held3 (fun w' => w'.cell? ⟨bb, off + k * 2 + 1, none⟩ = some (.int .i64 m))
            (first
              | exact cw
              | exact keep hD5.out.bel HC1.out hlt)
            (first
              | (go_at_call 30; refine (CT1.out _ (by first | exact HD | exact Lib.hid HD.out.drew)).mono ?_; rintro e1 w7 ⟨rfl, hD5⟩)
              | (go_at_call 31; refine (CT2.out _ (by first | exact hD5 | exact Lib.hid hD5.out.drew)).mono ?_; rintro e1 w7 ⟨rfl, hD5⟩))
          clear CT1 CT2 cw HC1 HD hc0
          rename_i w8 _ _
          have o3 := duo_c3 hD5
          have o4 := duo_c4 hD5
          go_wp2_with fail
          go_region_held3 (fun w' => w'.cell? ⟨r, 3, none⟩ = some (.int .i64 L2) ∧ w'.cell? ⟨r, 4, none⟩ = some (.int .i64 W) ∧ Hid (Duo w w' b r F F0 S L2 L2 W W))
            (first
              | exact ⟨o3, o4, hD5⟩
              | exact ⟨o3, o4, Lib.hid hD5.out.drew⟩
              | exact ⟨duo_c3 hD6, duo_c4 hD6, hD6⟩)
            (first
              | (go_at_call 32; go_split_ands; refine (CL.out _ _ _ _ _ _ (by assumption)).mono ?_; rintro e1 w9 ⟨rfl, hD6⟩)
              | (go_at_call 33; go_split_ands; refine (CE.out _ _ _ _ _ _ (by assumption)).mono ?_; rintro e1 w9 ⟨rfl, hD6⟩)
              | (go_at_call 34; go_split_ands; refine (CR.out _ _ _ _ L2 W (by omega) (by assumption)).mono ?_; rintro e1 w9 ⟨rfl, hD6⟩)
              | (go_at_call 35; go_split_ands; refine (CQ.out _ _ _ _ L2 W (by omega) (by assumption)).mono ?_; rintro e1 w9 ⟨rfl, hD6⟩))
          go_wp2_with fail
          go_roundw
          case rel => exact ⟨k + 1, L2, W, by omega, by go_num, by omega, by omega, by omega, by omega, hD6⟩
          case measure => simp [intOf]; omega
      · have o3 := duo_c3 HD
        go_wp2_with fail
        go_region_held3 (fun w' => w'.cell? ⟨r, 3, none⟩ = some (.int .i64 L) ∧ Hid (Duo w w' b r F F0 S L L W W))
          (first
            | exact ⟨o3, HD⟩
            | exact ⟨o3, Lib.hid HD.out.drew⟩
            | exact ⟨duo_c3 hD6, hD6⟩)
          (first
            | (go_at_call 32; go_split_ands; refine (CL.out _ _ _ _ _ _ (by assumption)).mono ?_; rintro e1 w9 ⟨rfl, hD6⟩))
        go_wp2_with fail
        go_ret
        exact ⟨rfl, hD6.out.bel⟩
    · obtain rfl : k = n := by omega
      have o3 := duo_c3 HD
      go_wp2_with fail
      go_region_held3 (fun w' => w'.cell? ⟨r, 3, none⟩ = some (.int .i64 L) ∧ Hid (Duo w w' b r F F0 S L L W W))
        (first
          | exact ⟨o3, HD⟩
          | exact ⟨o3, Lib.hid HD.out.drew⟩
          | exact ⟨duo_c3 hD6, hD6⟩)
        (first
          | (go_at_call 32; go_split_ands; refine (CL.out _ _ _ _ _ _ (by assumption)).mono ?_; rintro e1 w9 ⟨rfl, hD6⟩))
      go_wp2_with fail
      go_ret
      exact ⟨rfl, hD6.out.bel⟩
end Go.Proofs.Ytgifhcjbaljenaa.BatP

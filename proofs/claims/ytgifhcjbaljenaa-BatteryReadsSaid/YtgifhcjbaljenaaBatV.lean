/- Walks of battery: what the sensor reads, in turn. -/
import Derived.Test.YtgifhcjbaljenaaBatP
import Derived.Test.YtgifhcjbaljenaaSame
import Derived.Test.YtgifhcjbaljenaaKit
import Derived.Outline
namespace Go.Proofs.Ytgifhcjbaljenaa.BatV
open Go.RowKit Base WideA WideB BatA BatB BatC BatD BatR BatP RefA
set_option linter.unusedVariables false
set_option linter.unusedSimpArgs false

/-- the level, and the want, behind k turns -/
def lvl (t g : Nat → Int) (F F0 : Int) : Nat → Int × Int
  | 0 => (F0, 0)
  | k + 1 => ((lvl t g F F0 k).1 - got (t k) (lvl t g F F0 k).1 + fill (g k) F ((lvl t g F F0 k).1 - got (t k) (lvl t g F F0 k).1), want (t k) (lvl t g F F0 k).1 (lvl t g F F0 k).2)
def rds (t g : Nat → Int) (F F0 S : Int) (k : Nat) : Int := rd (lvl t g F F0 (k + 1)).1 S F

theorem lvl_bd (t g : Nat → Int) (F F0 : Int) (h0 : 0 ≤ F0) (h1 : F0 ≤ F) (h2 : F ≤ 1152921504606846976) : ∀ k, 0 ≤ (lvl t g F F0 k).1 ∧ (lvl t g F F0 k).1 ≤ F ∧ 0 ≤ (lvl t g F F0 k).2 ∧ (lvl t g F F0 k).2 ≤ 1152921504606846976
  | 0 => by simp [lvl]; omega
  | k + 1 => by
    obtain ⟨a, b, c, d⟩ := lvl_bd t g F F0 h0 h1 h2 k
    obtain ⟨p0, p1, p2, p3⟩ := take_bd (n := t k) a (by omega) c d
    obtain ⟨q0, q1⟩ := BatP.fill_bd (n := g k) (F := F) p0 (by omega)
    exact ⟨q0, q1, p2, p3⟩

/-- a battery, and a row of readings, in memory -/
structure Led (w0 w : World) (B b : Nat) (F F0 S L W : Int) (v : Value) (k : Nat) (f : Nat → Int) : Prop where
  bel : Below w0.heap.size w0 w
  hb : w0.heap.size ≤ b
  hB : b < B
  hz : B ≤ w.heap.size
  bat : Bat w b F F0 S L W
  own : w.ownsRow B 3 1 v k (row f k)
theorem Led.below {w0 w w1 : World} {B b : Nat} {F F0 S L W : Int} {v : Value} {k : Nat} {f : Nat → Int} (h : Led w0 w B b F F0 S L W v k f) (q : Below w.heap.size w w1) : Led w0 w1 B b F F0 S L W v k f :=
  ⟨h.bel.trans (q.mono h.bel.size), h.hb, h.hB, Nat.le_trans h.hz q.size, Bat.below h.bat q, ownsRow_keep h.own q⟩
theorem Led.set {w0 w w1 : World} {B b : Nat} {F F0 S L W L2 W2 : Int} {v : Value} {k : Nat} {f : Nat → Int} (h : Led w0 w B b F F0 S L W v k f) (q : w.grownBy w1 (some b)) (t : Bat w1 b F F0 S L2 W2) : Led w0 w1 B b F F0 S L2 W2 v k f :=
  ⟨fromGrown h.bel q h.bel.size h.hb, h.hb, h.hB, Nat.le_trans h.hz q.size, t, h.own.kept q (by
    cases e : v.ownBlock with
    | none => exact .inl rfl
    | some x => exact .inr (fun e2 => by have := (h.own.lt x e).1; have := h.hB; cases e2; omega))⟩
theorem led_take {w0 w : World} {B b : Nat} {F F0 S L W n L2 W2 : Int} {v : Value} {k : Nat} {f : Nat → Int} (h : Hid (Led w0 w B b F F0 S L W v k f)) (hn : I64 n) (hL : 0 ≤ L ∧ L ≤ 1152921504606846976) (hW : 0 ≤ W ∧ W ≤ 1152921504606846976)
    (e2 : L - got n L = L2) (e3 : want n L W = W2) :
    Calls Try.prog 28 #[.pointer (some ⟨b, 0, none⟩), .int .i64 n] w fun e w' => e = .returned (.int .i64 (got n L)) ∧ Hid (Led w0 w' B b F F0 S L2 W2 v k f) := by
  subst e2 e3
  exact (BatA.take_any w b F F0 S L W n h.out.bat hn hL hW).mono fun e w' hh => ⟨hh.1, Lib.hid (h.out.set hh.2.1 hh.2.2)⟩
theorem led_fill {w0 w : World} {B b : Nat} {F F0 S L W n L2 : Int} {v : Value} {k : Nat} {f : Nat → Int} (h : Hid (Led w0 w B b F F0 S L W v k f)) (hn : I64 n) (hL : 0 ≤ L ∧ L ≤ F) (hF : F ≤ 1152921504606846976)
    (e2 : L + fill n F L = L2) :
    Calls Try.prog 30 #[.pointer (some ⟨b, 0, none⟩), .int .i64 n] w fun e w' => e = .returned (.int .i64 (fill n F L)) ∧ Hid (Led w0 w' B b F F0 S L2 W v k f) := by
  subst e2
  exact (BatA.fill_any w b F F0 S L W n h.out.bat hn hL hF).mono fun e w' hh => ⟨hh.1, Lib.hid (h.out.set hh.2.1 hh.2.2)⟩
theorem led_read {w0 w : World} {B b : Nat} {F F0 S L W x : Int} {v : Value} {k : Nat} {f : Nat → Int} (h : Hid (Led w0 w B b F F0 S L W v k f)) (hF : I64 F) (hS : I64 S) (hL : I64 L) (e : rd L S F = x) :
    Calls Try.prog 34 #[.pointer (some ⟨b, 0, none⟩)] w fun e w' => e = .returned (.int .i64 x) ∧ Hid (Led w0 w' B b F F0 S L W v k f) := by
  subst e
  exact (BatA.reading_any w b F F0 S L W h.out.bat hF hS hL).mono fun e w' hh => ⟨hh.1, Lib.hid (h.out.below hh.2)⟩

/-- a battery, and a row of readings, in memory -/
structure LedR (w0 w : World) (B b : Nat) (F F0 S L W : Int) (v : Value) (k : Nat) (f : Nat → Int) : Prop where
  bel : Below w0.heap.size w0 w
  hb : w0.heap.size ≤ b
  hB : b < B
  hz : B ≤ w.heap.size
  bat : Ref w b F F0 S L W
  own : w.ownsRow B 3 1 v k (row f k)
theorem LedR.below {w0 w w1 : World} {B b : Nat} {F F0 S L W : Int} {v : Value} {k : Nat} {f : Nat → Int} (h : LedR w0 w B b F F0 S L W v k f) (q : Below w.heap.size w w1) : LedR w0 w1 B b F F0 S L W v k f :=
  ⟨h.bel.trans (q.mono h.bel.size), h.hb, h.hB, Nat.le_trans h.hz q.size, Ref.below h.bat q, ownsRow_keep h.own q⟩
theorem LedR.set {w0 w w1 : World} {B b : Nat} {F F0 S L W L2 W2 : Int} {v : Value} {k : Nat} {f : Nat → Int} (h : LedR w0 w B b F F0 S L W v k f) (q : w.grownBy w1 (some b)) (t : Ref w1 b F F0 S L2 W2) : LedR w0 w1 B b F F0 S L2 W2 v k f :=
  ⟨fromGrown h.bel q h.bel.size h.hb, h.hb, h.hB, Nat.le_trans h.hz q.size, t, h.own.kept q (by
    cases e : v.ownBlock with
    | none => exact .inl rfl
    | some x => exact .inr (fun e2 => by have := (h.own.lt x e).1; have := h.hB; cases e2; omega))⟩
theorem ledR_take {w0 w : World} {B b : Nat} {F F0 S L W n L2 W2 : Int} {v : Value} {k : Nat} {f : Nat → Int} (h : Hid (LedR w0 w B b F F0 S L W v k f)) (hn : I64 n) (hL : 0 ≤ L ∧ L ≤ 1152921504606846976) (hW : 0 ≤ W ∧ W ≤ 1152921504606846976)
    (e2 : L - got n L = L2) (e3 : want n L W = W2) :
    Calls Try.prog 29 #[.pointer (some ⟨b, 0, none⟩), .int .i64 n] w fun e w' => e = .returned (.int .i64 (got n L)) ∧ Hid (LedR w0 w' B b F F0 S L2 W2 v k f) := by
  subst e2 e3
  exact (BatR.take_any w b F F0 S L W n h.out.bat hn hL hW).mono fun e w' hh => ⟨hh.1, Lib.hid (h.out.set hh.2.1 hh.2.2)⟩
theorem ledR_fill {w0 w : World} {B b : Nat} {F F0 S L W n L2 : Int} {v : Value} {k : Nat} {f : Nat → Int} (h : Hid (LedR w0 w B b F F0 S L W v k f)) (hn : I64 n) (hL : 0 ≤ L ∧ L ≤ F) (hF : F ≤ 1152921504606846976)
    (e2 : L + fill n F L = L2) :
    Calls Try.prog 31 #[.pointer (some ⟨b, 0, none⟩), .int .i64 n] w fun e w' => e = .returned (.int .i64 (fill n F L)) ∧ Hid (LedR w0 w' B b F F0 S L2 W v k f) := by
  subst e2
  exact (BatR.fill_any w b F F0 S L W n h.out.bat hn hL hF).mono fun e w' hh => ⟨hh.1, Lib.hid (h.out.set hh.2.1 hh.2.2)⟩
theorem ledR_read {w0 w : World} {B b : Nat} {F F0 S L W x : Int} {v : Value} {k : Nat} {f : Nat → Int} (h : Hid (LedR w0 w B b F F0 S L W v k f)) (hF : I64 F) (hS : I64 S) (hL : I64 L) (e : rd L S F = x) :
    Calls Try.prog 35 #[.pointer (some ⟨b, 0, none⟩)] w fun e w' => e = .returned (.int .i64 x) ∧ Hid (LedR w0 w' B b F F0 S L W v k f) := by
  subst e
  exact (BatR.reading_any w b F F0 S L W h.out.bat hF hS hL).mono fun e w' hh => ⟨hh.1, Lib.hid (h.out.below hh.2)⟩

/-- what a reading of a list leaves -/
def Gave (w w' : World) (n : Nat) (f : Nat → Int) (e : Ending) : Prop := ∃ v, e = .returned (.tuple #[v, .int .i64 0]) ∧ (∃ B, w'.ownsRow B 3 1 v n (row f n)) ∧ Below w.heap.size w w'

set_option maxRecDepth 100000 in
set_option maxHeartbeats 4000000 in
theorem readings_good (F F0 S : Int) (a1 a2 : Option Addr) (n c1 c2 : Nat) (t g : Nat → Int) (w : World) (hb : ¬ bad F F0 S) (hn : n ≤ 300) (h1 : Hid (Open.RowsIn w a1 n 1 (fun i _ => t i))) (h2 : Hid (Open.RowsIn w a2 n 1 (fun i _ => g i))) :
    Calls Try.prog 36 #[.agg #[.int .i64 F, .int .i64 F0, .int .i64 S], .slice a1 n c1, .slice a2 n c2] w fun e w' => Gave w w' n (rds t g F F0 S) e := by
  have C2 := Lib.hid (fun w => new_good F F0 S w hb)
  obtain ⟨g1, g2, g3, g4, g5, g6⟩ := good hb
  have BD := Lib.hid (lvl_bd t g F F0 g3 g4 g2)
  obtain ⟨i0, hi, hz0, hz1, hz2⟩ := info_parts infoInt
  clear hb
  go_enter Try.func36, Try.ntmps36
  go_wp2_with fail
  refine (C2.out _).mono ?_
  rintro e1 w2 ⟨b, rfl, hb2, hbl, hbat⟩
  have HD : Hid (Led w w2 w2.heap.size b F F0 S F0 0 (.slice none 0 0) 0 (rds t g F F0 S)) := Lib.hid ⟨((Below.refl _ _).alloc (Nat.le_refl _) _).trans (hb2.mono (by simp)), Nat.le_trans (by simp) hbl, hbat.cells.2.2.2.2.2.2.2, Nat.le_refl _, hbat, World.ownsRow_nil _ _ _ _⟩
  generalize w2.heap.size = B at HD ⊢
  clear hb2 hbl hbat C2
  have hm : n ≤ 9223372036854775807 := by omega
  go_wp2_with fail
  go_loopw [10, 28] (fun o i wr => ∃ (k : Nat), k ≤ n ∧ i = .int .i64 k ∧ Hid (Led w wr B b F F0 S (lvl t g F F0 k).1 (lvl t g F F0 k).2 o k (rds t g F F0 S))) (fun _ i _ => n - (intOf i).toNat)
  case atStart => exact ⟨0, by omega, rfl, HD⟩
  case round =>
    clear HD
    obtain ⟨k, hk, rfl, HD⟩ := hrel
    by_cases hlt : k < n
    · obtain ⟨b1, o1, rfl, l1, q1⟩ : ∃ b off, a1 = some ⟨b, off, none⟩ ∧ b < w.heap.size ∧ w.cell? ⟨b, off + k, none⟩ = some (.int .i64 (t k)) := by
        rcases h1.out.2.1 with h | ⟨b, off, e, h, h'⟩
        · omega
        · exact ⟨b, off, e, h, by have := h' k hlt 0 (by omega); simpa using this⟩
      obtain ⟨b2, o2, rfl, l2, q2⟩ : ∃ b' off, a2 = some ⟨b', off, none⟩ ∧ b' < w.heap.size ∧ w.cell? ⟨b', off + k, none⟩ = some (.int .i64 (g k)) := by
        rcases h2.out.2.1 with h | ⟨b, off, e, h, h'⟩
        · omega
        · exact ⟨b, off, e, h, by have := h' k hlt 0 (by omega); simpa using this⟩
      have x1 : I64 (t k) := h1.out.2.2 k hlt 0 (by omega)
      have x2 : I64 (g k) := h2.out.2.2 k hlt 0 (by omega)
      obtain ⟨p0, p1, p2, p3⟩ := BD.out k
      obtain ⟨p4, p5, p6, p7⟩ := BD.out (k + 1)
      have EL := Lib.hid (show (lvl t g F F0 (k + 1)).1 = (lvl t g F F0 k).1 - got (t k) (lvl t g F F0 k).1 + fill (g k) F ((lvl t g F F0 k).1 - got (t k) (lvl t g F F0 k).1) from rfl)
      have EW := Lib.hid (show (lvl t g F F0 (k + 1)).2 = want (t k) (lvl t g F F0 k).1 (lvl t g F F0 k).2 from rfl)
      have ER := Lib.hid (show rd (lvl t g F F0 (k + 1)).1 S F = rds t g F F0 S k from rfl)
      generalize hL2 : (lvl t g F F0 (k + 1)).1 = L2 at *
      generalize hW2 : (lvl t g F F0 (k + 1)).2 = W2 at *
      have HL2 := Lib.hid hL2
      have HW2 := Lib.hid hW2
      clear hL2 hW2
      generalize (lvl t g F F0 k).1 = L at *
      generalize (lvl t g F F0 k).2 = W at *
      generalize hT : t k = tk at *
      generalize hG : g k = gk at *
      obtain ⟨M, hM⟩ : ∃ M, L - got tk L = M := ⟨_, rfl⟩
      obtain ⟨m0, m1, _, _⟩ := take_bd (n := tk) p0 (show L ≤ 1152921504606846976 by omega) p2 p3
      rw [hM] at m0 m1
      have EL := Lib.hid (show M + fill gk F M = L2 by rw [EL.out, hM])
      have HM := Lib.hid hM
      have q1 := keep HD.out.bel q1 l1
      have Q2 := Lib.hid q2
      clear hT hG hM q2
      go_wp2_with fail
      refine (led_take HD x1 ⟨p0, by omega⟩ ⟨p2, p3⟩ HM.out EW.out.symm).mono ?_
      rintro e1 w3 ⟨rfl, HD3⟩
      have q2 := keep HD3.out.bel Q2.out l2
      go_wp2_with fail
      refine (led_fill HD3 x2 ⟨m0, by omega⟩ g2 EL.out).mono ?_
      rintro e1 w4 ⟨rfl, HD4⟩
      go_wp2_with fail
      obtain ⟨x, hx⟩ : ∃ x, rds t g F F0 S k = x := ⟨_, rfl⟩
      refine (led_read HD4 (by unfold I64; omega) (by unfold I64; omega) (by unfold I64; omega) (ER.out.trans hx)).mono ?_
      rintro e1 w5 ⟨rfl, HD5⟩
      have HX := Lib.hid hx
      clear hx
      have hown := HD5.out.own
      have hz := HD5.out.hz
      go_wp2_with (at_builtin; go_loud (refine append1 w5 rfl _ _ 63 rfl B 3 (.int .i64 0) 8 Try.underlying63 infoInt rfl _ (.int .i64 x) _ _ _ rfl (by exact hown) rfl rfl ?c1 ?c2 ?c3 ?_))
      case c1 => unfold maxLen; omega
      case c2 => omega
      case c3 => exact hz
      intro v' w6 hown1 hsz hb1 _
      have HD6 : Hid (Led w w6 B b F F0 S L2 W2 v' (k + 1) (rds t g F F0 S)) := by
        refine Lib.hid ⟨HD5.out.bel.trans (hb1.mono ?_), HD5.out.hb, HD5.out.hB, Nat.le_trans hz hsz, ?_, ?_⟩
        · have := HD5.out.hb; have := HD5.out.hB; omega
        · unfold Bat; rw [hb1.block b HD5.out.hB]; exact HD5.out.bat
        · rw [row_succ, HX.out]; exact hown1
      clear hown hown1 hb1 HD5 HD4 HD3 HD
      go_wp2
      go_roundw
      case rel => exact ⟨k + 1, by omega, by go_num, by rw [HL2.out, HW2.out]; exact HD6⟩
      case measure => simp [intOf]; omega
    · obtain rfl : k = n := by omega
      go_wp2_with fail
      go_ret2
      exact ⟨_, rfl, ⟨_, HD.out.own⟩, HD.out.bel⟩

theorem rows_bad (F F0 S : Int) (a1 a2 : Option Addr) (n m c1 c2 : Nat) (w : World) (h : bad F F0 S ∨ ¬ bad F F0 S ∧ n ≠ m) (hn : n ≤ 300) (hm : m ≤ 300) :
    Calls Try.prog 36 #[.agg #[.int .i64 F, .int .i64 F0, .int .i64 S], .slice a1 n c1, .slice a2 m c2] w fun e w' => e = .returned (.tuple #[.slice none 0 0, .int .i64 2]) ∧ Below w.heap.size w w' := by
  rcases h with hb | ⟨hb, hne⟩
  · have C2 := Lib.hid (fun w => new_bad F F0 S w hb)
    clear hb
    go_enter Try.func36, Try.ntmps36
    go_wp2_with fail
    refine (C2.out _).mono ?_
    rintro e1 w2 ⟨rfl, hb2⟩
    go_wp2_with fail
    go_ret2
    exact ⟨rfl, ((Below.refl _ _).alloc (Nat.le_refl _) _).trans (hb2.mono (by simp))⟩
  · have C2 := Lib.hid (fun w => new_good F F0 S w hb)
    have hne' : ((n : Int) == (m : Int)) = false := by simp; omega
    have hne2 : ((n : Int) != (m : Int)) = true := by simp; omega
    clear hb
    go_enter Try.func36, Try.ntmps36
    go_wp2_with fail
    refine (C2.out _).mono ?_
    rintro e1 w2 ⟨b, rfl, hb2, hbl, hbat⟩
    go_wp2_with fail
    go_ret2
    exact ⟨rfl, ((Below.refl _ _).alloc (Nat.le_refl _) _).trans (hb2.mono (by simp))⟩

theorem rows_badr (F F0 S : Int) (a1 a2 : Option Addr) (n m c1 c2 : Nat) (w : World) (h : bad F F0 S ∨ ¬ bad F F0 S ∧ n ≠ m) (hn : n ≤ 300) (hm : m ≤ 300) :
    Calls Try.prog 37 #[.agg #[.int .i64 F, .int .i64 F0, .int .i64 S], .slice a1 n c1, .slice a2 m c2] w fun e w' => e = .returned (.tuple #[.slice none 0 0, .int .i64 2]) ∧ Below w.heap.size w w' := by
  have C3 := fun w => checkr_any F F0 S w
  rcases h with hb | ⟨hb, hne⟩
  · rw [show chk F F0 S = 2 from by unfold chk; rw [if_pos hb]] at C3
    have C3 := Lib.hid C3
    clear hb
    go_enter Try.func37, Try.ntmps37
    go_wp2_with fail
    refine (C3.out _).mono ?_
    rintro e1 w2 ⟨rfl, hb2⟩
    go_wp2_with fail
    go_ret2
    exact ⟨rfl, Kit.below_in _ hb2⟩
  · rw [show chk F F0 S = 0 from by unfold chk; rw [if_neg hb]] at C3
    have C3 := Lib.hid C3
    have hne' : ((n : Int) == (m : Int)) = false := by simp; omega
    have hne2 : ((n : Int) != (m : Int)) = true := by simp; omega
    clear hb
    go_enter Try.func37, Try.ntmps37
    go_wp2_with fail
    refine (C3.out _).mono ?_
    rintro e1 w2 ⟨rfl, hb2⟩
    go_wp2_with fail
    go_ret2
    exact ⟨rfl, Kit.below_in _ hb2⟩

set_option maxRecDepth 100000 in
set_option maxHeartbeats 4000000 in
theorem readings_ref (F F0 S : Int) (a1 a2 : Option Addr) (n c1 c2 : Nat) (t g : Nat → Int) (w : World) (hb : ¬ bad F F0 S) (hn : n ≤ 300) (h1 : Hid (Open.RowsIn w a1 n 1 (fun i _ => t i))) (h2 : Hid (Open.RowsIn w a2 n 1 (fun i _ => g i))) :
    Calls Try.prog 37 #[.agg #[.int .i64 F, .int .i64 F0, .int .i64 S], .slice a1 n c1, .slice a2 n c2] w fun e w' => Gave w w' n (rds t g F F0 S) e := by
  have C3 := fun w => checkr_any F F0 S w
  rw [show chk F F0 S = 0 from by unfold chk; rw [if_neg hb]] at C3
  have C3 := Lib.hid C3
  obtain ⟨g1, g2, g3, g4, g5, g6⟩ := good hb
  have BD := Lib.hid (lvl_bd t g F F0 g3 g4 g2)
  obtain ⟨i0, hi, hz0, hz1, hz2⟩ := info_parts infoInt
  have hm : n ≤ 9223372036854775807 := by omega
  clear hb
  go_enter Try.func37, Try.ntmps37
  go_wp2_with fail
  refine (C3.out _).mono ?_
  rintro e1 w2 ⟨rfl, hb2⟩
  have BX := (Kit.Box.new w _ _).next hb2
  have bc := BX.cell
  have HB := Lib.hid (Kit.below_in _ hb2)
  have hz : w.heap.size < w2.heap.size := by have := hb2.size; simp at this; omega
  clear hb2
  go_wp2_with fail
  have HD : Hid (LedR w (w2.alloc (.cells #[.int .i64 F, .int .i64 F0, .int .i64 S, .int .i64 F0, .int .i64 0] 53)) (w2.heap.size + 1) w2.heap.size F F0 S F0 0 (.slice none 0 0) 0 (rds t g F F0 S)) :=
    Lib.hid ⟨HB.out.alloc HB.out.size _, Nat.le_of_lt hz, by omega, by simp, heap_alloc_new _ _, World.ownsRow_nil _ _ _ _⟩
  clear BX bc HB C3
  generalize w2.alloc (.cells #[.int .i64 F, .int .i64 F0, .int .i64 S, .int .i64 F0, .int .i64 0] 53) = w2' at HD ⊢
  generalize hB : w2.heap.size + 1 = B at HD
  generalize w2.heap.size = b at HD ⊢
  clear hB
  go_loopw [9, 10] (fun o i wr => ∃ (k : Nat), k ≤ n ∧ i = .int .i64 k ∧ Hid (LedR w wr B b F F0 S (lvl t g F F0 k).1 (lvl t g F F0 k).2 o k (rds t g F F0 S))) (fun _ i _ => n - (intOf i).toNat)
  case atStart => exact ⟨0, by omega, rfl, HD⟩
  case round =>
    clear HD
    obtain ⟨k, hk, rfl, HD⟩ := hrel
    by_cases hlt : k < n
    · obtain ⟨b1, o1, rfl, l1, q1⟩ : ∃ b off, a1 = some ⟨b, off, none⟩ ∧ b < w.heap.size ∧ w.cell? ⟨b, off + k, none⟩ = some (.int .i64 (t k)) := by
        rcases h1.out.2.1 with h | ⟨b, off, e, h, h'⟩
        · omega
        · exact ⟨b, off, e, h, by have := h' k hlt 0 (by omega); simpa using this⟩
      obtain ⟨b2, o2, rfl, l2, q2⟩ : ∃ b' off, a2 = some ⟨b', off, none⟩ ∧ b' < w.heap.size ∧ w.cell? ⟨b', off + k, none⟩ = some (.int .i64 (g k)) := by
        rcases h2.out.2.1 with h | ⟨b, off, e, h, h'⟩
        · omega
        · exact ⟨b, off, e, h, by have := h' k hlt 0 (by omega); simpa using this⟩
      have x1 : I64 (t k) := h1.out.2.2 k hlt 0 (by omega)
      have x2 : I64 (g k) := h2.out.2.2 k hlt 0 (by omega)
      obtain ⟨p0, p1, p2, p3⟩ := BD.out k
      obtain ⟨p4, p5, p6, p7⟩ := BD.out (k + 1)
      have EL := Lib.hid (show (lvl t g F F0 (k + 1)).1 = (lvl t g F F0 k).1 - got (t k) (lvl t g F F0 k).1 + fill (g k) F ((lvl t g F F0 k).1 - got (t k) (lvl t g F F0 k).1) from rfl)
      have EW := Lib.hid (show (lvl t g F F0 (k + 1)).2 = want (t k) (lvl t g F F0 k).1 (lvl t g F F0 k).2 from rfl)
      have ER := Lib.hid (show rd (lvl t g F F0 (k + 1)).1 S F = rds t g F F0 S k from rfl)
      generalize hL2 : (lvl t g F F0 (k + 1)).1 = L2 at *
      generalize hW2 : (lvl t g F F0 (k + 1)).2 = W2 at *
      have HL2 := Lib.hid hL2
      have HW2 := Lib.hid hW2
      clear hL2 hW2
      generalize (lvl t g F F0 k).1 = L at *
      generalize (lvl t g F F0 k).2 = W at *
      generalize hT : t k = tk at *
      generalize hG : g k = gk at *
      obtain ⟨M, hM⟩ : ∃ M, L - got tk L = M := ⟨_, rfl⟩
      obtain ⟨m0, m1, _, _⟩ := take_bd (n := tk) p0 (show L ≤ 1152921504606846976 by omega) p2 p3
      rw [hM] at m0 m1
      have EL := Lib.hid (show M + fill gk F M = L2 by rw [EL.out, hM])
      have HM := Lib.hid hM
      have q1 := keep HD.out.bel q1 l1
      have Q2 := Lib.hid q2
      clear hT hG hM q2
      go_wp2_with fail
      refine (ledR_take HD x1 ⟨p0, by omega⟩ ⟨p2, p3⟩ HM.out EW.out.symm).mono ?_
      rintro e1 w3 ⟨rfl, HD3⟩
      have q2 := keep HD3.out.bel Q2.out l2
      go_wp2_with fail
      refine (ledR_fill HD3 x2 ⟨m0, by omega⟩ g2 EL.out).mono ?_
      rintro e1 w4 ⟨rfl, HD4⟩
      go_wp2_with fail
      obtain ⟨x, hx⟩ : ∃ x, rds t g F F0 S k = x := ⟨_, rfl⟩
      refine (ledR_read HD4 (by unfold I64; omega) (by unfold I64; omega) (by unfold I64; omega) (ER.out.trans hx)).mono ?_
      rintro e1 w5 ⟨rfl, HD5⟩
      have HX := Lib.hid hx
      clear hx
      have hown := HD5.out.own
      have hz := HD5.out.hz
      go_wp2_with (at_builtin; go_loud (refine append1 w5 rfl _ _ 63 rfl B 3 (.int .i64 0) 8 Try.underlying63 infoInt rfl _ (.int .i64 x) _ _ _ rfl (by exact hown) rfl rfl ?c1 ?c2 ?c3 ?_))
      case c1 => unfold maxLen; omega
      case c2 => omega
      case c3 => exact hz
      intro v' w6 hown1 hsz hb1 _
      have HD6 : Hid (LedR w w6 B b F F0 S L2 W2 v' (k + 1) (rds t g F F0 S)) := by
        refine Lib.hid ⟨HD5.out.bel.trans (hb1.mono ?_), HD5.out.hb, HD5.out.hB, Nat.le_trans hz hsz, ?_, ?_⟩
        · have := HD5.out.hb; have := HD5.out.hB; omega
        · unfold Ref; rw [hb1.block b HD5.out.hB]; exact HD5.out.bat
        · rw [row_succ, HX.out]; exact hown1
      clear hown hown1 hb1 HD5 HD4 HD3 HD
      go_wp2
      go_roundw
      case rel => exact ⟨k + 1, by omega, by go_num, by rw [HL2.out, HW2.out]; exact HD6⟩
      case measure => simp [intOf]; omega
    · obtain rfl : k = n := by omega
      go_wp2_with fail
      go_ret2
      exact ⟨_, rfl, ⟨_, HD.out.own⟩, HD.out.bel⟩
end Go.Proofs.Ytgifhcjbaljenaa.BatV

/- Walks of package meter: New, Charge. -/
import Derived.Test.YtgkahcchekiogaaMetB
import Derived.Test.YtgkahcchekiogaaWideS
import Derived.Test.YtgkahcchekiogaaRefS
import Derived.Lib.SliceRun
namespace Go.Proofs.Ytgkahcchekiogaa.MetC
open Go.RowKit Base Kit RefA Alt WideA WideB Plain MetA MetB
set_option linter.unusedVariables false
set_option linter.unusedSimpArgs false

def nil : MS := ⟨fun _ => 0, 0, 0, 0, 0⟩
theorem tot_nil (n : Nat) : tot n nil = 0 := by
  have : ∀ n, sumTo (fun _ => 0) n = 0 := fun n => by induction n with
    | zero => rfl
    | succ n ih => rw [sumTo, ih]; rfl
  simp [tot, nil, this]
theorem nil_ok (n : Nat) (hn : n ≤ 8) : MOk n nil := ⟨hn, fun _ _ => Int.le_refl _, Int.le_refl _, Int.le_refl _, Int.le_refl _, Int.le_refl _, by rw [tot_nil]; omega, by simp [nil]⟩
def many (p : Int) : Nat := (clampI p 0 8).toNat
theorem many_le (p : Int) : many p ≤ 8 := by unfold many clampI; (repeat' split) <;> omega
theorem many_eq (p : Int) : clampI p 0 8 = (many p : Int) := by unfold many clampI; (repeat' split) <;> omega

def NewPost (w : World) (n : Nat) (e : Ending) (w' : World) : Prop := ∃ m g, e = .returned (.pointer (some ⟨m, 0, none⟩)) ∧ w.heap.size ≤ m ∧ w.heap.size ≤ g ∧ Below w.heap.size w w' ∧ Hid (Mtr w' m g n n nil)
theorem new_any (w : World) (p : Int) : Calls Try.prog 59 #[.int .i64 p] w (NewPost w (many p)) := by
  have C := fun w => clamp_any p 0 8 w
  rw [many_eq] at C
  have C := Lib.hid C
  have hn := many_le p
  generalize many p = n at *
  obtain ⟨w1, r1, o1, g1⟩ := make_ints w n (by omega)
  have O1 := Lib.hid o1
  have G1 := Lib.hid g1
  clear o1 g1
  go_enter Try.func59, Try.ntmps59
  go_wp2_with fail
  refine (C.out _).mono ?_
  rintro e w2 ⟨rfl, rfl⟩
  go_wp2_with fail
  go_ret
  refine ⟨w1.heap.size, w.heap.size, rfl, G1.out.size, Nat.le_refl _, ((Below.refl _ _).grown G1.out (Nat.le_refl _) (fun k h => by cases h)).alloc G1.out.size _, Lib.hid ⟨?_, ?_⟩⟩
  · rw [tot_nil]; exact Box.new _ _ _
  · exact (own_base O1.out (fun _ _ => Nat.zero_le _)).alloc _

def ClonePost (w : World) (n : Nat) (f : Nat → Int) (e : Ending) (w' : World) : Prop :=
  ∃ g c, e = .returned (.slice (some ⟨g, 0, none⟩) n c) ∧ Below w.heap.size w w' ∧ w.heap.size ≤ g ∧ Hid (w'.ownsRow w.heap.size 3 1 (.slice (some ⟨g, 0, none⟩) n c) n (row f n))
theorem clone_any (w : World) (g n cap : Nat) (f : Nat → Int) (h : Hid (Open.RowsIn w (some ⟨g, 0, none⟩) n 1 (fun i _ => f i))) (hn : n ≤ 1000) :
    Calls Try.prog 126 #[.slice (some ⟨g, 0, none⟩) n cap] w (ClonePost w n f) := by
  have q1 := fun w => Lib.run_eql_slice_nil w 55 3 (some ⟨g, 0, none⟩) n cap 0 0 Try.underlying55
  have o1 : Hid ((w.alloc (.cells #[] 3)).ownsRow w.heap.size 3 1 (.slice (some ⟨w.heap.size, 0, none⟩) 0 0) 0 []) := Lib.hid (World.ownsRow_made w #[] 0 (Nat.le_refl _) (by unfold maxLen; omega) rfl)
  have h1 := rows_alloc h (.cells #[] 3)
  go_enter Try.func126, Try.ntmps126
  go_wp2_with (at_builtin; go_loud (refine append_all _ rfl _ _ 55 rfl Try.underlying55 w.heap.size (.slice (some ⟨w.heap.size, 0, none⟩) 0 0) 0 [] rfl (by exact o1.out) (some ⟨g, 0, none⟩) n cap f rfl (by simp) (by exact h1) (by omega) (by omega) (by simp) ?_))
  intro v' w1 hown1 hg hnil
  obtain ⟨g', c', rfl, hge, hlt⟩ := own_form hown1 (fun e => hnil e)
  have HB : Hid (Below w.heap.size w w1) := Lib.hid (((Below.refl w.heap.size w).alloc (Nat.le_refl _) (.cells #[] 3)).grown hg (by simp) (fun k hk => by cases hk; exact Nat.le_refl _))
  have O := Lib.hid hown1
  clear hown1 hg hnil
  go_wp2_with fail
  go_ret
  exact ⟨g', c', rfl, HB.out, hge, O⟩

/-- who took what -/
def ChgPost (w : World) (n : Nat) (s : MS) (e : Ending) (w' : World) : Prop :=
  ∃ g c, e = .returned (.agg #[.slice (some ⟨g, 0, none⟩) n c, .int .i64 s.id, .int .i64 s.sl, .int .i64 s.ch]) ∧ Below w.heap.size w w' ∧ Hid (Open.RowsIn w' (some ⟨g, 0, none⟩) n 1 (fun i _ => s.run i))
theorem run_i64 {n : Nat} {s : MS} (ok : MOk n s) : ∀ i, i < n → I64 (s.run i) := fun i hi => by
  have h1 := sumTo_le ok.run hi
  have h2 := ok.run i hi
  have h3 := ok.tot
  have := ok.id; have := ok.sl; have := ok.ch
  unfold tot at h3
  exact ⟨by omega, by omega⟩
theorem charge_any (w : World) (m g n cap : Nat) (s : MS) (h : Hid (Mtr w m g n cap s)) (ok : MOk n s) :
    Calls Try.prog 70 #[.pointer (some ⟨m, 0, none⟩)] w (ChgPost w n s) := by
  have hn := ok.hn
  have C := Lib.hid (fun w (h : Hid (Open.RowsIn w (some ⟨g, 0, none⟩) n 1 (fun i _ => s.run i))) => clone_any w g n cap s.run h (by omega))
  have R := rows_alloc (rows_own h.out.own (by omega) (run_i64 ok)) (.cells #[.slice none 0 0, .int .i64 0, .int .i64 0, .int .i64 0] 113)
  have F := run_i64 ok
  have B0 := Lib.hid (Box.new w #[.slice none 0 0, .int .i64 0, .int .i64 0, .int .i64 0] 113)
  have HB : Hid (Below w.heap.size w _) := Lib.hid ((Below.refl w.heap.size w).alloc (Nat.le_refl _) (.cells #[.slice none 0 0, .int .i64 0, .int .i64 0, .int .i64 0] 113))
  have bc := (h.out.box.alloc (.cells #[.slice none 0 0, .int .i64 0, .int .i64 0, .int .i64 0] 113)).cell
  have hlt := h.out.box.lt
  go_enter Try.func70, Try.ntmps70
  go_wp2_with fail
  generalize w.alloc (.cells #[.slice none 0 0, .int .i64 0, .int .i64 0, .int .i64 0] 113) = w1 at R B0 HB bc ⊢
  refine (dead_any w1 m (by rw [bc]; rfl)).mono ?_
  rintro e1 w2 ⟨rfl, rfl⟩
  go_wp2_with fail
  refine (C.out _ (rows_alloc R _)).mono ?_
  rintro e1 w3 ⟨g', c', rfl, hb3, hge, O⟩
  have B3 := Lib.hid ((Box.new w1 _ _).next hb3)
  have B4 := Lib.hid ((B0.out.alloc _).next hb3)
  have HB := below_alloc _ HB hb3
  have r3 := B3.out.cell
  have f3 := B3.out.frozen
  have r4 := B4.out.cell
  have f4 := B4.out.frozen
  have hl1 : w.heap.size < w1.heap.size := B0.out.lt
  have RR := rows_own (own_base O.out (fun _ _ => Nat.zero_le _)) (by omega) F
  have hg' : w1.heap.size < g' := by have := hge; simp at this; omega
  clear hb3 O hge R bc
  go_wp2_with fail
  have B5 := Lib.hid (((((B4.out.setOther ⟨w1.heap.size, 0, none⟩ (.slice (some ⟨g', 0, none⟩) n c') (by simp; omega)).set 0 (.slice (some ⟨g', 0, none⟩) n c')).set 1 (.int .i64 s.id)).set 2 (.int .i64 s.sl)).set 3 (.int .i64 s.ch))
  have A5 : Hid (Alt (fun i => i = w.heap.size ∨ i = w1.heap.size) w3 _) := Lib.hid (((((Alt.set w3 ⟨w1.heap.size, 0, none⟩ (.slice (some ⟨g', 0, none⟩) n c') (.inr rfl)).trans (Alt.set _ ⟨w.heap.size, 0, none⟩ (.slice (some ⟨g', 0, none⟩) n c') (.inl rfl))).trans (Alt.set _ ⟨w.heap.size, 1, none⟩ (.int .i64 s.id) (.inl rfl))).trans (Alt.set _ ⟨w.heap.size, 2, none⟩ (.int .i64 s.sl) (.inl rfl))).trans (Alt.set _ ⟨w.heap.size, 3, none⟩ (.int .i64 s.ch) (.inl rfl)))
  generalize ((((w3.setCell ⟨w1.heap.size, 0, none⟩ (.slice (some ⟨g', 0, none⟩) n c')).setCell ⟨w.heap.size, 0, none⟩ (.slice (some ⟨g', 0, none⟩) n c')).setCell ⟨w.heap.size, 1, none⟩ (.int .i64 s.id)).setCell ⟨w.heap.size, 2, none⟩ (.int .i64 s.sl)).setCell ⟨w.heap.size, 3, none⟩ (.int .i64 s.ch) = w5 at B5 A5 ⊢
  have r5 := B5.out.cell
  refine bodyPost_ret (v := .agg #[.slice (some ⟨g', 0, none⟩) n c', .int .i64 s.id, .int .i64 s.sl, .int .i64 s.ch]) ?_ rfl ⟨g', c', rfl, ?_, rows_alt RR A5.out ?_⟩
  · simp [results, Try.results70, go_sem, r5]
  · exact A5.out.below HB.out HB.out.size (fun i hi => by rcases hi with rfl | rfl <;> omega)
  · intro hi; rcases hi with rfl | rfl <;> omega

/-- a charge's numbers together -/
def sumC (n : Nat) (x y z : Int) (f : Nat → Int) : Int × Int := sumR (fun i => if i < 3 then (if i = 0 then x else if i = 1 then y else z) else f (i - 3)) (3 + n)
theorem ints_of_rows {w : World} {a : Option Addr} {n : Nat} {f : Nat → Int} (h : Hid (Open.RowsIn w a n 1 (fun i _ => f i))) : WideS.IntsIn w a n f := by
  obtain ⟨hn, h1, h2⟩ := h.out
  refine ⟨hn, ?_, fun i hi => h2 i hi 0 (by omega)⟩
  rcases h1 with h1 | ⟨b, off, e, hlt, hc⟩
  · exact .inl h1
  · exact .inr ⟨b, off, e, hlt, fun i hi => by have := hc i hi 0 (by omega); simpa using this⟩
theorem sumr_any' (a : Option Addr) (n cap : Nat) (f : Nat → Int) (w : World) (h : WideS.IntsIn w a n f) :
    Calls Try.prog 105 #[.slice a n cap] w fun e w' => e = .returned (.tuple #[.int .i64 (sumR f n).1, .int .i64 (sumR f n).2]) ∧ Below w.heap.size w w' :=
  (RefS.sumr_any a n cap f w h).mono fun e w' hh => ⟨hh.1, by rw [← hh.2]; exact Below.refl _ _⟩
end Go.Proofs.Ytgkahcchekiogaa.MetC

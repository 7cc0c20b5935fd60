/- Package plant: what a platform has; its reads. -/
import Derived.Test.YtgkahcchekiogaaPla
import Derived.Test.YtgkahcchekiogaaMetL
import Derived.Test.YtgkahcchekiogaaConf
import Derived.Test.YtgkahcchekiogaaOscPlain
import Derived.Defers
namespace Go.Proofs.Ytgkahcchekiogaa.Plb
open Go.RowKit Base Kit RefA Alt WideA WideB Plain MetA MetB MetC Conf
set_option linter.unusedVariables false
set_option linter.unusedSimpArgs false

/-- a platform's numbers -/
structure PS where
  (now base done level : Int) (m : MS)
structure POk (n ln : Nat) (s : PS) : Prop where
  now : 0 ≤ s.now ∧ s.now ≤ 2305843009213693952
  base : 0 ≤ s.base ∧ s.base ≤ 2305843009213693952
  done : 0 ≤ s.done ∧ s.done ≤ 2305843009213693952
  level : -1 ≤ s.level ∧ s.level < (ln : Int)
  tim : s.m.tim = s.now
  ok : MOk n s.m
/-- when cycles are done -/
def whenP (c : PowC) (s : PS) (cy : Int) : Int × Int :=
  if cy < 0 ∨ s.level < 0 ∨ c.lf s.level.toNat 0 < 1 then (0, 2) else
  if 2305843009213693952 - s.done < cy then (0, 6) else
  if (md (s.done + cy) 1000 (c.lf s.level.toNat 0) true).2 ≠ 0 ∨ 2305843009213693952 - s.base < (md (s.done + cy) 1000 (c.lf s.level.toNat 0) true).1 then (0, 6) else
  (s.base + (md (s.done + cy) 1000 (c.lf s.level.toNat 0) true).1, 0)
/-- where times end -/
def ends (now : Int) (f : Nat → Nat → Int) : Nat → Int
  | 0 => now
  | k + 1 => ends now f k + f k 3
def roomy (now : Int) (f : Nat → Nat → Int) (n : Nat) : Prop := ∀ i, i < n → 0 ≤ f i 3 ∧ f i 3 ≤ 2305843009213693952 - ends now f i
instance (now : Int) (f : Nat → Nat → Int) (n : Nat) : Decidable (roomy now f n) := by unfold roomy; exact inferInstance
/-- times that go by -/
def goes (n : Nat) (s : PS) (f : Nat → Nat → Int) : Nat → Int × PS
  | 0 => (0, s)
  | k + 1 => if (goes n s f k).1 ≠ 0 then goes n s f k else
    if (tk n (goes n s f k).2.m (f k 0) (f k 1) (f k 2) (f k 3)).1 ≠ 0 then ((tk n (goes n s f k).2.m (f k 0) (f k 1) (f k 2) (f k 3)).1, (goes n s f k).2) else
    (0, { (goes n s f k).2 with now := (goes n s f k).2.now + f k 3, m := (tk n (goes n s f k).2.m (f k 0) (f k 1) (f k 2) (f k 3)).2 })
def spendP (n : Nat) (s : PS) (f : Nat → Nat → Int) (k : Nat) : Int × PS := if roomy s.now f k then goes n s f k else (6, s)
def one (a b c d : Int) : Nat → Nat → Int := fun _ j => if j = 0 then a else if j = 1 then b else if j = 2 then c else d
def syncP (s : PS) : PS := { s with base := s.now, done := 0 }
def runP (n : Nat) (c : PowC) (s : PS) (part cy : Int) : Int × PS :=
  if part < 0 ∨ (n : Int) ≤ part then (2, s) else if (whenP c s cy).2 ≠ 0 then ((whenP c s cy).2, s) else
  if (spendP n s (one 0 part (c.lf s.level.toNat 1) ((whenP c s cy).1 - s.now)) 1).1 ≠ 0 then spendP n s (one 0 part (c.lf s.level.toNat 1) ((whenP c s cy).1 - s.now)) 1 else
  (0, { (spendP n s (one 0 part (c.lf s.level.toNat 1) ((whenP c s cy).1 - s.now)) 1).2 with done := (spendP n s (one 0 part (c.lf s.level.toNat 1) ((whenP c s cy).1 - s.now)) 1).2.done + cy })
/-- what a call with a base behind it leaves -/
def setP (r : Int × PS) (g : PS → PS) : Int × PS := if r.1 ≠ 0 then r else (0, syncP (g r.2))
def turnP (n : Nat) (c : PowC) (s : PS) (l : Int) : Int × PS :=
  if l < 0 ∨ (c.ln : Int) ≤ l then (2, s) else if l = s.level then (0, s) else setP (spendP n s (one 3 0 c.ch c.sw) 1) (fun t => { t with level := l })
def idleP (n : Nat) (c : PowC) (s : PS) (u : Int) : Int × PS :=
  if u < s.now then (2, s) else if 2305843009213693952 < u then (6, s) else setP (spendP n s (one 1 0 c.id (u - s.now)) 1) id
def three (ch ns : Int) (f : Nat → Nat → Int) (k : Nat) : Nat → Nat → Int := fun i j =>
  if i = 0 then one 3 0 ch (f k 1) 0 j else if i = 1 then one 2 0 (f k 0) ns 0 j else one 3 0 ch (f k 2) 0 j
def napP (n : Nat) (c : PowC) (s : PS) (nap cnt dr : Int) : Int × PS :=
  if nap < 0 ∨ (c.nn : Int) ≤ nap then (2, s) else if (OscPlain.el c.sl dr cnt).2 ≠ 0 then (2, s) else
  setP (spendP n s (three c.ch (OscPlain.el c.sl dr cnt).1 c.nf nap.toNat) 3) id

theorem goes_ok {n ln : Nat} {s : PS} {f : Nat → Nat → Int} (ok : POk n ln s) : ∀ k, roomy s.now f k → POk n ln (goes n s f k).2 ∧ s.now ≤ (goes n s f k).2.now ∧ (goes n s f k).2.now ≤ ends s.now f k ∧ ((goes n s f k).1 = 0 → (goes n s f k).2.now = ends s.now f k) ∧ (goes n s f k).2.done = s.done ∧ (goes n s f k).2.level = s.level ∧ ends s.now f k ≤ 2305843009213693952 ∧ 0 ≤ ends s.now f k
  | 0, _ => ⟨ok, Int.le_refl _, Int.le_refl _, fun _ => rfl, rfl, rfl, ok.now.2, ok.now.1⟩
  | k + 1, h => by
    obtain ⟨h1, h2, h3, h4, h5, h6, h7, h8⟩ := goes_ok ok k (fun i hi => h i (by omega))
    obtain ⟨r1, r2⟩ := h k (by omega)
    unfold goes
    rw [ends]
    by_cases e : (goes n s f k).1 ≠ 0
    · rw [if_pos e]; exact ⟨h1, h2, by omega, fun e' => absurd e' e, h5, h6, by omega, by omega⟩
    · rw [if_neg e]
      have e' : (goes n s f k).1 = 0 := by simpa using e
      have h4 := h4 e'
      by_cases t : (tk n (goes n s f k).2.m (f k 0) (f k 1) (f k 2) (f k 3)).1 ≠ 0
      · rw [if_pos t]; exact ⟨h1, h2, by show (goes n s f k).2.now ≤ _; omega, fun e' => absurd e' t, h5, h6, by omega, by omega⟩
      · rw [if_neg t]
        refine ⟨⟨⟨?_, ?_⟩, h1.base, h1.done, h1.level, ?_, tk_ok _ _ _ _ _ _ h1.ok⟩, ?_, ?_, fun _ => ?_, h5, h6, by omega, by omega⟩
        · show 0 ≤ (goes n s f k).2.now + f k 3; omega
        · show (goes n s f k).2.now + f k 3 ≤ _; omega
        · show (tk n (goes n s f k).2.m (f k 0) (f k 1) (f k 2) (f k 3)).2.tim = (goes n s f k).2.now + f k 3
          have ht := h1.tim
          unfold tk at t ⊢
          by_cases hb : bad n (f k 0) (f k 1) (f k 2) (f k 3)
          · rw [if_pos hb] at t; simp at t
          · rw [if_neg hb] at t ⊢
            by_cases hf : far n (goes n s f k).2.m (f k 2) (f k 3)
            · rw [if_pos hf] at t; simp at t
            · rw [if_neg hf]; show (goes n s f k).2.m.tim + f k 3 = _; omega
        · show s.now ≤ (goes n s f k).2.now + f k 3; omega
        · show (goes n s f k).2.now + f k 3 ≤ _; omega
        · show (goes n s f k).2.now + f k 3 = _; omega
theorem spend_ok {n ln : Nat} {s : PS} {f : Nat → Nat → Int} (ok : POk n ln s) (k : Nat) : POk n ln (spendP n s f k).2 ∧ s.now ≤ (spendP n s f k).2.now ∧ (spendP n s f k).2.done = s.done ∧ (spendP n s f k).2.level = s.level := by
  unfold spendP
  by_cases h : roomy s.now f k
  · rw [if_pos h]; obtain ⟨h1, h2, _, _, h5, h6, _⟩ := goes_ok ok k h; exact ⟨h1, h2, h5, h6⟩
  · rw [if_neg h]; exact ⟨ok, Int.le_refl _, rfl, rfl⟩
theorem sync_ok {n ln : Nat} {s : PS} (ok : POk n ln s) : POk n ln (syncP s) := ⟨ok.now, ok.now, ⟨Int.le_refl 0, by show (0 : Int) ≤ _; omega⟩, ok.level, ok.tim, ok.ok⟩
theorem when_bd {n ln : Nat} {c : PowC} {s : PS} (ok : POk n ln s) (cy : Int) : 0 ≤ (whenP c s cy).1 ∧ (whenP c s cy).1 ≤ 2305843009213693952 ∧ ((whenP c s cy).2 = 0 → 0 ≤ cy ∧ cy ≤ 2305843009213693952 - s.done ∧ 0 ≤ s.level) := by
  have hb := ok.base
  unfold whenP
  split
  · exact ⟨by simp, by simp, fun e => by simp at e⟩
  · split
    · exact ⟨by simp, by simp, fun e => by simp at e⟩
    · split
      · exact ⟨by simp, by simp, fun e => by simp at e⟩
      · obtain ⟨m0, m1, m2, m3⟩ := FitB.md_bd (s.done + cy) 1000 (c.lf s.level.toNat 0) true (fun _ _ _ => trivial)
        generalize (md (s.done + cy) 1000 (c.lf s.level.toNat 0) true).1 = x at *
        exact ⟨by simp only; omega, by simp only; omega, fun _ => by omega⟩
theorem run_ok {n ln : Nat} {c : PowC} {s : PS} (ok : POk n ln s) (part cy : Int) : POk n ln (runP n c s part cy).2 ∧ s.now ≤ (runP n c s part cy).2.now := by
  unfold runP
  split
  · exact ⟨ok, Int.le_refl _⟩
  · split
    · exact ⟨ok, Int.le_refl _⟩
    · rename_i h1 h2
      obtain ⟨k1, k2, k3, k4⟩ := spend_ok (f := one 0 part (c.lf s.level.toNat 1) ((whenP c s cy).1 - s.now)) ok 1
      split
      · exact ⟨k1, k2⟩
      · have hd := ok.done
        obtain ⟨w0, w1, w2⟩ := when_bd (c := c) ok cy
        have w2 := w2 (by simpa using h2)
        exact ⟨⟨k1.now, k1.base, by simp only; rw [k3]; omega, k1.level, k1.tim, k1.ok⟩, k2⟩
theorem set_ok {n ln : Nat} {s : PS} {r : Int × PS} {g : PS → PS} (h : POk n ln r.2 ∧ s.now ≤ r.2.now) (hg : POk n ln (g r.2) ∧ (g r.2).now = r.2.now) : POk n ln (setP r g).2 ∧ s.now ≤ (setP r g).2.now := by
  unfold setP
  split
  · exact h
  · exact ⟨sync_ok hg.1, by show s.now ≤ (g r.2).now; omega⟩
theorem turn_ok {n : Nat} {c : PowC} {s : PS} (ok : POk n c.ln s) (l : Int) : POk n c.ln (turnP n c s l).2 ∧ s.now ≤ (turnP n c s l).2.now := by
  unfold turnP
  split
  · exact ⟨ok, Int.le_refl _⟩
  · split
    · exact ⟨ok, Int.le_refl _⟩
    · obtain ⟨k1, k2, k3, k4⟩ := spend_ok (f := one 3 0 c.ch c.sw) ok 1
      exact set_ok ⟨k1, k2⟩ ⟨⟨k1.now, k1.base, k1.done, by simp only; omega, k1.tim, k1.ok⟩, rfl⟩
theorem idle_ok {n ln : Nat} {c : PowC} {s : PS} (ok : POk n ln s) (u : Int) : POk n ln (idleP n c s u).2 ∧ s.now ≤ (idleP n c s u).2.now := by
  unfold idleP
  split
  · exact ⟨ok, Int.le_refl _⟩
  · split
    · exact ⟨ok, Int.le_refl _⟩
    · obtain ⟨k1, k2, k3, k4⟩ := spend_ok (f := one 1 0 c.id (u - s.now)) ok 1
      exact set_ok ⟨k1, k2⟩ ⟨k1, rfl⟩
theorem nap_ok {n ln : Nat} {c : PowC} {s : PS} (ok : POk n ln s) (a b d : Int) : POk n ln (napP n c s a b d).2 ∧ s.now ≤ (napP n c s a b d).2.now := by
  unfold napP
  split
  · exact ⟨ok, Int.le_refl _⟩
  · split
    · exact ⟨ok, Int.le_refl _⟩
    · obtain ⟨k1, k2, k3, k4⟩ := spend_ok (f := three c.ch (OscPlain.el c.sl d b).1 c.nf a.toNat) ok 3
      exact set_ok ⟨k1, k2⟩ ⟨k1, rfl⟩

/-- a platform in memory, since a world -/
structure Pl (w0 w : World) (b m g n : Nat) (c : PowC) (s : PS) : Prop where
  bel : Below w0.heap.size w0 w
  hb : w0.heap.size ≤ b
  hm : w0.heap.size ≤ m
  hg : w0.heap.size ≤ g
  box : Box w b #[.int .i64 s.now, .int .i64 s.base, .int .i64 s.done, .int .i64 s.level, .slice c.la c.ln c.lc, .slice c.na c.nn c.nc, .int .i64 c.sw, .int .i64 c.id, .int .i64 c.ch, .int .i64 c.qu, .int .i64 c.sl, .int .i64 c.pp, .pointer (some ⟨m, 0, none⟩)] 43
  met : Hid (Mtr w m g n n s.m)
  ok : POk n c.ln s
  co : c.Ok w0
def PX (b m g : Nat) : Nat → Prop := fun i => i = b ∨ i = m ∨ i = g
theorem pl_next {w0 w w1 : World} {b m g n : Nat} {c : PowC} {s : PS} (h : Hid (Pl w0 w b m g n c s)) (k : Below w.heap.size w w1) : Hid (Pl w0 w1 b m g n c s) :=
  Lib.hid ⟨below_next h.out.bel k, h.out.hb, h.out.hm, h.out.hg, h.out.box.next k, Lib.hid (h.out.met.out.below k), h.out.ok, h.out.co⟩
theorem pl_alt {S : Nat → Prop} {w0 w w1 : World} {b m g n : Nat} {c : PowC} {s : PS} (h : Hid (Pl w0 w b m g n c s)) (k : Alt S w w1) (hS : ∀ i, S i → w0.heap.size ≤ i) (h1 : ¬ S b) (h2 : ¬ S m) (h3 : ¬ S g) : Hid (Pl w0 w1 b m g n c s) :=
  Lib.hid ⟨k.below h.out.bel h.out.bel.size hS, h.out.hb, h.out.hm, h.out.hg, box_alt h.out.box k h1, Lib.hid (h.out.met.out.alt k h2 h3), h.out.ok, h.out.co⟩
theorem pl_lev {w0 w : World} {b m g n : Nat} {c : PowC} {s : PS} (h : Hid (Pl w0 w b m g n c s)) : Hid (Open.RowsIn w c.la c.ln 2 c.lf) := Lib.hid (rows_below h.out.co.lev.out h.out.bel (Nat.le_refl _))
theorem pl_nap {w0 w : World} {b m g n : Nat} {c : PowC} {s : PS} (h : Hid (Pl w0 w b m g n c s)) : Hid (Open.RowsIn w c.na c.nn 3 c.nf) := Lib.hid (rows_below h.out.co.nap.out h.out.bel (Nat.le_refl _))

theorem dead_any (w : World) (b m : Nat) (c12 : w.cell? ⟨b, 12, none⟩ = some (.pointer (some ⟨m, 0, none⟩))) :
    Calls Try.prog 61 #[.pointer (some ⟨b, 0, none⟩)] w fun e w' => e = .returned (.bool false) ∧ w = w' := by
  go_enter Try.func61, Try.ntmps61
  go_wp2_with fail
  go_ret
  exact ⟨rfl, rfl⟩
theorem now_any {w0 w : World} {b m g n : Nat} {c : PowC} {s : PS} (h : Hid (Pl w0 w b m g n c s)) :
    Calls Try.prog 17 #[.pointer (some ⟨b, 0, none⟩)] w fun e w' => e = .returned (.int .i64 s.now) ∧ w = w' := by
  have hb := h.out.box.cell
  go_enter Try.func17, Try.ntmps17
  go_wp2_with fail
  refine (dead_any _ _ m (by rw [hb]; rfl)).mono ?_
  rintro e w' ⟨rfl, rfl⟩
  go_wp2_with fail
  go_ret
  exact ⟨rfl, rfl⟩
theorem level_any {w0 w : World} {b m g n : Nat} {c : PowC} {s : PS} (h : Hid (Pl w0 w b m g n c s)) :
    Calls Try.prog 27 #[.pointer (some ⟨b, 0, none⟩)] w fun e w' => e = .returned (.int .i64 s.level) ∧ w = w' := by
  have hb := h.out.box.cell
  go_enter Try.func27, Try.ntmps27
  go_wp2_with fail
  refine (dead_any _ _ m (by rw [hb]; rfl)).mono ?_
  rintro e w' ⟨rfl, rfl⟩
  go_wp2_with fail
  go_ret
  exact ⟨rfl, rfl⟩
theorem meter_any {w0 w : World} {b m g n : Nat} {c : PowC} {s : PS} (h : Hid (Pl w0 w b m g n c s)) :
    Calls Try.prog 19 #[.pointer (some ⟨b, 0, none⟩)] w fun e w' => e = .returned (.pointer (some ⟨m, 0, none⟩)) ∧ w = w' := by
  have hb := h.out.box.cell
  go_enter Try.func19, Try.ntmps19
  go_wp2_with fail
  refine (dead_any _ _ m (by rw [hb]; rfl)).mono ?_
  rintro e w' ⟨rfl, rfl⟩
  go_wp2_with fail
  go_ret
  exact ⟨rfl, rfl⟩

/-- what a step of a platform leaves -/
def PPost (w0 w : World) (b m g n : Nat) (c : PowC) (r : Int) (s : PS) (e : Ending) (w' : World) : Prop := e = .returned (.int .i64 r) ∧ Alt (PX b m g) w w' ∧ Hid (Pl w0 w' b m g n c s)
def SyPost (w0 w : World) (b m g n : Nat) (c : PowC) (s : PS) (e : Ending) (w' : World) : Prop := e = .returned (.tuple #[]) ∧ Alt (PX b m g) w w' ∧ Hid (Pl w0 w' b m g n c s)
theorem pl_set {w0 w : World} {b m g n : Nat} {c : PowC} {s s' : PS} (h : Hid (Pl w0 w b m g n c s)) {w1 : World} (hw : Alt (fun i => i = b) w w1) (hbx : ∀ vs, Box w b vs 43 → vs = #[.int .i64 s.now, .int .i64 s.base, .int .i64 s.done, .int .i64 s.level, .slice c.la c.ln c.lc, .slice c.na c.nn c.nc, .int .i64 c.sw, .int .i64 c.id, .int .i64 c.ch, .int .i64 c.qu, .int .i64 c.sl, .int .i64 c.pp, .pointer (some ⟨m, 0, none⟩)] → Box w1 b #[.int .i64 s'.now, .int .i64 s'.base, .int .i64 s'.done, .int .i64 s'.level, .slice c.la c.ln c.lc, .slice c.na c.nn c.nc, .int .i64 c.sw, .int .i64 c.id, .int .i64 c.ch, .int .i64 c.qu, .int .i64 c.sl, .int .i64 c.pp, .pointer (some ⟨m, 0, none⟩)] 43) (hm : s'.m = s.m) (ok : POk n c.ln s') : Alt (PX b m g) w w1 ∧ Hid (Pl w0 w1 b m g n c s') := by
  have e1 := box_ne h.out.met.out.box h.out.box (by decide)
  have e2 := own_ne h.out.met.out.own h.out.box (by decide)
  exact ⟨hw.mono (fun i hi => .inl hi), Lib.hid ⟨hw.below h.out.bel h.out.bel.size (fun i hi => by have := h.out.hb; omega), h.out.hb, h.out.hm, h.out.hg, hbx _ h.out.box rfl, Lib.hid (by rw [hm]; exact h.out.met.out.alt hw e1 e2), ok, h.out.co⟩⟩
theorem sync_any {w0 w : World} {b m g n : Nat} {c : PowC} {s : PS} (h : Hid (Pl w0 w b m g n c s)) :
    Calls Try.prog 21 #[.pointer (some ⟨b, 0, none⟩)] w (SyPost w0 w b m g n c (syncP s)) := by
  have hb := h.out.box.cell
  have hf := h.out.box.frozen
  go_enter Try.func21, Try.ntmps21
  go_wp2_with fail
  refine (dead_any _ _ m (by rw [hb]; rfl)).mono ?_
  rintro e w' ⟨rfl, rfl⟩
  go_wp2_with fail
  refine bodyPost_end (v := .tuple #[]) (by simp [results, Try.results21, go_sem]) rfl ⟨rfl, ?_⟩
  exact pl_set h ((Alt.set (S := fun i => i = b) _ _ _ rfl).trans (Alt.set _ _ _ rfl)) (fun vs hv e => by subst e; exact (hv.set 1 (.int .i64 s.now)).set 2 (.int .i64 0)) rfl (sync_ok h.out.ok)
end Go.Proofs.Ytgkahcchekiogaa.Plb

/- Walks of package plant: spend. -/
import Derived.Test.YtgkahcchekiogaaPlc
import Derived.Test.YtgkahcchekiogaaHeldT
import Derived.Test.YtgkahcchekiogaaMetS
import Derived.Deep.RegionLaw
import Derived.Deep.AppendLies
import Derived.Deep.DrawnRows
namespace Go.Proofs.Ytgkahcchekiogaa.Pld
open Go.RowKit Base Kit RefA Alt WideA WideB Plain MetA MetB MetC Conf Plb Plc Held
set_option linter.unusedVariables false
set_option linter.unusedSimpArgs false
attribute [local go_sem ↓] Go.wp_at_zero Go.wp_at_succ

/-- rows of spans -/
structure Sp (w : World) (b m g r k : Nat) (f : Nat → Nat → Int) : Prop where
  lt : r < w.heap.size
  e1 : r ≠ b
  e2 : r ≠ m
  e3 : r ≠ g
  i64 : ∀ i, i < k → ∀ j, j < 4 → I64 (f i j)
  cell : ∀ i, i < k → ∀ j, j < 4 → w.cell? ⟨r, i * 4 + j, none⟩ = some (.int .i64 (f i j))
theorem sp_alt {w w1 : World} {b m g r k : Nat} {f : Nat → Nat → Int} (h : Sp w b m g r k f) (a : Alt (PX b m g) w w1) : Sp w1 b m g r k f :=
  ⟨Nat.lt_of_lt_of_le h.lt a.size, h.e1, h.e2, h.e3, h.i64, fun i hi j hj => by
    rw [World.cell?_of_block (w := w) (a.block _ h.lt (fun e => by rcases e with e | e | e; exact h.e1 e; exact h.e2 e; exact h.e3 e))]; exact h.cell i hi j hj⟩
/-- the last span that has no room -/
theorem not_roomy {now : Int} {f : Nat → Nat → Int} {k i : Nat} (hi : i < k) (h : ¬ (0 ≤ f i 3 ∧ f i 3 ≤ 2305843009213693952 - ends now f i)) : ¬ roomy now f k := fun hh => h (hh i hi)
theorem roomy_lt {now : Int} {f : Nat → Nat → Int} (h0 : 0 ≤ now ∧ now ≤ 2305843009213693952) : ∀ i, roomy now f i → 0 ≤ ends now f i ∧ ends now f i ≤ 2305843009213693952
  | 0, _ => h0
  | i + 1, h => by
    have := roomy_lt h0 i (fun j hj => h j (by omega))
    have := h i (by omega)
    rw [ends]; omega
theorem goes_stop {n : Nat} {s : PS} {f : Nat → Nat → Int} {i : Nat} (h : (goes n s f i).1 ≠ 0) : ∀ k, i ≤ k → goes n s f k = goes n s f i
  | 0, hk => by obtain rfl : i = 0 := by omega
                rfl
  | k + 1, hk => by
    by_cases e : i = k + 1
    · rw [e]
    · have := goes_stop h k (by omega)
      rw [goes, this, if_pos h]

/-- a take, of a platform's meter -/
theorem pl_take {w0 w : World} {b m g n : Nat} {c : PowC} {s : PS} (h : Hid (Pl w0 w b m g n c s)) (k p pw ns : Int) (i1 : I64 pw) (i2 : I64 ns) {r : Int} {s' : MS} (hr : Hid (tk n s.m k p pw ns = (r, s'))) :
    Calls Try.prog 127 #[.pointer (some ⟨m, 0, none⟩), .int .i64 k, .int .i64 p, .int .i64 pw, .int .i64 ns] w fun e w' => e = .returned (.int .i64 r) ∧ Hid (Alt (fun i => i = m ∨ i = g) w w' ∧ Box w' b #[.int .i64 s.now, .int .i64 s.base, .int .i64 s.done, .int .i64 s.level, .slice c.la c.ln c.lc, .slice c.na c.nn c.nc, .int .i64 c.sw, .int .i64 c.id, .int .i64 c.ch, .int .i64 c.qu, .int .i64 c.sl, .int .i64 c.pp, .pointer (some ⟨m, 0, none⟩)] 43 ∧ Hid (Mtr w' m g n n s')) := by
  have := take_any w m g n n s.m k p pw ns h.out.met h.out.ok.ok i1 i2
  rw [hr.out] at this
  have e1 := box_ne h.out.met.out.box h.out.box (by decide)
  have e2 := own_ne h.out.met.out.own h.out.box (by decide)
  exact this.mono fun e w' hh => ⟨hh.1, Lib.hid ⟨hh.2.1, box_alt h.out.box hh.2.1 (fun e => by rcases e with e | e; exact e1 e.symm; exact e2 e.symm), hh.2.2⟩⟩

set_option maxRecDepth 100000 in
set_option maxHeartbeats 2000000 in
theorem spend_any {w0 w : World} {b m g n : Nat} {c : PowC} {s : PS} (h : Hid (Pl w0 w b m g n c s)) (r k : Nat) (f : Nat → Nat → Int) (hk3 : k ≤ 3) (hs : Hid (Sp w b m g r k f)) (x : Int) (s' : PS) (hx : Hid (spendP n s f k = (x, s'))) :
    Calls Try.prog 71 #[.pointer (some ⟨b, 0, none⟩), .slice (some ⟨r, 0, none⟩) k k] w (PPost w0 w b m g n c x s') := by
  have hb := h.out.box.cell
  have n0 := h.out.ok.now
  obtain ⟨now, hnow⟩ : ∃ t, s.now = t := ⟨_, rfl⟩
  rw [hnow] at hb n0
  have HN := Lib.hid hnow
  clear hnow
  have HE0 := Lib.hid (fun i => roomy_lt (f := f) n0 i)
  have FAR := Lib.hid (fun (i : Nat) (hi : i < k) (hh : ¬ (0 ≤ f i 3 ∧ f i 3 ≤ 2305843009213693952 - ends now f i)) => show x = 6 ∧ s' = s by
    have := hx.out
    rw [spendP, HN.out, if_neg (not_roomy hi hh)] at this
    cases this; exact ⟨rfl, rfl⟩)
  have NEAR := Lib.hid (fun (hh : roomy now f k) => show goes n s f k = (x, s') by
    have := hx.out
    rw [spendP, HN.out, if_pos hh] at this
    exact this)
  clear hx
  go_enter Try.func71, Try.ntmps71
  go_wp2_with fail
  go_loopw [5, 18] (fun t i wr => ∃ i', i' ≤ k ∧ i = .int .i64 (i' : Nat) ∧ t = .int .i64 (ends now f i') ∧ Hid (roomy now f i') ∧ Hid (Below w.heap.size w wr)) (fun _ i _ => k - (intOf i).toNat)
  case atStart => exact ⟨0, by omega, rfl, rfl, Lib.hid (fun i hi => by omega), Lib.hid (Below.refl _ _)⟩
  case round =>
    obtain ⟨i, hi, rfl, rfl, R, HB⟩ := hrel
    by_cases hlt : i < k
    · have S1 := Lib.hid (sp_alt hs.out (Alt.of_below HB.out))
      have a0 := S1.out.cell i hlt 0 (by omega)
      have a1 := S1.out.cell i hlt 1 (by omega)
      have a2 := S1.out.cell i hlt 2 (by omega)
      have a3 := S1.out.cell i hlt 3 (by omega)
      rw [Nat.add_zero] at a0
      have E0 := HE0.out i R.out
      have j3 := S1.out.i64 i hlt 3 (by omega)
      have RN := Lib.hid (fun (hh : 0 ≤ f i 3 ∧ f i 3 ≤ 2305843009213693952 - ends now f i) => show roomy now f (i + 1) by
        intro j hj
        by_cases e : j = i
        · subst e; exact hh
        · exact R.out j (by omega))
      have EE := Lib.hid (show ends now f (i + 1) = ends now f i + f i 3 from rfl)
      have FR := Lib.hid (FAR.out i hlt)
      generalize ends now f i = en at *
      generalize f i 0 = x0 at *
      generalize f i 1 = x1 at *
      generalize f i 2 = x2 at *
      generalize f i 3 = x3 at *
      have BD := Lib.hid (below_alloc (w0 := w) (w := wr) (.cells #[.int .i64 x0, .int .i64 x1, .int .i64 x2, .int .i64 x3] 124) HB (Below.refl _ _)).out
      have bd := (Box.new wr #[.int .i64 x0, .int .i64 x1, .int .i64 x2, .int .i64 x3] 124).cell
      have ways : x3 < 0 ∨ (0 ≤ x3 ∧ decide (x3 < 0) = false ∧ 2305843009213693952 - en < x3) ∨ (0 ≤ x3 ∧ decide (x3 < 0) = false ∧ x3 ≤ 2305843009213693952 - en) := by
        by_cases h1 : x3 < 0
        · exact .inl h1
        · by_cases h2 : 2305843009213693952 - en < x3
          · exact .inr (.inl ⟨by omega, by simp; omega, h2⟩)
          · exact .inr (.inr ⟨by omega, by simp; omega, by omega⟩)
      rcases ways with q1 | ⟨q1, q2, q3⟩ | ⟨q1, q2, q3⟩
      · obtain ⟨rfl, rfl⟩ := FR.out (by omega)
        go_wp2_with fail
        go_ret
        exact ⟨rfl, Alt.of_below BD.out, pl_next h BD.out⟩
      · obtain ⟨rfl, rfl⟩ := FR.out (by omega)
        go_wp2_with fail
        go_ret
        exact ⟨rfl, Alt.of_below BD.out, pl_next h BD.out⟩
      · have RN := Lib.hid (RN.out ⟨q1, q3⟩)
        go_wp2_with fail
        go_roundw
        case rel => exact ⟨i + 1, by omega, by go_num, by rw [EE.out], RN, BD⟩
        case measure => simp [intOf]; omega
    · obtain rfl : i = k := by omega
      have NEAR := Lib.hid (NEAR.out R.out)
      have R := R
      have P0 := pl_next h HB.out
      have A0 := Lib.hid (Alt.of_below (S := PX b m g) HB.out)
      clear FAR HE0 HB hb
      go_wp2_with fail
      go_loopw [39] (fun q wr => ∃ (j : Nat) (t : PS), j ≤ i ∧ q = .int .i64 (j : Nat) ∧ Hid (goes n s f j = (0, t)) ∧ Hid (Alt (PX b m g) w wr) ∧ Hid (Pl w0 wr b m g n c t)) (fun q _ => i - (intOf q).toNat)
      case atStart => exact ⟨0, s, by omega, rfl, Lib.hid rfl, A0, P0⟩
      case round =>
        clear P0 A0
        obtain ⟨j, t, hj, rfl, G, A1, P1⟩ := hrel
        by_cases hlt : j < i
        · have S1 := Lib.hid (sp_alt hs.out A1.out)
          have a0 := S1.out.cell j hlt 0 (by omega)
          have a1 := S1.out.cell j hlt 1 (by omega)
          have a2 := S1.out.cell j hlt 2 (by omega)
          have a3 := S1.out.cell j hlt 3 (by omega)
          rw [Nat.add_zero] at a0
          have j2 := S1.out.i64 j hlt 2 (by omega)
          have j3 := S1.out.i64 j hlt 3 (by omega)
          obtain ⟨o1, o2, o3, o4, o5, o6, o7, o8⟩ := goes_ok (n := n) (f := f) h.out.ok (j + 1) (fun q hq => by rw [HN.out]; exact R.out q (by omega))
          have G1 : goes n s f (j + 1) = if (tk n t.m (f j 0) (f j 1) (f j 2) (f j 3)).1 ≠ 0 then ((tk n t.m (f j 0) (f j 1) (f j 2) (f j 3)).1, t) else (0, { t with now := t.now + f j 3, m := (tk n t.m (f j 0) (f j 1) (f j 2) (f j 3)).2 }) := by
            rw [goes, G.out]; simp
          obtain ⟨tk1, -⟩ := MetS.tk_more n t.m (f j 0) (f j 1) (f j 2) (f j 3) P1.out.ok.ok
          have J3 : 0 ≤ f j 3 := (R.out j (by omega)).1
          generalize f j 0 = x0 at *
          generalize f j 1 = x1 at *
          generalize f j 2 = x2 at *
          generalize f j 3 = x3 at *
          obtain ⟨e, he⟩ : ∃ e, (tk n t.m x0 x1 x2 x3).1 = e := ⟨_, rfl⟩
          obtain ⟨m', hm'⟩ : ∃ m', (tk n t.m x0 x1 x2 x3).2 = m' := ⟨_, rfl⟩
          rw [he, hm'] at G1 tk1
          have C := Lib.hid (fun w' (h : Hid (Pl w0 w' b m g n c t)) => pl_take h x0 x1 x2 x3 j2 j3 (Lib.hid (Prod.ext he hm')))
          clear he hm'
          obtain ⟨tn, htn⟩ : ∃ tn, t.now = tn := ⟨_, rfl⟩
          have n1 := P1.out.ok.now
          rw [htn] at n1
          have n2 : e = 0 → tn + x3 ≤ 2305843009213693952 := fun e0 => by
            rw [if_neg (by simpa using e0)] at G1
            rw [G1] at o1
            have := o1.now.2
            simp only [htn] at this
            exact this
          have O1 := Lib.hid o1
          have GG1 := Lib.hid G1
          clear o1 o2 o3 o4 o5 o6 o7 o8 G1
          have P2 := pl_next (pl_next P1 ((Below.refl _ _).alloc (Nat.le_refl _) (.cells #[.int .i64 x0, .int .i64 x1, .int .i64 x2, .int .i64 x3] 124))) (Below.refl _ _).drew
          have A2 := Lib.hid ((A1.out.trans (Alt.alloc _ (.cells #[.int .i64 x0, .int .i64 x1, .int .i64 x2, .int .i64 x3] 124))).trans (Alt.of_below (Below.refl _ _).drew))
          have B2 := Lib.hid ((Box.new wr #[.int .i64 x0, .int .i64 x1, .int .i64 x2, .int .i64 x3] 124).drew)
          have B3 := (Box.new wr #[.int .i64 x0, .int .i64 x1, .int .i64 x2, .int .i64 x3] 124).cell
          have ways : ((e != 0) = true ∧ e ≠ 0 ∧ m' = t.m) ∨ e = 0 := by
            rcases tk1 with h | h
            · exact .inr h
            · exact .inl ⟨by simpa using h.1, h⟩
          clear tk1
          have NEM := Lib.hid (box_ne B2.out P2.out.met.out.box (by decide))
          have NEG := Lib.hid (own_ne P2.out.met.out.own B2.out (by decide)).symm
          go_wp2_with fail
          have SZ : (wr.alloc (.cells #[.int .i64 x0, .int .i64 x1, .int .i64 x2, .int .i64 x3] 124)).heap.size = wr.heap.size + 1 := by simp
          generalize wr.alloc (.cells #[.int .i64 x0, .int .i64 x1, .int .i64 x2, .int .i64 x3] 124) = W1 at *
          have pb := P2.out.box.cell
          have sb := B2.out.cell
          rw [htn] at pb
          have HTN := Lib.hid htn
          clear htn
          go_region_held3 (fun w' => (∀ i, w'.cell? ⟨b, i, none⟩ = (#[.int .i64 tn, .int .i64 t.base, .int .i64 t.done, .int .i64 t.level, .slice c.la c.ln c.lc, .slice c.na c.nn c.nc, .int .i64 c.sw, .int .i64 c.id, .int .i64 c.ch, .int .i64 c.qu, .int .i64 c.sl, .int .i64 c.pp, .pointer (some ⟨m, 0, none⟩)] : Array Value)[i]?) ∧ (∀ i, w'.cell? ⟨wr.heap.size, i, none⟩ = (#[.int .i64 x0, .int .i64 x1, .int .i64 x2, .int .i64 x3] : Array Value)[i]?))
            (first
              | exact ⟨pb, sb⟩
              | exact ⟨pb2, sb2⟩)
            (first
              | (go_at_call 127; refine (C.out _ P2).mono ?_; rintro e1 w2 ⟨rfl, h2⟩; have pb2 := h2.out.2.1.cell; rw [HTN.out] at pb2; have sb2 := (box_alt B2.out h2.out.1 (fun e => by rcases e with e | e; exact NEM.out e; exact NEG.out e)).cell))
          have A3 := Lib.hid (A2.out.trans (h2.out.1.mono (fun i hi => by rcases hi with h | h; exact .inr (.inl h); exact .inr (.inr h))))
          have NEB := Lib.hid (box_ne B2.out P2.out.box (by decide))
          have BS2 := Lib.hid (box_alt B2.out h2.out.1 (fun e => by rcases e with e | e; exact NEM.out e; exact NEG.out e))
          clear pb sb B3 C
          rcases ways with ⟨e1, e2, rfl⟩ | rfl
          · have GG := GG1.out
            rw [if_pos e2] at GG
            have NR := NEAR.out
            rw [goes_stop (i := j + 1) (by rw [GG]; exact e2) i (by omega), GG] at NR
            have FIN : Hid (Pl w0 w2 b m g n c t) := Lib.hid ⟨A3.out.below h.out.bel h.out.bel.size (fun i hi => by have := h.out.hb; have := h.out.hm; have := h.out.hg; rcases hi with h | h | h <;> omega), h.out.hb, h.out.hm, h.out.hg, h2.out.2.1, h2.out.2.2, P2.out.ok, h.out.co⟩
            simp only [Prod.mk.injEq] at NR
            obtain ⟨rfl, rfl⟩ := NR
            clear e2 GG GG1 n2 NEAR R G O1 a0 a1 a2 a3
            go_wp2_with fail
            go_ret
            exact ⟨rfl, A3.out, FIN⟩
          · have n2 := n2 rfl
            have GG := Lib.hid (GG1.out.trans (if_neg (by simp)))
            have WS : IntKind.i64.wrap (tn + x3) = tn + x3 := IntWalk.i64_in _ (by omega)
            have OK1 := O1.out
            rw [GG.out] at OK1
            have OK1 := Lib.hid OK1
            clear GG1 NEAR R G O1 a0 a1 a2 a3
            have pd := h2.out.2.1.drew.cell
            have fd := h2.out.2.1.drew.frozen
            have sd := BS2.out.drew.cell
            rw [HTN.out] at pd
            go_wp2_with fail
            clear pb2 sb2
            refine wp_region_till (fun w' => (∀ i, w'.cell? ⟨wr.heap.size, i, none⟩ = (#[.int .i64 x0, .int .i64 x1, .int .i64 x2, .int .i64 x3] : Array Value)[i]?) ∧ True) (fun w' => ∀ i, w'.cell? ⟨b, i, none⟩ = (#[.int .i64 tn, .int .i64 t.base, .int .i64 t.done, .int .i64 t.level, .slice c.la c.ln c.lc, .slice c.na c.nn c.nc, .int .i64 c.sw, .int .i64 c.id, .int .i64 c.ch, .int .i64 c.qu, .int .i64 c.sl, .int .i64 c.pp, .pointer (some ⟨m, 0, none⟩)] : Array Value)[i]?) 11 12 #[false, false, false, false, false, false, false, false, false, false, false, false] (by kernel_rfl) rfl rfl ⟨⟨sd, trivial⟩, pd⟩ (fun hHeld => ?_)
            refine HeldT.wpTill_takeT false (i := 0) (v := ?_) rfl (by kernel_rfl) (by kernel_rfl) (by kernel_rfl) (fun _ _ _ h => h) (by kernel_rfl) (Or.inl ⟨by first | rfl | kernel_rfl, ?_⟩) hHeld (fun hHeld => ?_)
            rotate_left
            · (intro w' hSw; obtain ⟨⟨r1, r2⟩, r3⟩ := hSw; (try have r4 := r3 rfl); (try dsimp only at r1 r2 r4); clear r3; go_simp; try with_reducible rfl)
            try simp only [Act.put, List.setIfInBounds_toArray, List.set_cons_zero, List.set_cons_succ, List.getElem_toArray, List.getElem_cons_succ, List.getElem_cons_zero]
            refine HeldT.wpTill_takeT false (i := 1) (v := ?_) rfl (by kernel_rfl) (by kernel_rfl) (by kernel_rfl) (fun _ _ _ h => h) (by kernel_rfl) (Or.inl ⟨by first | rfl | kernel_rfl, ?_⟩) hHeld (fun hHeld => ?_)
            rotate_left
            · (intro w' hSw; obtain ⟨⟨r1, r2⟩, r3⟩ := hSw; (try have r4 := r3 rfl); (try dsimp only at r1 r2 r4); clear r3; go_simp; try with_reducible rfl)
            try simp only [Act.put, List.setIfInBounds_toArray, List.set_cons_zero, List.set_cons_succ, List.getElem_toArray, List.getElem_cons_succ, List.getElem_cons_zero]
            refine HeldT.wpTill_takeT false (i := 2) (v := ?_) rfl (by kernel_rfl) (by kernel_rfl) (by kernel_rfl) (fun _ _ _ h => h) (by kernel_rfl) (Or.inl ⟨by first | rfl | kernel_rfl, ?_⟩) hHeld (fun hHeld => ?_)
            rotate_left
            · (intro w' hSw; obtain ⟨⟨r1, r2⟩, r3⟩ := hSw; (try have r4 := r3 rfl); (try dsimp only at r1 r2 r4); clear r3; go_simp; try with_reducible rfl)
            try simp only [Act.put, List.setIfInBounds_toArray, List.set_cons_zero, List.set_cons_succ, List.getElem_toArray, List.getElem_cons_succ, List.getElem_cons_zero]
            refine HeldT.wpTill_takeT false (i := 3) (v := ?_) rfl (by kernel_rfl) (by kernel_rfl) (by kernel_rfl) (fun _ _ _ h => h) (by kernel_rfl) (Or.inl ⟨by first | rfl | kernel_rfl, ?_⟩) hHeld (fun hHeld => ?_)
            rotate_left
            · (intro w' hSw; obtain ⟨⟨r1, r2⟩, r3⟩ := hSw; (try have r4 := r3 rfl); (try dsimp only at r1 r2 r4); clear r3; go_simp; try with_reducible rfl)
            try simp only [Act.put, List.setIfInBounds_toArray, List.set_cons_zero, List.set_cons_succ, List.getElem_toArray, List.getElem_cons_succ, List.getElem_cons_zero]
            refine HeldT.wpTill_takeT true (i := 4) (v := ?_) rfl (by kernel_rfl) (by kernel_rfl) (by kernel_rfl) (fun _ _ _ h => h) (by kernel_rfl) (Or.inl ⟨by first | rfl | kernel_rfl, ?_⟩) hHeld (fun hHeld => ?_)
            rotate_left
            · (intro w' hSw; obtain ⟨⟨r1, r2⟩, r3⟩ := hSw; (try have r4 := r3 rfl); (try dsimp only at r1 r2 r4); clear r3; go_simp; try with_reducible rfl)
            try simp only [Act.put, List.setIfInBounds_toArray, List.set_cons_zero, List.set_cons_succ, List.getElem_toArray, List.getElem_cons_succ, List.getElem_cons_zero]
            refine HeldT.wpTill_takeT false (i := 5) (v := ?_) rfl (by kernel_rfl) (by kernel_rfl) (by kernel_rfl) (fun _ _ _ h => h) (by kernel_rfl) (Or.inl ⟨by first | rfl | kernel_rfl, ?_⟩) hHeld (fun hHeld => ?_)
            rotate_left
            · (intro w' hSw; obtain ⟨⟨r1, r2⟩, r3⟩ := hSw; (try have r4 := r3 rfl); (try dsimp only at r1 r2 r4); clear r3; go_simp; try with_reducible rfl)
            try simp only [Act.put, List.setIfInBounds_toArray, List.set_cons_zero, List.set_cons_succ, List.getElem_toArray, List.getElem_cons_succ, List.getElem_cons_zero]
            refine HeldT.wpTill_takeT false (i := 6) (v := ?_) rfl (by kernel_rfl) (by kernel_rfl) (by kernel_rfl) (fun _ _ _ h => h) (by kernel_rfl) (Or.inl ⟨by first | rfl | kernel_rfl, ?_⟩) hHeld (fun hHeld => ?_)
            rotate_left
            · (intro w' hSw; obtain ⟨⟨r1, r2⟩, r3⟩ := hSw; (try have r4 := r3 rfl); (try dsimp only at r1 r2 r4); clear r3; go_simp; try with_reducible rfl)
            try simp only [Act.put, List.setIfInBounds_toArray, List.set_cons_zero, List.set_cons_succ, List.getElem_toArray, List.getElem_cons_succ, List.getElem_cons_zero]
            refine HeldT.wpTill_takeT false (i := 7) (v := ?_) rfl (by kernel_rfl) (by kernel_rfl) (by kernel_rfl) (fun _ _ _ h => h) (by kernel_rfl) (Or.inl ⟨by first | rfl | kernel_rfl, ?_⟩) hHeld (fun hHeld => ?_)
            rotate_left
            · (intro w' hSw; obtain ⟨⟨r1, r2⟩, r3⟩ := hSw; (try have r4 := r3 rfl); (try dsimp only at r1 r2 r4); clear r3; go_simp; try with_reducible rfl)
            try simp only [Act.put, List.setIfInBounds_toArray, List.set_cons_zero, List.set_cons_succ, List.getElem_toArray, List.getElem_cons_succ, List.getElem_cons_zero]
            refine HeldT.wpTill_takeT false (i := 8) (v := ?_) rfl (by kernel_rfl) (by kernel_rfl) (by kernel_rfl) (fun _ _ _ h => h) (by kernel_rfl) (Or.inl ⟨by first | rfl | kernel_rfl, ?_⟩) hHeld (fun hHeld => ?_)
            rotate_left
            · (intro w' hSw; obtain ⟨⟨r1, r2⟩, r3⟩ := hSw; (try have r4 := r3 rfl); (try dsimp only at r1 r2 r4); clear r3; go_simp; try with_reducible rfl)
            try simp only [Act.put, List.setIfInBounds_toArray, List.set_cons_zero, List.set_cons_succ, List.getElem_toArray, List.getElem_cons_succ, List.getElem_cons_zero]
            refine HeldT.wpTill_takeT false (i := 9) (v := ?_) rfl (by kernel_rfl) (by kernel_rfl) (by kernel_rfl) (fun _ _ _ h => h) (by kernel_rfl) (Or.inl ⟨by first | rfl | kernel_rfl, ?_⟩) hHeld (fun hHeld => ?_)
            rotate_left
            · (intro w' hSw; obtain ⟨⟨r1, r2⟩, r3⟩ := hSw; (try have r4 := r3 rfl); (try dsimp only at r1 r2 r4); clear r3; go_simp; try with_reducible rfl)
            try simp only [Act.put, List.setIfInBounds_toArray, List.set_cons_zero, List.set_cons_succ, List.getElem_toArray, List.getElem_cons_succ, List.getElem_cons_zero]
            refine HeldT.wpTill_takeT false (i := 10) (v := ?_) rfl (by kernel_rfl) (by kernel_rfl) (by kernel_rfl) (fun _ _ _ h => h) (by kernel_rfl) (Or.inl ⟨by first | rfl | kernel_rfl, ?_⟩) hHeld (fun hHeld => ?_)
            rotate_left
            · (intro w' hSw; obtain ⟨⟨r1, r2⟩, r3⟩ := hSw; (try have r4 := r3 rfl); (try dsimp only at r1 r2 r4); clear r3; go_simp; try with_reducible rfl)
            try simp only [Act.put, List.setIfInBounds_toArray, List.set_cons_zero, List.set_cons_succ, List.getElem_toArray, List.getElem_cons_succ, List.getElem_cons_zero]
            refine wpTill_one (i := 11) (by kernel_rfl) rfl (fun K hK => ?_)
            go_simp
            refine hK _ _ ⟨⟨rule_set hHeld.1.1 _ _ NEB.out, trivial⟩, fun h => (by cases h)⟩ (fun hHeld => ?_)
            clear hK K
            refine wpTill_done (by kernel_rfl) ?_ 0
            have D2 := Alt.drewN (S := fun _ => False) w2 1
            have S3 := Alt.set (S := fun i => i = b) w2.drew ⟨b, 0, none⟩ (.int .i64 (tn + x3)) rfl
            have A4 := Lib.hid ((A3.out.trans (Alt.of_below (Below.refl _ _).drew)).trans (S3.mono (fun i hi => .inl hi)))
            have FIN : Hid (Pl w0 (w2.drew.setCell ⟨b, 0, none⟩ (.int .i64 (tn + x3))) b m g n c { t with now := t.now + x3, m := m' }) := by
              have q1 := box_ne h2.out.2.2.out.box h2.out.2.1 (by decide)
              have q2 := own_ne h2.out.2.2.out.own h2.out.2.1 (by decide)
              refine Lib.hid ⟨A4.out.below h.out.bel h.out.bel.size (fun i hi => by have := h.out.hb; have := h.out.hm; have := h.out.hg; rcases hi with h | h | h <;> omega), h.out.hb, h.out.hm, h.out.hg, ?_, Lib.hid ((h2.out.2.2.out.below (Below.refl _ _).drew).alt S3 q1 q2), OK1.out, h.out.co⟩
              have := h2.out.2.1.drew.set 0 (.int .i64 (tn + x3))
              rw [← HTN.out]
              rw [← HTN.out] at this
              exact this
            clear pd fd sd hHeld WS n2 D2 S3
            go_wp2_with fail
            go_roundw
            case rel => exact ⟨j + 1, _, by omega, by go_num, GG, A4, FIN⟩
            case measure => simp [intOf]; omega
        · obtain rfl : j = i := by omega
          have := NEAR.out.symm.trans G.out
          cases this
          go_wp2_with fail
          go_ret
          exact ⟨rfl, A1.out, P1⟩
end Go.Proofs.Ytgkahcchekiogaa.Pld

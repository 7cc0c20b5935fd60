/- Walks of the reference's slack: Spend, Set, New. -/
import Derived.Test.YtaoghiijgcdbgaaSlkR
namespace Go.Proofs.Ytaoghiijgcdbgaa.SlkS
open Go.RowKit Base Kit WideA Alt RefA SlkA SlkB SlkC SlkD SlkE SlkF SlkR Boo
set_option linter.unusedVariables false
set_option linter.unusedSimpArgs false

theorem alt_grown {S : Nat → Prop} {w w1 w2 : World} {g : Nat} (h : Alt S w w1) (hg : w1.grownBy w2 (some g)) (hw : w.heap.size ≤ g) : Alt S w w2 :=
  ⟨hg.os.trans h.os, hg.tape.trans h.tape, hg.output.trans h.output, Nat.le_trans h.size hg.size, fun k hk hs => (hg.block k (Nat.lt_of_lt_of_le hk h.size) (fun e => by have := Option.some.inj e; omega)).trans (h.block k hk hs)⟩
def setS (n : Nat) (x : SS) (p : Int) (b : Bool) : SS := if 0 ≤ p ∧ p < (n : Int) then ⟨x.room, x.has, updB x.dn p.toNat b⟩ else x
theorem set_ok {n : Nat} {x : SS} (ok : SOk n x) (p : Int) (b : Bool) : SOk n (setS n x p b) := by
  unfold setS; split
  · exact ⟨ok.hn, ok.r0, ok.r1, ok.h0⟩
  · exact ok
section
variable {w0 w : World} {r n : Nat} {U V : Value} {x : SS}
/-- a copy of what processes have, one place written, put in; and the room -/
theorem rk_putH {w5 w6 : World} {g' c' : Nat} {k : Nat} {y rm : Int} (S : Hid (Rk w0 w5 r n U V x)) (hk : k < n)
    (hg : (w5.alloc (.cells #[] 3)).grownBy w6 (some w5.heap.size)) (hge : w5.heap.size ≤ g') (hown : w6.ownsRow 0 3 1 (.slice (some ⟨g', 0, none⟩) n c') n (row x.has n)) (ok : SOk n ⟨rm, updI x.has k y, x.dn⟩) :
    Hid (Rk w0 (((w6.setCell ⟨g', k, none⟩ (.int .i64 y)).setCell ⟨r, 1, none⟩ (.slice (some ⟨g', 0, none⟩) n c')).setCell ⟨r, 0, none⟩ (.int .i64 rm)) r n (.slice (some ⟨g', 0, none⟩) n c') V ⟨rm, updI x.has k y, x.dn⟩) ∧
      Alt (fun i => i = r) w5 (((w6.setCell ⟨g', k, none⟩ (.int .i64 y)).setCell ⟨r, 1, none⟩ (.slice (some ⟨g', 0, none⟩) n c')).setCell ⟨r, 0, none⟩ (.int .i64 rm)) := by
  have L := S.out
  have sz := L.bel.size
  have rl := L.box.lt
  have A6 : Alt (fun i => i = r) w5 w6 := alt_grown (Alt.alloc _ _) hg (Nat.le_refl _)
  have A7 : Alt (fun i => i = r) w5 (w6.setCell ⟨g', k, none⟩ (.int .i64 y)) := alt_grown A6 (grown_set w6 g' k (.int .i64 y)) hge
  have A8 := (A7.trans (Alt.set (S := fun i => i = r) (w6.setCell ⟨g', k, none⟩ (.int .i64 y)) ⟨r, 1, none⟩ (.slice (some ⟨g', 0, none⟩) n c') rfl)).trans (Alt.set (S := fun i => i = r) _ ⟨r, 0, none⟩ (.int .i64 rm) rfl)
  have B6 : Box w6 r _ _ := (L.box.alloc (.cells #[] 3)).grown hg (fun e => by have h9 : r = w5.heap.size := Option.some.inj e; omega)
  have fin := (hown.stored k (.int .i64 y)).1
  rw [row_set] at fin
  refine ⟨Lib.hid ⟨A8.below L.bel sz (fun i hi => by rw [hi]; exact L.hr), L.hr, fun g hg => ?_, L.hv, ?_, ?_, own_alt' L.dn A8 (fun g hg e => ?_), ok⟩, A8⟩
  · have : g' = g := by simpa [Value.ownBlock] using hg
    omega
  · exact ((B6.setOther ⟨g', k, none⟩ (.int .i64 y) (by show r ≠ g'; omega)).set 1 _).set 0 _
  · have e : updI x.has k y = fun j => if j = k then y else x.has j := rfl
    rw [e]
    exact own_alt (own_alt fin (Alt.set (S := fun i => i = r) _ _ _ rfl) (by show ¬ g' = r; omega)) (Alt.set (S := fun i => i = r) _ _ _ rfl) (by show ¬ g' = r; omega)
  · subst e; exact own_ne' L.dn L.box (by decide) hg
theorem rk_putD {w5 w6 : World} {g' c' : Nat} {k : Nat} {y : Bool} (S : Hid (Rk w0 w5 r n U V x)) (hk : k < n)
    (hg : (w5.alloc (.cells #[] 4)).grownBy w6 (some w5.heap.size)) (hge : w5.heap.size ≤ g') (hown : w6.ownsRow 0 4 1 (.slice (some ⟨g', 0, none⟩) n c') n (brow x.dn n)) :
    Hid (Rk w0 ((w6.setCell ⟨g', k, none⟩ (.bool y)).setCell ⟨r, 2, none⟩ (.slice (some ⟨g', 0, none⟩) n c')) r n U (.slice (some ⟨g', 0, none⟩) n c') ⟨x.room, x.has, updB x.dn k y⟩) ∧
      Alt (fun i => i = r) w5 ((w6.setCell ⟨g', k, none⟩ (.bool y)).setCell ⟨r, 2, none⟩ (.slice (some ⟨g', 0, none⟩) n c')) := by
  have L := S.out
  have sz := L.bel.size
  have rl := L.box.lt
  have A6 : Alt (fun i => i = r) w5 w6 := alt_grown (Alt.alloc _ _) hg (Nat.le_refl _)
  have A7 : Alt (fun i => i = r) w5 (w6.setCell ⟨g', k, none⟩ (.bool y)) := alt_grown A6 (grown_set w6 g' k (.bool y)) hge
  have A8 := A7.trans (Alt.set (S := fun i => i = r) (w6.setCell ⟨g', k, none⟩ (.bool y)) ⟨r, 2, none⟩ (.slice (some ⟨g', 0, none⟩) n c') rfl)
  have B6 : Box w6 r _ _ := (L.box.alloc (.cells #[] 4)).grown hg (fun e => by have h9 : r = w5.heap.size := Option.some.inj e; omega)
  have fin := (hown.stored k (.bool y)).1
  rw [brow_set] at fin
  refine ⟨Lib.hid ⟨A8.below L.bel sz (fun i hi => by rw [hi]; exact L.hr), L.hr, L.hu, fun g hg => ?_, ?_, own_alt' L.has A8 (fun g hg e => ?_), ?_, ⟨L.ok.hn, L.ok.r0, L.ok.r1, L.ok.h0⟩⟩, A8⟩
  · have : g' = g := by simpa [Value.ownBlock] using hg
    omega
  · exact (B6.setOther ⟨g', k, none⟩ (.bool y) (by show r ≠ g'; omega)).set 2 _
  · subst e; exact own_ne' L.has L.box (by decide) hg
  · have e : updB x.dn k y = fun j => if j = k then y else x.dn j := rfl
    rw [e]
    exact own_alt fin (Alt.set (S := fun i => i = r) _ _ _ rfl) (by show ¬ g' = r; omega)
def RPost (w0 : World) (r n : Nat) (z : Int) (y : SS) (w : World) (e : Ending) (w' : World) : Prop :=
  ∃ U V, e = .returned (.int .i64 z) ∧ Alt (fun i => i = r) w w' ∧ Hid (Rk w0 w' r n U V y)
set_option maxRecDepth 100000 in
set_option maxHeartbeats 2000000 in
theorem spendr_any (h : Hid (Rk w0 w r n U V x)) (p c : Int) (hc : I64 c) (z : Int) (y : SS) (hr : Hid (spendP n x p c = (z, y))) :
    Calls Try.prog 35 #[.pointer (some ⟨r, 0, none⟩), .int .i64 p, .int .i64 c] w (RPost w0 r n z y w) := by
  have hn := h.out.ok.hn
  have hr := hr.out
  have ok2 := (spend_ok h.out.ok p c).1
  have OK := Lib.hid h.out.ok
  rw [hr] at ok2
  unfold spendP at hr
  by_cases hp : 0 ≤ p ∧ p < (n : Int)
  · have C1 := Lib.hid (is_any h p true (Lib.hid (by simpa using hp)))
    obtain ⟨k, rfl⟩ := Int.eq_ofNat_of_zero_le hp.1
    have hk : k < n := by omega
    rw [Int.toNat_natCast] at hr
    by_cases h1 : 1 ≤ c
    · rw [if_pos ⟨hp, h1⟩] at hr
      obtain ⟨m, hm⟩ : ∃ m, mn (mn c x.room) (x.has k) = m := ⟨_, rfl⟩
      rw [hm] at hr
      simp only [Prod.mk.injEq] at hr
      obtain ⟨rfl, rfl⟩ := hr
      dsimp only at ok2
      have OK2 := Lib.hid ok2
      obtain ⟨h0, h00⟩ := h.out.ok.h0 k hk
      have r0 := h.out.ok.r0
      have r1 := h.out.ok.r1
      have hm2 : (if x.has k < (if x.room < c then x.room else c) then x.has k else if x.room < c then x.room else c) = m := hm
      have mb : 0 ≤ m ∧ m ≤ x.room ∧ m ≤ x.has k ∧ ((x.room < c ∧ x.has k < x.room ∧ m = x.has k) ∨ (x.room < c ∧ x.room ≤ x.has k ∧ m = x.room) ∨ (c ≤ x.room ∧ x.has k < c ∧ m = x.has k) ∨ (c ≤ x.room ∧ c ≤ x.has k ∧ m = c)) := by
        rw [← hm2]
        by_cases a1 : x.room < c
        · rw [if_pos a1]; split <;> omega
        · rw [if_neg a1]; split <;> omega
      clear hm hm2 hp ok2
      obtain ⟨A, ca, rfl, hA⟩ := own_int h.out.has
      obtain ⟨ga, rfl, gca⟩ := hA k hk
      have bc := h.out.box.cell
      have HH := Lib.hid h
      obtain ⟨m0, m1, m2, ways⟩ := mb
      obtain ⟨ha, eha⟩ : ∃ z, x.has k = z := ⟨_, rfl⟩
      obtain ⟨ro, ero⟩ : ∃ z, x.room = z := ⟨_, rfl⟩
      rw [eha] at gca h0 h00 m2 ways
      rw [ero] at bc r0 r1 m1 ways
      have EHA := Lib.hid eha
      have ERO := Lib.hid ero
      clear hA eha ero HH
      have R4 := rows_alloc (rows_own h.out.has (by omega) (fun i hi => ⟨by have := (OK.out.h0 i hi).1; omega, (OK.out.h0 i hi).2⟩)) (.cells #[] 3)
      have O1 := Lib.hid (World.ownsRow_made (base := w.heap.size) (e := 3) (size := 1) w #[] 0 (Nat.le_refl _) (by unfold maxLen; omega) rfl)
      rcases ways with ⟨a1, a2, rfl⟩ | ⟨a1, a2, rfl⟩ | ⟨a1, a2, rfl⟩ | ⟨a1, a2, rfl⟩
      ·
        have ey : x.has k - m = 0 := by rw [EHA.out]; first | done | omega
        have er : x.room - m = (ro - m) := by rw [ERO.out]; first | done | omega
        rw [ey, er] at OK2 ⊢
        have EH := Lib.hid ey; have ER := Lib.hid er
        clear ey er
        go_enter Try.func35, Try.ntmps35
        go_wp2_with fail
        refine C1.out.mono ?_
        rintro e w1 ⟨rfl, rfl⟩
        have bc2 := (h.out.box.alloc (.cells #[] 3)).cell
        go_wp2_with (at_builtin; go_loud (refine append_all _ rfl _ _ 27 rfl Try.underlying27 w.heap.size (.slice (some ⟨w.heap.size, 0, none⟩) 0 0) 0 [] rfl (by exact O1.out) (some ⟨ga, 0, none⟩) n ca x.has rfl (by simp) (by exact R4) (by omega) (by omega) (by simp) ?_))
        intro v' w6 hown1 hg hnil
        obtain ⟨g', c', rfl, hge, hlt⟩ := own_form hown1 (fun e => hnil e)
        try simp only [Nat.zero_add, List.nil_append] at hown1 ⊢
        have O6 := Lib.hid (own_base hown1 (base' := 0) (fun _ _ => Nat.zero_le _))
        have HP := Lib.hid (rk_putH (y := 0) (rm := (ro - m)) h hk hg hge O6.out OK2.out)
        have hgr : g' ≠ r := by have := h.out.box.lt; omega
        have B6 := Lib.hid ((h.out.box.alloc (.cells #[] 3)).grown hg (fun e => by have h9 : r = w.heap.size := Option.some.inj e; have := h.out.box.lt; omega))
        have gc : w6.cell? ⟨g', k, none⟩ = some (.int .i64 (x.has k)) := by rw [O6.out.cellAt k (by omega), row_get x.has n k hk]
        rw [EHA.out] at gc
        have gf := O6.out.frozenAt k
        have b6 := B6.out.cell
        have f6 := B6.out.frozen
        rw [ERO.out] at b6
        clear bc bc2 hg hnil hown1 O1 R4 gca
        go_wp2_with fail
        go_ret
        exact ⟨_, _, rfl, HP.out.2, HP.out.1⟩
      ·
        have ey : x.has k - m = (ha - m) := by rw [EHA.out]; first | done | omega
        have er : x.room - m = 0 := by rw [ERO.out]; first | done | omega
        rw [ey, er] at OK2 ⊢
        have EH := Lib.hid ey; have ER := Lib.hid er
        clear ey er
        go_enter Try.func35, Try.ntmps35
        go_wp2_with fail
        refine C1.out.mono ?_
        rintro e w1 ⟨rfl, rfl⟩
        have bc2 := (h.out.box.alloc (.cells #[] 3)).cell
        go_wp2_with (at_builtin; go_loud (refine append_all _ rfl _ _ 27 rfl Try.underlying27 w.heap.size (.slice (some ⟨w.heap.size, 0, none⟩) 0 0) 0 [] rfl (by exact O1.out) (some ⟨ga, 0, none⟩) n ca x.has rfl (by simp) (by exact R4) (by omega) (by omega) (by simp) ?_))
        intro v' w6 hown1 hg hnil
        obtain ⟨g', c', rfl, hge, hlt⟩ := own_form hown1 (fun e => hnil e)
        try simp only [Nat.zero_add, List.nil_append] at hown1 ⊢
        have O6 := Lib.hid (own_base hown1 (base' := 0) (fun _ _ => Nat.zero_le _))
        have HP := Lib.hid (rk_putH (y := (ha - m)) (rm := 0) h hk hg hge O6.out OK2.out)
        have hgr : g' ≠ r := by have := h.out.box.lt; omega
        have B6 := Lib.hid ((h.out.box.alloc (.cells #[] 3)).grown hg (fun e => by have h9 : r = w.heap.size := Option.some.inj e; have := h.out.box.lt; omega))
        have gc : w6.cell? ⟨g', k, none⟩ = some (.int .i64 (x.has k)) := by rw [O6.out.cellAt k (by omega), row_get x.has n k hk]
        rw [EHA.out] at gc
        have gf := O6.out.frozenAt k
        have b6 := B6.out.cell
        have f6 := B6.out.frozen
        rw [ERO.out] at b6
        clear bc bc2 hg hnil hown1 O1 R4 gca
        go_wp2_with fail
        go_ret
        exact ⟨_, _, rfl, HP.out.2, HP.out.1⟩
      ·
        have ey : x.has k - m = 0 := by rw [EHA.out]; first | done | omega
        have er : x.room - m = (ro - m) := by rw [ERO.out]; first | done | omega
        rw [ey, er] at OK2 ⊢
        have EH := Lib.hid ey; have ER := Lib.hid er
        clear ey er
        go_enter Try.func35, Try.ntmps35
        go_wp2_with fail
        refine C1.out.mono ?_
        rintro e w1 ⟨rfl, rfl⟩
        have bc2 := (h.out.box.alloc (.cells #[] 3)).cell
        go_wp2_with (at_builtin; go_loud (refine append_all _ rfl _ _ 27 rfl Try.underlying27 w.heap.size (.slice (some ⟨w.heap.size, 0, none⟩) 0 0) 0 [] rfl (by exact O1.out) (some ⟨ga, 0, none⟩) n ca x.has rfl (by simp) (by exact R4) (by omega) (by omega) (by simp) ?_))
        intro v' w6 hown1 hg hnil
        obtain ⟨g', c', rfl, hge, hlt⟩ := own_form hown1 (fun e => hnil e)
        try simp only [Nat.zero_add, List.nil_append] at hown1 ⊢
        have O6 := Lib.hid (own_base hown1 (base' := 0) (fun _ _ => Nat.zero_le _))
        have HP := Lib.hid (rk_putH (y := 0) (rm := (ro - m)) h hk hg hge O6.out OK2.out)
        have hgr : g' ≠ r := by have := h.out.box.lt; omega
        have B6 := Lib.hid ((h.out.box.alloc (.cells #[] 3)).grown hg (fun e => by have h9 : r = w.heap.size := Option.some.inj e; have := h.out.box.lt; omega))
        have gc : w6.cell? ⟨g', k, none⟩ = some (.int .i64 (x.has k)) := by rw [O6.out.cellAt k (by omega), row_get x.has n k hk]
        rw [EHA.out] at gc
        have gf := O6.out.frozenAt k
        have b6 := B6.out.cell
        have f6 := B6.out.frozen
        rw [ERO.out] at b6
        clear bc bc2 hg hnil hown1 O1 R4 gca
        go_wp2_with fail
        go_ret
        exact ⟨_, _, rfl, HP.out.2, HP.out.1⟩
      ·
        have ey : x.has k - m = (ha - m) := by rw [EHA.out]; first | done | omega
        have er : x.room - m = (ro - m) := by rw [ERO.out]; first | done | omega
        rw [ey, er] at OK2 ⊢
        have EH := Lib.hid ey; have ER := Lib.hid er
        clear ey er
        go_enter Try.func35, Try.ntmps35
        go_wp2_with fail
        refine C1.out.mono ?_
        rintro e w1 ⟨rfl, rfl⟩
        have bc2 := (h.out.box.alloc (.cells #[] 3)).cell
        go_wp2_with (at_builtin; go_loud (refine append_all _ rfl _ _ 27 rfl Try.underlying27 w.heap.size (.slice (some ⟨w.heap.size, 0, none⟩) 0 0) 0 [] rfl (by exact O1.out) (some ⟨ga, 0, none⟩) n ca x.has rfl (by simp) (by exact R4) (by omega) (by omega) (by simp) ?_))
        intro v' w6 hown1 hg hnil
        obtain ⟨g', c', rfl, hge, hlt⟩ := own_form hown1 (fun e => hnil e)
        try simp only [Nat.zero_add, List.nil_append] at hown1 ⊢
        have O6 := Lib.hid (own_base hown1 (base' := 0) (fun _ _ => Nat.zero_le _))
        have HP := Lib.hid (rk_putH (y := (ha - m)) (rm := (ro - m)) h hk hg hge O6.out OK2.out)
        have hgr : g' ≠ r := by have := h.out.box.lt; omega
        have B6 := Lib.hid ((h.out.box.alloc (.cells #[] 3)).grown hg (fun e => by have h9 : r = w.heap.size := Option.some.inj e; have := h.out.box.lt; omega))
        have gc : w6.cell? ⟨g', k, none⟩ = some (.int .i64 (x.has k)) := by rw [O6.out.cellAt k (by omega), row_get x.has n k hk]
        rw [EHA.out] at gc
        have gf := O6.out.frozenAt k
        have b6 := B6.out.cell
        have f6 := B6.out.frozen
        rw [ERO.out] at b6
        clear bc bc2 hg hnil hown1 O1 R4 gca
        go_wp2_with fail
        go_ret
        exact ⟨_, _, rfl, HP.out.2, HP.out.1⟩
    · rw [if_neg (fun e => h1 e.2)] at hr
      simp only [Prod.mk.injEq] at hr
      obtain ⟨rfl, rfl⟩ := hr
      have h1 : c < 1 := by omega
      clear hp
      go_enter Try.func35, Try.ntmps35
      go_wp2_with fail
      refine C1.out.mono ?_
      rintro e w1 ⟨rfl, rfl⟩
      go_wp2_with fail
      go_ret
      exact ⟨_, _, rfl, Alt.refl _ _, h⟩
  · rw [if_neg (fun e => hp e.1)] at hr
    simp only [Prod.mk.injEq] at hr
    obtain ⟨rfl, rfl⟩ := hr
    have C1 := Lib.hid (is_any h p false (Lib.hid (by simpa using hp)))
    clear hp
    go_enter Try.func35, Try.ntmps35
    go_wp2_with fail
    refine C1.out.mono ?_
    rintro e w1 ⟨rfl, rfl⟩
    go_wp2_with fail
    go_ret
    exact ⟨_, _, rfl, Alt.refl _ _, h⟩
def SPost (w0 : World) (r n : Nat) (z : Int) (y : SS) (w : World) (e : Ending) (w' : World) : Prop :=
  ∃ U V, e = .returned (.int .i64 z) ∧ Alt (fun i => i = r) w w' ∧ Hid (Rk w0 w' r n U V y)
set_option maxRecDepth 100000 in
set_option maxHeartbeats 2000000 in
theorem setr_any (h : Hid (Rk w0 w r n U V x)) (p : Int) (b : Bool) (z : Int) (hz : Hid (leftS n x - leftS n (setS n x p b) = z)) :
    Calls Try.prog 36 #[.pointer (some ⟨r, 0, none⟩), .int .i64 p, .bool b] w (SPost w0 r n z (setS n x p b) w) := by
  have hn := h.out.ok.hn
  by_cases hp : 0 ≤ p ∧ p < (n : Int)
  · have ef : setS n x p b = ⟨x.room, x.has, updB x.dn p.toNat b⟩ := by unfold setS; rw [if_pos hp]
    obtain ⟨l1, e1⟩ : ∃ l, leftS n x = l := ⟨_, rfl⟩
    obtain ⟨l2, e2⟩ : ∃ l, leftS n (setS n x p b) = l := ⟨_, rfl⟩
    have b1 := leftS_bd h.out.ok
    have b2 := leftS_bd (set_ok h.out.ok p b)
    have hz := hz.out
    rw [e1] at b1
    rw [e2] at b2
    rw [e1, e2] at hz
    obtain ⟨b10, -, b11⟩ := b1
    obtain ⟨b20, -, b21⟩ := b2
    have C1 := Lib.hid (is_any h p true (Lib.hid (by simpa using hp)))
    obtain ⟨k, rfl⟩ := Int.eq_ofNat_of_zero_le hp.1
    have hk : k < n := by omega
    rw [ef] at e2 ⊢
    rw [Int.toNat_natCast] at e2 ⊢
    subst hz
    have C2 := Lib.hid (leftr_any h l1 (Lib.hid e1))
    have E2 := Lib.hid e2
    obtain ⟨A, ca, rfl, hA⟩ := own_bool h.out.dn
    obtain ⟨ga, rfl, gca⟩ := hA k hk
    have bc := h.out.box.cell
    have O1 := Lib.hid (World.ownsRow_made (base := w.heap.size) (e := 4) (size := 1) w #[] 0 (Nat.le_refl _) (by unfold maxLen; omega) rfl)
    have D1 := Lib.hid (h.out.dn.alloc (.cells #[] 4))
    clear hp e1 e2 ef hA
    go_enter Try.func36, Try.ntmps36
    go_wp2_with fail
    refine C1.out.mono ?_
    rintro e w1 ⟨rfl, rfl⟩
    go_wp2_with fail
    refine C2.out.mono ?_
    rintro e w1 ⟨rfl, rfl⟩
    have bc2 := (h.out.box.alloc (.cells #[] 4)).cell
    go_wp2_with (at_builtin; go_loud (refine append_own _ rfl _ _ 35 4 (.bool false) 1 infoBool rfl Try.underlying35 rfl w.heap.size (.slice (some ⟨w.heap.size, 0, none⟩) 0 0) 0 [] rfl (by exact O1.out) 0 (.slice (some ⟨ga, 0, none⟩) n ca) n (brow x.dn n) rfl (by exact D1.out) (brow_len _ _) (by simp [brow, Value.oneCell']) (by omega) (by omega) (by simp) ?_))
    intro v' w6 hown1 hg hnil
    obtain ⟨g', c', rfl, hge, hlt⟩ := own_form hown1 (fun e => hnil e)
    try simp only [Nat.zero_add, List.nil_append] at hown1 ⊢
    have O6 := Lib.hid (own_base hown1 (base' := 0) (fun _ _ => Nat.zero_le _))
    obtain ⟨HS, HA⟩ := rk_putD (y := b) h hk hg hge O6.out
    have HAH := Lib.hid HA
    have hgr : g' ≠ r := by have := h.out.box.lt; omega
    have B6 := Lib.hid ((h.out.box.alloc (.cells #[] 4)).grown hg (fun e => by have h9 : r = w.heap.size := Option.some.inj e; have := h.out.box.lt; omega))
    have gc : w6.cell? ⟨g', k, none⟩ = some (.bool (x.dn k)) := by rw [O6.out.cellAt k (by omega), brow_get x.dn n k hk]
    have gf := O6.out.frozenAt k
    have b6 := B6.out.cell
    have f6 := B6.out.frozen
    clear bc bc2 hg hnil hown1 O1 gca HA D1
    go_wp2_with fail
    refine (leftr_any HS l2 E2).mono ?_
    rintro e w7 ⟨rfl, rfl⟩
    go_wp2_with fail
    go_ret
    exact ⟨_, _, rfl, HAH.out, HS⟩
  · have ef : setS n x p b = x := by unfold setS; rw [if_neg hp]
    rw [ef] at hz ⊢
    have hz := hz.out
    rw [Int.sub_self] at hz
    subst hz
    have C1 := Lib.hid (is_any h p false (Lib.hid (by simpa using hp)))
    clear hp
    go_enter Try.func36, Try.ntmps36
    go_wp2_with fail
    refine C1.out.mono ?_
    rintro e w1 ⟨rfl, rfl⟩
    go_wp2_with fail
    go_ret
    exact ⟨_, _, rfl, Alt.refl _ _, h⟩
end
end Go.Proofs.Ytaoghiijgcdbgaa.SlkS

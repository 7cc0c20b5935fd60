/- Both ledgers side by side; the laws' inner functions done and like. -/
import Derived.Test.YteikliciijfmmaaLedS
namespace Go.Proofs.Yteikliciijfmmaa.LedT
open Go.RowKit Base Kit WideA WideB Plain FitA FitB FitC Conf Conf2 Alt RefA LedA LedB LedC LedD Short FitR LedN LedE LedR LedS
set_option linter.unusedVariables false
set_option linter.unusedSimpArgs false

theorem own_alt' {S : Nat → Prop} {w w1 : World} {base n : Nat} {v : Value} {e : TypeId} {size : Nat} {xs : List Value} (h : w.ownsRow base e size v n xs) (k : Alt S w w1) (hs : ∀ g, v.ownBlock = some g → ¬ S g) : w1.ownsRow base e size v n xs := by
  have hl := h.lt
  obtain ⟨h1, h2⟩ := h
  refine ⟨h1, ?_⟩
  rcases h2 with h2 | ⟨g, cap, cur, hv, hg, hh, r⟩
  · exact .inl h2
  · have hb : v.ownBlock = some g := by rw [hv]; rfl
    exact .inr ⟨g, cap, cur, hv, hg, (k.block g (hl g hb).2 (hs g hb)).trans hh, r⟩
def Tch (n : Nat) (a : Nat → Nat) (r i : Nat) : Prop := Acc n a i ∨ i = r
structure Bo (w0 w : World) (c : ConfC) (l : Nat) (v : Value) (a : Nat → Nat) (r : Nat) (V : Value) (cy cz : Nat → Int) : Prop where
  ls : Hid (Ls w0 w c.w (qm c) (fun i => (c.p i).bud) c.pn l v a cy)
  rs : Hid (Rs w0 w c r V cz)
section
variable {w0 w : World} {c : ConfC} {l : Nat} {v : Value} {a : Nat → Nat} {r : Nat} {V : Value} {cy cz : Nat → Int}
theorem bo_next {w1 : World} (h : Hid (Bo w0 w c l v a r V cy cz)) (k : Below w.heap.size w w1) : Hid (Bo w0 w1 c l v a r V cy cz) := Lib.hid ⟨ls_next h.out.ls k, rs_next h.out.rs k⟩
theorem bo_drew (h : Hid (Bo w0 w c l v a r V cy cz)) : Hid (Bo w0 w.drew c l v a r V cy cz) := bo_next h ((Below.refl _ _).drew)
/-- a block of another type stays -/
theorem bo_box {w1 : World} {b : Nat} {vs : Array Value} {T : TypeId} (h : Hid (Bo w0 w c l v a r V cy cz)) (k : Alt (Tch c.pn a r) w w1) (hb : Box w b vs T) (h1 : T ≠ 123) (h2 : T ≠ 129) : Box w1 b vs T :=
  box_alt hb k (fun e => by
    rcases e with ⟨i, hi, e⟩ | e
    · exact box_ne hb (h.out.ls.out.lm.out.acc i hi) h1 e
    · exact box_ne hb h.out.rs.out.box h2 e)
theorem rs_alt {w1 : World} (h : Hid (Bo w0 w c l v a r V cy cz)) (k : Alt (Acc c.pn a) w w1) : Hid (Rs w0 w1 c r V cz) := by
  have R := h.out.rs.out
  have L := h.out.ls.out
  refine Lib.hid ⟨k.below R.bel R.bel.size (fun i hi => ?_), R.hr, R.hv, box_alt R.box k (fun e => ?_), own_alt' R.own k (fun g hg e => ?_), R.ok, R.cyb, R.hn⟩
  · obtain ⟨j, hj, e⟩ := hi; rw [e]; exact L.ha j hj
  · obtain ⟨j, hj, e⟩ := e; exact box_ne R.box (L.lm.out.acc j hj) (by decide) e
  · obtain ⟨j, hj, e⟩ := e
    subst e
    exact own_ne' R.own (L.lm.out.acc j hj) (by decide) hg
theorem ls_alt {w1 : World} (h : Hid (Bo w0 w c l v a r V cy cz)) (k : Alt (fun i => i = r) w w1) : Hid (Ls w0 w1 c.w (qm c) (fun i => (c.p i).bud) c.pn l v a cy) := by
  have R := h.out.rs.out
  have L := h.out.ls.out
  refine Lib.hid ⟨k.below L.bel L.bel.size (fun i hi => by rw [hi]; exact R.hr), L.hl, L.ha, L.hv, Lib.hid ⟨box_alt L.lm.out.box k (fun e => box_ne L.lm.out.box R.box (by decide) e), own_alt' L.lm.out.own k (fun g hg e => ?_), fun i hi => box_alt (L.lm.out.acc i hi) k (fun e => box_ne (L.lm.out.acc i hi) R.box (by decide) e), L.lm.out.inj⟩, L.lev, L.cyb, L.hn, L.budI, L.qI⟩
  subst e
  exact own_ne' L.lm.out.own R.box (by decide) hg
theorem bo_spendL (h : Hid (Bo w0 w c l v a r V cy cz)) (p x : Int) (hx : I64 x) (y : Int) (cy' : Nat → Int) (hr : Hid (spendP c.w c.pn cy p x = (y, cy'))) :
    Calls Try.prog 30 #[.pointer (some ⟨l, 0, none⟩), .int .i64 p, .int .i64 x] w fun e w' => e = .returned (.int .i64 y) ∧ Hid (Bo w0 w' c l v a r V cy' cz) ∧ Alt (Tch c.pn a r) w w' :=
  (ls_spend h.out.ls p x hx y cy' hr).mono fun e w' ⟨h1, h2, h3⟩ => ⟨h1, Lib.hid ⟨h2, rs_alt h h3⟩, h3.mono fun i hi => .inl hi⟩
theorem bo_spendR (h : Hid (Bo w0 w c l v a r V cy cz)) (p x : Int) (hx : I64 x) (y : Int) (cz' : Nat → Int) (hr : Hid (spendP c.w c.pn cz p x = (y, cz'))) :
    Calls Try.prog 73 #[.pointer (some ⟨r, 0, none⟩), .int .i64 p, .int .i64 x] w fun e w' => ∃ V', e = .returned (.int .i64 y) ∧ Hid (Bo w0 w' c l v a r V' cy cz') ∧ Alt (Tch c.pn a r) w w' :=
  (spendr_any w h.out.rs p x hx y cz' hr).mono fun e w' ⟨V', h1, h2, h3⟩ => ⟨V', h1, Lib.hid ⟨ls_alt h h2, h3⟩, h2.mono fun i hi => .inr hi⟩
theorem bo_refillL (h : Hid (Bo w0 w c l v a r V cy cz)) :
    Calls Try.prog 46 #[.pointer (some ⟨l, 0, none⟩)] w fun e w' => (∃ v, e = .returned v) ∧ Hid (Bo w0 w' c l v a r V (fun _ => 0) cz) ∧ Alt (Tch c.pn a r) w w' :=
  (ls_refill h.out.ls).mono fun e w' ⟨h1, h2, h3⟩ => ⟨h1, Lib.hid ⟨h2, rs_alt h h3⟩, h3.mono fun i hi => .inl hi⟩
theorem bo_refillR (h : Hid (Bo w0 w c l v a r V cy cz)) :
    Calls Try.prog 74 #[.pointer (some ⟨r, 0, none⟩)] w fun e w' => ∃ V', (∃ v, e = .returned v) ∧ Hid (Bo w0 w' c l v a r V' cy (fun _ => 0)) ∧ Alt (Tch c.pn a r) w w' :=
  (refillr_any w h.out.rs).mono fun e w' ⟨V', h1, h2, h3⟩ => ⟨V', h1, Lib.hid ⟨ls_alt h h2, h3⟩, h2.mono fun i hi => .inr hi⟩

theorem bo_usedL (h : Hid (Bo w0 w c l v a r V cy cz)) (p u : Int) (hu : Hid (usedP c.w c.pn cy p = u)) :
    Calls Try.prog 31 #[.pointer (some ⟨l, 0, none⟩), .int .i64 p] w fun e w' => e = .returned (.int .i64 u) ∧ Below w.heap.size w w' := ls_used h.out.ls p u hu
theorem bo_usedR (h : Hid (Bo w0 w c l v a r V cy cz)) (p u : Int) (hu : Hid (usedP c.w c.pn cz p = u)) :
    Calls Try.prog 76 #[.pointer (some ⟨r, 0, none⟩), .int .i64 p] w fun e w' => e = .returned (.int .i64 u) ∧ Below w.heap.size w w' := usedr_any w h.out.rs p u hu
theorem bo_outL (h : Hid (Bo w0 w c l v a r V cy cz)) (p : Int) (u : Bool) (hu : Hid (outP c.w (fun i => (c.p i).bud) c.pn cy p = u)) :
    Calls Try.prog 47 #[.pointer (some ⟨l, 0, none⟩), .int .i64 p] w fun e w' => e = .returned (.bool u) ∧ Below w.heap.size w w' := ls_out h.out.ls p u hu
theorem bo_outR (h : Hid (Bo w0 w c l v a r V cy cz)) (p : Int) (u : Bool) (hu : Hid (outP c.w (fun i => (c.p i).bud) c.pn cz p = u)) :
    Calls Try.prog 77 #[.pointer (some ⟨r, 0, none⟩), .int .i64 p] w fun e w' => e = .returned (.bool u) ∧ Below w.heap.size w w' := outr_any w h.out.rs p u hu
theorem bo_pieceL (h : Hid (Bo w0 w c l v a r V cy cz)) (p x : Int) (hx : I64 x) (u : Int) (hu : Hid (pieceP c.w (qm c) (fun i => (c.p i).bud) c.pn cy p x = u)) :
    Calls Try.prog 29 #[.pointer (some ⟨l, 0, none⟩), .int .i64 p, .int .i64 x] w fun e w' => e = .returned (.int .i64 u) ∧ Below w.heap.size w w' := ls_piece h.out.ls p x hx u hu
theorem bo_pieceR (h : Hid (Bo w0 w c l v a r V cy cz)) (p x : Int) (hx : I64 x) (u : Int) (hu : Hid (pieceP c.w (qm c) (fun i => (c.p i).bud) c.pn cz p x = u)) :
    Calls Try.prog 75 #[.pointer (some ⟨r, 0, none⟩), .int .i64 p, .int .i64 x] w fun e w' => e = .returned (.int .i64 u) ∧ Below w.heap.size w w' := piecer_any w h.out.rs p x hx u hu
theorem bo_is (h : Hid (Bo w0 w c l v a r V cy cz)) (p : Int) (ok : Bool) (hok : Hid (decide (0 ≤ p ∧ p < (c.pn : Int)) = ok)) :
    Calls Try.prog 78 #[.pointer (some ⟨r, 0, none⟩), .int .i64 p] w fun e w' => e = .returned (.bool ok) ∧ w = w' := is_any w h.out.rs p ok hok

theorem bo_drewN (h : Hid (Bo w0 w c l v a r V cy cz)) (m : Nat) : Hid (Bo w0 (w.drewN m) c l v a r V cy cz) := bo_next h ⟨rfl, rfl, rfl, Nat.le_refl _, fun _ _ => rfl⟩
theorem used0L (h : Hid (Bo w0 w c l v a r V cy cz)) (p : Int) (hp : Hid (¬ (0 ≤ p ∧ p < (c.pn : Int)))) :
    Calls Try.prog 31 #[.pointer (some ⟨l, 0, none⟩), .int .i64 p] w fun e w' => e = .returned (.int .i64 0) ∧ w = w' := by
  have C1 := Lib.hid (find_any c.w (qm c) (fun i => (c.p i).bud) c.pn w l v a cy p h.out.ls.out.lm h.out.ls.out.hn none (Lib.hid (fnd_out hp.out)))
  go_enter Try.func31, Try.ntmps31
  go_wp2_with fail
  refine C1.out.mono ?_
  rintro e w1 ⟨rfl, rfl⟩
  go_wp2_with fail
  go_ret
  exact ⟨rfl, rfl⟩
theorem out0L (h : Hid (Bo w0 w c l v a r V cy cz)) (p : Int) (hp : Hid (¬ (0 ≤ p ∧ p < (c.pn : Int)))) :
    Calls Try.prog 47 #[.pointer (some ⟨l, 0, none⟩), .int .i64 p] w fun e w' => e = .returned (.bool true) ∧ w = w' := by
  have C1 := Lib.hid (find_any c.w (qm c) (fun i => (c.p i).bud) c.pn w l v a cy p h.out.ls.out.lm h.out.ls.out.hn none (Lib.hid (fnd_out hp.out)))
  go_enter Try.func47, Try.ntmps47
  go_wp2_with fail
  refine C1.out.mono ?_
  rintro e w1 ⟨rfl, rfl⟩
  go_wp2_with fail
  go_ret
  exact ⟨rfl, rfl⟩
theorem used0R (h : Hid (Bo w0 w c l v a r V cy cz)) (p : Int) (hp : Hid (¬ (0 ≤ p ∧ p < (c.pn : Int)))) :
    Calls Try.prog 76 #[.pointer (some ⟨r, 0, none⟩), .int .i64 p] w fun e w' => e = .returned (.int .i64 0) ∧ w = w' := by
  have C1 := Lib.hid (is_any w h.out.rs p false (Lib.hid (by simpa using hp.out)))
  go_enter Try.func76, Try.ntmps76
  go_wp2_with fail
  refine C1.out.mono ?_
  rintro e w1 ⟨rfl, rfl⟩
  go_wp2_with fail
  go_ret
  exact ⟨rfl, rfl⟩
theorem out0R (h : Hid (Bo w0 w c l v a r V cy cz)) (p : Int) (hp : Hid (¬ (0 ≤ p ∧ p < (c.pn : Int)))) :
    Calls Try.prog 77 #[.pointer (some ⟨r, 0, none⟩), .int .i64 p] w fun e w' => e = .returned (.bool true) ∧ ∃ m, w' = w.drewN m := by
  have C1 := Lib.hid (fun m => is_any (w.drewN m) (rs_drewN h.out.rs m) p false (Lib.hid (by simpa using hp.out)))
  go_enter Try.func77, Try.ntmps77
  go_wp2_with fail
  go_quiet ((go_at_call 78; exact Calls.quiet_of_same ((C1.out _).mono (fun e w' h => ⟨h.1, h.2.symm⟩))))
  go_wp2_with fail
  go_ret
  exact ⟨rfl, _, rfl⟩

def DPost (w0 : World) (c : ConfC) (l : Nat) (v : Value) (a : Nat → Nat) (r : Nat) (w : World) (e : Ending) (w' : World) : Prop :=
  ∃ V' cy', e = .returned (.bool true) ∧ Hid (Bo w0 w' c l v a r V' cy' cy') ∧ Alt (Tch c.pn a r) w w'
set_option maxRecDepth 100000 in
set_option maxHeartbeats 2000000 in
theorem done_any (h : Hid (Bo w0 w c l v a r V cy cy)) (d p x : Int) (hp : I64 p) (hx : I64 x) :
    Calls Try.prog 45 #[.pointer (some ⟨l, 0, none⟩), .pointer (some ⟨r, 0, none⟩), .agg #[.int .i64 d, .int .i64 p, .int .i64 x]] w (DPost w0 c l v a r w) := by
  have H0 := bo_next h ((Below.refl w.heap.size w).alloc (Nat.le_refl _) (.cells #[.int .i64 d, .int .i64 p, .int .i64 x] 91))
  have A0 : Hid (Alt (Tch c.pn a r) w (w.alloc (.cells #[.int .i64 d, .int .i64 p, .int .i64 x] 91))) := Lib.hid (Alt.alloc _ _)
  have X0 := Lib.hid (Box.new w #[.int .i64 d, .int .i64 p, .int .i64 x] 91)
  obtain ⟨W, hW⟩ : ∃ W, w.alloc (.cells #[.int .i64 d, .int .i64 p, .int .i64 x] 91) = W := ⟨_, rfl⟩
  rw [hW] at H0 A0 X0
  have bc := X0.out.cell
  have bd : ∀ i, W.drew.cell? ⟨w.heap.size, i, none⟩ = (#[.int .i64 d, .int .i64 p, .int .i64 x] : Array Value)[i]? := bc
  have HD := bo_drew H0
  have XD := Lib.hid X0.out.drew
  have AD : Hid (Alt (Tch c.pn a r) w W.drew) := Lib.hid (A0.out.trans (Alt.drewN _ 1))
  have HW := Lib.hid hW
  clear hW
  by_cases h0 : d = 0
  · subst h0
    obtain ⟨y, hy⟩ : ∃ y, (spendP c.w c.pn cy p x).1 = y := ⟨_, rfl⟩
    obtain ⟨cy', hy'⟩ : ∃ y, (spendP c.w c.pn cy p x).2 = y := ⟨_, rfl⟩
    have HY : Hid (spendP c.w c.pn cy p x = (y, cy')) := Lib.hid (Prod.ext hy hy')
    clear hy hy' bc h
    go_enter Try.func45, Try.ntmps45
    go_wp2_with fail
    rw [HW.out]
    go_wp2_with fail
    go_region_held3 (fun w' => ∀ i, w'.cell? ⟨w.heap.size, i, none⟩ = (#[.int .i64 0, .int .i64 p, .int .i64 x] : Array Value)[i]?)
      (first
        | exact bd
        | exact r5)
      (first
        | (go_at_call 30; refine (bo_spendL (by assumption) p x hx y cy' HY).mono ?_; rintro e1 w5 ⟨rfl, H5, k5⟩; have X5 := Lib.hid (bo_box (by assumption) k5 XD.out (by decide) (by decide)); have r5 := X5.out.cell; have A5 := Lib.hid (AD.out.trans k5); clear k5 HD XD AD; have HD := H5; have XD := X5; have AD := A5; clear H5 X5 A5)
        | (go_at_call 73; refine (bo_spendR (by assumption) p x hx y cy' HY).mono ?_; rintro e1 w5 ⟨V5, rfl, H5, k5⟩; have X5 := Lib.hid (bo_box (by assumption) k5 XD.out (by decide) (by decide)); have r5 := X5.out.cell; have A5 := Lib.hid (AD.out.trans k5); clear k5 HD XD AD; have HD := H5; have XD := X5; have AD := A5; clear H5 X5 A5))
    all_goals
      go_wp2_with fail
      go_ret
      exact ⟨_, cy', rfl, HD, AD.out⟩
  by_cases h1 : d = 1
  · subst h1
    clear h h0
    go_enter Try.func45, Try.ntmps45
    go_wp2_with fail
    rw [HW.out]
    go_wp2_with fail
    refine (bo_refillL H0).mono ?_
    rintro e1 w5 ⟨⟨v5, rfl⟩, H5, k5⟩
    have A5 := Lib.hid (A0.out.trans k5)
    clear k5
    go_wp2_with fail
    refine (bo_refillR H5).mono ?_
    rintro e1 w6 ⟨V6, ⟨v6, rfl⟩, H6, k6⟩
    have A6 := Lib.hid (A5.out.trans k6)
    clear k6
    go_wp2_with fail
    go_ret
    exact ⟨_, _, rfl, H6, A6.out⟩
  · have q0 : (d == 0) = false := by simpa using h0
    have q1 : (d == 1) = false := by simpa using h1
    obtain ⟨y, hy⟩ : ∃ y, pieceP c.w (qm c) (fun i => (c.p i).bud) c.pn cy p x = y := ⟨_, rfl⟩
    have HY := Lib.hid hy
    clear hy h h0 h1
    go_enter Try.func45, Try.ntmps45
    go_wp2_with fail
    rw [HW.out]
    go_wp2_with fail
    go_region_held3 (fun w' => ∀ i, w'.cell? ⟨w.heap.size, i, none⟩ = (#[.int .i64 d, .int .i64 p, .int .i64 x] : Array Value)[i]?)
      (first
        | exact bd
        | exact r5)
      (first
        | (go_at_call 29; refine (bo_pieceL (by assumption) p x hx y HY).mono ?_; rintro e1 w5 ⟨rfl, k5⟩; have H5 := bo_next HD k5; have X5 := Lib.hid (XD.out.next k5); have r5 := X5.out.cell; have A5 := Lib.hid (AD.out.trans (Alt.of_below k5)); clear k5 HD XD AD; have HD := H5; have XD := X5; have AD := A5; clear H5 X5 A5)
        | (go_at_call 75; refine (bo_pieceR (by assumption) p x hx y HY).mono ?_; rintro e1 w5 ⟨rfl, k5⟩; have H5 := bo_next HD k5; have X5 := Lib.hid (XD.out.next k5); have r5 := X5.out.cell; have A5 := Lib.hid (AD.out.trans (Alt.of_below k5)); clear k5 HD XD AD; have HD := H5; have XD := X5; have AD := A5; clear H5 X5 A5))
    all_goals
      go_wp2_with fail
      go_ret
      exact ⟨_, cy, rfl, HD, AD.out⟩

set_option maxRecDepth 100000 in
set_option maxHeartbeats 4000000 in
theorem like_any (h : Hid (Bo w0 w c l v a r V cy cy)) :
    Calls Try.prog 48 #[.pointer (some ⟨l, 0, none⟩), .pointer (some ⟨r, 0, none⟩)] w fun e w' => e = .returned (.bool true) ∧ Below w.heap.size w w' := by
  have hn := h.out.rs.out.hn
  have C1 := Lib.hid (ls_all h.out.ls)
  obtain ⟨B, bcap, rfl, -⟩ := own_int h.out.rs.out.own
  go_enter Try.func48, Try.ntmps48
  go_wp2_with fail
  refine C1.out.mono ?_
  rintro e1 w1 ⟨rv, rfl, -, O1, hb1⟩
  have H1 := bo_next h hb1
  have HB := Lib.hid hb1
  have O2 := Lib.hid (own_base O1.out (base' := 0) (fun _ _ => Nat.zero_le _))
  obtain ⟨A, cap, rfl, -⟩ := own_int O2.out
  have bc := H1.out.rs.out.box.cell
  clear C1 O1 hb1
  go_wp2_with fail
  go_loopw [6] (fun i wr => ∃ p : Int, -1 ≤ p ∧ p ≤ (c.pn : Int) + 1 ∧ i = .int .i64 p ∧ Hid (Below w1.heap.size w1 wr)) (fun i _ => ((c.pn : Int) + 1 - intOf i).toNat)
  case atStart => exact ⟨-1, by omega, by omega, rfl, Lib.hid (Below.refl _ _)⟩
  case round =>
    clear bc
    obtain ⟨p, hp0, hp1, rfl, HC⟩ := hrel
    have HR := bo_next H1 HC.out
    have bc := HR.out.rs.out.box.cell
    by_cases hle : p ≤ (c.pn : Int)
    · have HD := bo_drew HR
      obtain ⟨u, hu⟩ : ∃ u, usedP c.w c.pn cy p = u := ⟨_, rfl⟩
      obtain ⟨o, ho⟩ : ∃ o, outP c.w (fun i => (c.p i).bud) c.pn cy p = o := ⟨_, rfl⟩
      have HO := Lib.hid ho
      have HU := Lib.hid hu
      have KB : Hid (Below wr.heap.size wr wr.drew) := Lib.hid ((Below.refl _ _).drew)
      by_cases hin : 0 ≤ p ∧ p < (c.pn : Int)
      · have HI : Hid (decide (0 ≤ p ∧ p < (c.pn : Int)) = true) := Lib.hid (by simpa using hin)
        obtain ⟨k, rfl⟩ := Int.eq_ofNat_of_zero_le hin.1
        have hk : k < c.pn := by omega
        obtain ⟨A', cap', e, hA⟩ := own_int (ownsRow_keep (ownsRow_keep O2.out HC.out) KB.out)
        simp only [Value.slice.injEq, true_and] at e
        obtain ⟨rfl, rfl⟩ := e
        obtain ⟨g, rfl, gc⟩ := hA k hk
        unfold usedP at hu
        rw [if_pos hin, Int.toNat_natCast] at hu
        rw [hu] at gc
        clear hu ho hA hin
        go_wp2_with fail
        clear bc
        go_region_held3 (fun w' => w'.cell? ⟨g, k, none⟩ = some (.int .i64 u))
          (first
            | exact gc
            | exact r5)
          (first
            | (go_at_call 31; refine (bo_usedL (by assumption) _ u HU).mono ?_; rintro e1 w5 ⟨rfl, k5⟩; have G5 := keep' k5 gc; have K5 := Lib.hid (below_next KB.out k5); have H5 := bo_next HD k5; clear k5 HD gc KB; have HD := H5; have gc := G5; have KB := K5; clear H5 G5 K5; have r5 := gc)
            | (go_at_call 76; refine (bo_usedR (by assumption) _ u HU).mono ?_; rintro e1 w5 ⟨rfl, k5⟩; have G5 := keep' k5 gc; have K5 := Lib.hid (below_next KB.out k5); have H5 := bo_next HD k5; clear k5 HD gc KB; have HD := H5; have gc := G5; have KB := K5; clear H5 G5 K5; have r5 := gc)
            | (go_at_call 47; refine (bo_outL (by assumption) _ o HO).mono ?_; rintro e1 w5 ⟨rfl, k5⟩; have G5 := keep' k5 gc; have K5 := Lib.hid (below_next KB.out k5); have H5 := bo_next HD k5; clear k5 HD gc KB; have HD := H5; have gc := G5; have KB := K5; clear H5 G5 K5; have r5 := gc)
            | (go_at_call 77; refine (bo_outR (by assumption) _ o HO).mono ?_; rintro e1 w5 ⟨rfl, k5⟩; have G5 := keep' k5 gc; have K5 := Lib.hid (below_next KB.out k5); have H5 := bo_next HD k5; clear k5 HD gc KB; have HD := H5; have gc := G5; have KB := K5; clear H5 G5 K5; have r5 := gc)
            | (go_at_call 78; refine (bo_is (by assumption) _ true HI).mono ?_; rintro e1 w5 ⟨rfl, rfl⟩))
        all_goals
          clear r5
          go_wp2_with fail
          go_roundw
          case rel => exact ⟨(k : Int) + 1, by omega, by omega, rfl, Lib.hid (below_next HC.out KB.out)⟩
          case measure => simp [intOf]; omega
      · have HI : Hid (decide (0 ≤ p ∧ p < (c.pn : Int)) = false) := Lib.hid (by simpa using hin)
        have hin : Hid (¬ (0 ≤ p ∧ p < (c.pn : Int))) := Lib.hid hin
        clear hu ho HU HO
        have KM := Lib.hid (fun m => (bo_drewN HR m))
        clear HD KB
        go_wp2_with fail
        clear bc
        go_quiet ((first
          | (go_at_call 31; exact Calls.quiet_of_same ((used0L (KM.out _) p hin).mono (fun e w' h => ⟨h.1, h.2.symm⟩)))
          | (go_at_call 76; exact Calls.quiet_of_same ((used0R (KM.out _) p hin).mono (fun e w' h => ⟨h.1, h.2.symm⟩)))
          | (go_at_call 47; exact Calls.quiet_of_same ((out0L (KM.out _) p hin).mono (fun e w' h => ⟨h.1, h.2.symm⟩)))
          | (go_at_call 77; exact Calls.quiet_of (out0R (KM.out _) p hin))
          | (go_at_call 78; exact Calls.quiet_of_same ((bo_is (KM.out _) p false HI).mono (fun e w' h => ⟨h.1, h.2.symm⟩)))))
        go_wp2_with fail
        go_roundw
        case rel => exact ⟨p + 1, by omega, by omega, rfl, Lib.hid (below_drewN' HC.out _)⟩
        case measure => simp [intOf]; omega
    · go_wp2_with fail
      go_ret
      exact ⟨rfl, below_next HB.out HC.out⟩
end
end Go.Proofs.Yteikliciijfmmaa.LedT

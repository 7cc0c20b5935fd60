/- The law SlackPlays: both slacks side by side. -/
import Derived.Test.YtaoghiijgcdbgaaSlkT
import Derived.Test.YtaoghiijgcdbgaaPart
namespace Go.Proofs.Ytaoghiijgcdbgaa.SlkP
open Go.RowKit Base Kit WideA Alt RefA SlkA SlkB SlkC SlkD SlkE SlkF SlkR SlkS SlkT Boo Conf Conf2
set_option linter.unusedVariables false
set_option linter.unusedSimpArgs false

structure Bo (w0 w : World) (s n : Nat) (v : Value) (a : Nat → Nat) (r : Nat) (U V : Value) (x y : SS) : Prop where
  sl : Hid (Sl w0 w s n v a x)
  rk : Hid (Rk w0 w r n U V y)
def Tch (s n : Nat) (a : Nat → Nat) (r i : Nat) : Prop := In s n a i ∨ i = r
section
variable {w0 w : World} {s n : Nat} {v : Value} {a : Nat → Nat} {r : Nat} {U V : Value} {x y : SS}
theorem bo_next {w1 : World} (h : Hid (Bo w0 w s n v a r U V x y)) (k : Below w.heap.size w w1) : Hid (Bo w0 w1 s n v a r U V x y) := Lib.hid ⟨sl_next h.out.sl k, rk_next h.out.rk k⟩
theorem bo_drew (h : Hid (Bo w0 w s n v a r U V x y)) : Hid (Bo w0 w.drew s n v a r U V x y) := bo_next h ((Below.refl _ _).drew)
theorem bo_box {w1 : World} {b : Nat} {vs : Array Value} {T : TypeId} (h : Hid (Bo w0 w s n v a r U V x y)) (k : Alt (Tch s n a r) w w1) (hb : Box w b vs T) (h1 : T ≠ 48) (h2 : T ≠ 69) (h3 : T ≠ 75) : Box w1 b vs T :=
  box_alt hb k (fun e => by
    rcases e with (e | ⟨i, hi, e⟩) | e
    · exact box_ne hb h.out.sl.out.sk.out.box h1 e
    · exact box_ne hb (h.out.sl.out.sk.out.acc i hi) h2 e
    · exact box_ne hb h.out.rk.out.box h3 e)
theorem rk_alt {w1 : World} (h : Hid (Bo w0 w s n v a r U V x y)) (k : Alt (In s n a) w w1) : Hid (Rk w0 w1 r n U V y) := by
  have R := h.out.rk.out
  have L := h.out.sl.out
  refine Lib.hid ⟨k.below R.bel R.bel.size (fun i hi => ?_), R.hr, R.hu, R.hv, in_box h.out.sl k R.box (by decide) (by decide), in_own h.out.sl k R.has (by decide) (by decide), in_own h.out.sl k R.dn (by decide) (by decide), R.ok⟩
  rcases hi with rfl | ⟨j, hj, rfl⟩
  · exact L.hs
  · exact L.ha j hj
theorem sl_alt {w1 : World} (h : Hid (Bo w0 w s n v a r U V x y)) (k : Alt (fun i => i = r) w w1) : Hid (Sl w0 w1 s n v a x) := by
  have R := h.out.rk.out
  have L := h.out.sl.out
  refine Lib.hid ⟨k.below L.bel L.bel.size (fun i hi => by rw [hi]; exact R.hr), L.hs, L.ha, L.hv, sk_alt L.sk k (fun e => box_ne L.sk.out.box R.box (by decide) e) (fun i hi e => box_ne (L.sk.out.acc i hi) R.box (by decide) e) (fun g hg e => by subst e; exact own_ne' L.sk.out.own R.box (by decide) hg), L.ok⟩
theorem of_out {f : Nat → Int} {p : Int} (h : ¬ (0 ≤ p ∧ p < (n : Int))) : ofP n f p = 0 := by unfold ofP; rw [if_neg h]
theorem bo_spendL (h : Hid (Bo w0 w s n v a r U V x y)) (p c : Int) (hc : I64 c) (z : Int) (x' : SS) (hr : Hid (spendP n x p c = (z, x'))) :
    Calls Try.prog 15 #[.pointer (some ⟨s, 0, none⟩), .int .i64 p, .int .i64 c] w fun e w' => e = .returned (.int .i64 z) ∧ Hid (Bo w0 w' s n v a r U V x' y) ∧ Alt (Tch s n a r) w w' :=
  (sl_spend h.out.sl p c hc z x' hr).mono fun e w' ⟨h1, h2, h3⟩ => ⟨h1, Lib.hid ⟨h2, rk_alt h h3⟩, h3.mono fun i hi => .inl hi⟩
theorem bo_spendR (h : Hid (Bo w0 w s n v a r U V x y)) (p c : Int) (hc : I64 c) (z : Int) (y' : SS) (hr : Hid (spendP n y p c = (z, y'))) :
    Calls Try.prog 35 #[.pointer (some ⟨r, 0, none⟩), .int .i64 p, .int .i64 c] w fun e w' => ∃ U' V', e = .returned (.int .i64 z) ∧ Hid (Bo w0 w' s n v a r U' V' x y') ∧ Alt (Tch s n a r) w w' :=
  (spendr_any h.out.rk p c hc z y' hr).mono fun e w' ⟨U', V', h1, h2, h3⟩ => ⟨U', V', h1, Lib.hid ⟨sl_alt h h2, h3⟩, h2.mono fun i hi => .inr hi⟩
theorem bo_finish (h : Hid (Bo w0 w s n v a r U V x y)) (p z : Int) (hr : Hid (leftS n x - leftS n (finS n x p) = z)) :
    Calls Try.prog 14 #[.pointer (some ⟨s, 0, none⟩), .int .i64 p] w fun e w' => e = .returned (.int .i64 z) ∧ Hid (Bo w0 w' s n v a r U V (finS n x p) y) ∧ Alt (Tch s n a r) w w' :=
  (sl_finish h.out.sl p z hr).mono fun e w' ⟨h1, h2, h3⟩ => ⟨h1, Lib.hid ⟨h2, rk_alt h h3⟩, h3.mono fun i hi => .inl hi⟩
theorem bo_again (h : Hid (Bo w0 w s n v a r U V x y)) (p : Int) :
    Calls Try.prog 21 #[.pointer (some ⟨s, 0, none⟩), .int .i64 p] w fun e w' => (∃ z, e = .returned z) ∧ Hid (Bo w0 w' s n v a r U V (agS n x p) y) ∧ Alt (Tch s n a r) w w' :=
  (sl_again h.out.sl p).mono fun e w' ⟨h1, h2, h3⟩ => ⟨h1, Lib.hid ⟨h2, rk_alt h h3⟩, h3.mono fun i hi => .inl hi⟩
theorem bo_set (h : Hid (Bo w0 w s n v a r U V x y)) (p : Int) (b : Bool) (z : Int) (hz : Hid (leftS n y - leftS n (setS n y p b) = z)) :
    Calls Try.prog 36 #[.pointer (some ⟨r, 0, none⟩), .int .i64 p, .bool b] w fun e w' => ∃ U' V', e = .returned (.int .i64 z) ∧ Hid (Bo w0 w' s n v a r U' V' x (setS n y p b)) ∧ Alt (Tch s n a r) w w' :=
  (setr_any h.out.rk p b z hz).mono fun e w' ⟨U', V', h1, h2, h3⟩ => ⟨U', V', h1, Lib.hid ⟨sl_alt h h2, h3⟩, h2.mono fun i hi => .inr hi⟩
def DPost (w0 : World) (s n : Nat) (v : Value) (a : Nat → Nat) (r : Nat) (w : World) (e : Ending) (w' : World) : Prop :=
  ∃ U' V' x', e = .returned (.bool true) ∧ Hid (Bo w0 w' s n v a r U' V' x' x') ∧ Alt (Tch s n a r) w w'
set_option maxRecDepth 100000 in
set_option maxHeartbeats 2000000 in
theorem done_any (h : Hid (Bo w0 w s n v a r U V x x)) (d p c : Int) (hp : I64 p) (hc : I64 c) :
    Calls Try.prog 20 #[.pointer (some ⟨s, 0, none⟩), .pointer (some ⟨r, 0, none⟩), .agg #[.int .i64 d, .int .i64 p, .int .i64 c]] w (DPost w0 s n v a r w) := by
  have H0 := bo_next h ((Below.refl w.heap.size w).alloc (Nat.le_refl _) (.cells #[.int .i64 d, .int .i64 p, .int .i64 c] 37))
  have A0 : Hid (Alt (Tch s n a r) w (w.alloc (.cells #[.int .i64 d, .int .i64 p, .int .i64 c] 37))) := Lib.hid (Alt.alloc _ _)
  have X0 := Lib.hid (Box.new w #[.int .i64 d, .int .i64 p, .int .i64 c] 37)
  obtain ⟨W, hW⟩ : ∃ W, w.alloc (.cells #[.int .i64 d, .int .i64 p, .int .i64 c] 37) = W := ⟨_, rfl⟩
  rw [hW] at H0 A0 X0
  have bc := X0.out.cell
  have bd : ∀ i, W.drew.cell? ⟨w.heap.size, i, none⟩ = (#[.int .i64 d, .int .i64 p, .int .i64 c] : Array Value)[i]? := bc
  have HD := bo_drew H0
  have XD := Lib.hid X0.out.drew
  have AD : Hid (Alt (Tch s n a r) w W.drew) := Lib.hid (A0.out.trans (Alt.drewN _ 1))
  have HW := Lib.hid hW
  clear hW
  by_cases h0 : d = 0
  · subst h0
    obtain ⟨z, hy⟩ : ∃ z, (spendP n x p c).1 = z := ⟨_, rfl⟩
    obtain ⟨x', hy'⟩ : ∃ z, (spendP n x p c).2 = z := ⟨_, rfl⟩
    have HY : Hid (spendP n x p c = (z, x')) := Lib.hid (Prod.ext hy hy')
    clear hy hy' bc h
    go_enter Try.func20, Try.ntmps20
    go_wp2_with fail
    rw [HW.out]
    go_wp2_with fail
    go_region_held3 (fun w' => ∀ i, w'.cell? ⟨w.heap.size, i, none⟩ = (#[.int .i64 0, .int .i64 p, .int .i64 c] : Array Value)[i]?)
      (first
        | exact bd
        | exact r5)
      (first
        | (go_at_call 15; refine (bo_spendL (by assumption) p c hc z x' HY).mono ?_; rintro e1 w5 ⟨rfl, H5, k5⟩; have X5 := Lib.hid (bo_box (by assumption) k5 XD.out (by decide) (by decide) (by decide)); have r5 := X5.out.cell; have A5 := Lib.hid (AD.out.trans k5); clear k5 HD XD AD; have HD := H5; have XD := X5; have AD := A5; clear H5 X5 A5)
        | (go_at_call 35; refine (bo_spendR (by assumption) p c hc z x' HY).mono ?_; rintro e1 w5 ⟨U5, V5, rfl, H5, k5⟩; have X5 := Lib.hid (bo_box (by assumption) k5 XD.out (by decide) (by decide) (by decide)); have r5 := X5.out.cell; have A5 := Lib.hid (AD.out.trans k5); clear k5 HD XD AD; have HD := H5; have XD := X5; have AD := A5; clear H5 X5 A5))
    all_goals
      go_wp2_with fail
      go_ret
      exact ⟨_, _, x', rfl, HD, AD.out⟩
  by_cases h1 : d = 1
  · subst h1
    obtain ⟨z, hz⟩ : ∃ z, leftS n x - leftS n (finS n x p) = z := ⟨_, rfl⟩
    have HZ := Lib.hid hz
    have HZ2 : Hid (leftS n x - leftS n (setS n x p true) = z) := Lib.hid hz
    clear h h0 hz bc
    go_enter Try.func20, Try.ntmps20
    go_wp2_with fail
    rw [HW.out]
    go_wp2_with fail
    go_region_held3 (fun w' => ∀ i, w'.cell? ⟨w.heap.size, i, none⟩ = (#[.int .i64 1, .int .i64 p, .int .i64 c] : Array Value)[i]?)
      (first
        | exact bd
        | exact r5)
      (first
        | (go_at_call 14; refine (bo_finish (by assumption) p z HZ).mono ?_; rintro e1 w5 ⟨rfl, H5, k5⟩; have X5 := Lib.hid (bo_box (by assumption) k5 XD.out (by decide) (by decide) (by decide)); have r5 := X5.out.cell; have A5 := Lib.hid (AD.out.trans k5); clear k5 HD XD AD; have HD := H5; have XD := X5; have AD := A5; clear H5 X5 A5)
        | (go_at_call 36; refine (bo_set (by assumption) p true z HZ2).mono ?_; rintro e1 w5 ⟨U5, V5, rfl, H5, k5⟩; have X5 := Lib.hid (bo_box (by assumption) k5 XD.out (by decide) (by decide) (by decide)); have r5 := X5.out.cell; have A5 := Lib.hid (AD.out.trans k5); clear k5 HD XD AD; have HD := H5; have XD := X5; have AD := A5; clear H5 X5 A5))
    all_goals
      go_wp2_with fail
      go_ret
      exact ⟨_, _, _, rfl, HD, AD.out⟩
  · have q0 : (d == 0) = false := by simpa using h0
    have q1 : (d == 1) = false := by simpa using h1
    clear h h0 h1
    go_enter Try.func20, Try.ntmps20
    go_wp2_with fail
    rw [HW.out]
    go_wp2_with fail
    refine (bo_again H0 p).mono ?_
    rintro e1 w5 ⟨⟨z5, rfl⟩, H5, k5⟩
    have X5 := Lib.hid (bo_box H0 k5 X0.out (by decide) (by decide) (by decide))
    have A5 := Lib.hid (A0.out.trans k5)
    have r5 := X5.out.cell
    clear k5 bc
    go_wp2_with fail
    refine (bo_set H5 p false _ (Lib.hid rfl)).mono ?_
    rintro e1 w6 ⟨U6, V6, rfl, H6, k6⟩
    have A6 := Lib.hid (A5.out.trans k6)
    clear k6 r5
    go_wp2_with fail
    go_ret
    exact ⟨_, _, _, rfl, H6, A6.out⟩

set_option maxRecDepth 100000 in
set_option maxHeartbeats 4000000 in
theorem like_any (h : Hid (Bo w0 w s n v a r U V x x)) :
    Calls Try.prog 19 #[.pointer (some ⟨s, 0, none⟩), .pointer (some ⟨r, 0, none⟩)] w fun e w' => e = .returned (.bool true) ∧ Below w.heap.size w w' := by
  have hn := h.out.rk.out.ok.hn
  obtain ⟨A, ca, rfl, -⟩ := own_int h.out.rk.out.has
  go_enter Try.func19, Try.ntmps19
  go_wp2_with fail
  go_loopw [5] (fun i wr => ∃ k : Nat, k ≤ n ∧ i = .int .i64 k ∧ Hid (Below w.heap.size w wr)) (fun i _ => n - (intOf i).toNat)
  case atStart => exact ⟨0, by omega, rfl, Lib.hid (Below.refl _ _)⟩
  case round =>
    obtain ⟨k, hk, rfl, HC⟩ := hrel
    have HR := bo_next h HC.out
    have bc := HR.out.rk.out.box.cell
    by_cases hlt : k < n
    · obtain ⟨A', ca', e, hA⟩ := own_int HR.out.rk.out.has
      simp only [Value.slice.injEq, true_and] at e
      obtain ⟨rfl, rfl⟩ := e
      obtain ⟨g, rfl, gc⟩ := hA k hlt
      have C1 := Lib.hid (fun m => sl_of (sl_next HR.out.sl (show Below wr.heap.size wr (wr.drewN m) from ⟨rfl, rfl, rfl, Nat.le_refl _, fun _ _ => rfl⟩)) (k : Int) (x.has k) (Lib.hid (by unfold ofP; rw [if_pos ⟨by omega, by omega⟩, Int.toNat_natCast])))
      clear hA
      go_wp2_with fail
      go_quiet ((go_at_call 17; exact Calls.quiet_of_same ((C1.out _).mono (fun e w' h => ⟨h.1, h.2.symm⟩))))
      go_wp2_with fail
      go_roundw
      case rel => exact ⟨k + 1, by omega, by go_num, Lib.hid (below_drewN' HC.out _)⟩
      case measure => simp [intOf]; omega
    · obtain rfl : k = n := by omega
      have HD := bo_drew HR
      obtain ⟨z, hz⟩ : ∃ z, leftS k x = z := ⟨_, rfl⟩
      have HZ := Lib.hid hz
      have bd : ∀ i, wr.drew.cell? ⟨r, i, none⟩ = (#[.int .i64 x.room, .slice A k ca, V] : Array Value)[i]? := bc
      have KB : Hid (Below wr.heap.size wr wr.drew) := Lib.hid ((Below.refl _ _).drew)
      have RL := Lib.hid HD.out.rk.out.box.lt
      clear hz hlt
      go_wp2_with fail
      clear bc
      go_region_held3 (fun w' => ∀ i, w'.cell? ⟨r, i, none⟩ = (#[.int .i64 x.room, .slice A k ca, V] : Array Value)[i]?)
        (first
          | exact bd
          | exact r5)
        (first
          | (go_at_call 13; refine (sl_left HD.out.sl z HZ).mono ?_; rintro e1 w5 ⟨rfl, k5⟩; have H5 := bo_next HD k5; have K5 := Lib.hid (below_next KB.out k5); clear k5 HD KB; have HD := H5; have KB := K5; clear H5 K5; have r5 := HD.out.rk.out.box.cell)
          | (go_at_call 34; refine (leftr_any HD.out.rk z HZ).mono ?_; rintro e1 w5 ⟨rfl, rfl⟩)
          | (go_at_call 16; refine (sl_room HD.out.sl x.room (Lib.hid rfl)).mono ?_; rintro e1 w5 ⟨rfl, rfl⟩)
          | (go_at_call 17; refine (sl_of HD.out.sl _ 0 (by exact Lib.hid (of_out (by omega)))).mono ?_; rintro e1 w5 ⟨rfl, rfl⟩))
      all_goals
        clear bd r5
        go_wp2_with fail
        go_ret
        exact ⟨rfl, below_next HC.out KB.out⟩
theorem bo_done (h : Hid (Bo w0 w s n v a r U V x x)) (d p c : Int) (hp : I64 p) (hc : I64 c) :
    Calls Try.prog 20 #[.pointer (some ⟨s, 0, none⟩), .pointer (some ⟨r, 0, none⟩), .agg #[.int .i64 d, .int .i64 p, .int .i64 c]] w fun e w' => ∃ U' V' x', e = .returned (.bool true) ∧ Hid (Bo w0 w' s n v a r U' V' x' x') :=
  (done_any h d p c hp hc).mono fun e w' ⟨U', V', x', h1, h2, h3⟩ => ⟨U', V', x', h1, h2⟩
theorem bo_like (h : Hid (Bo w0 w s n v a r U V x x)) :
    Calls Try.prog 19 #[.pointer (some ⟨s, 0, none⟩), .pointer (some ⟨r, 0, none⟩)] w fun e w' => e = .returned (.bool true) ∧ Hid (Bo w0 w' s n v a r U V x x) :=
  (like_any h).mono fun e w' ⟨h1, h2⟩ => ⟨h1, bo_next h h2⟩
theorem bo_bel (h : Hid (Bo w0 w s n v a r U V x x)) : Below w0.heap.size w0 w := h.out.sl.out.bel
end
set_option maxRecDepth 100000 in
set_option maxHeartbeats 8000000 in
theorem plays_law (q : PartC) (aa : Option Addr) (an ac : Nat) (f : Nat → Nat → Int) (w : World) (ok : q.Ok w) (h : Hid (Open.RowsIn w aa an 3 f)) :
    Calls Try.prog 5 #[.agg #[.slice q.ra q.rn q.rc, .slice q.pa q.pn q.pc, .slice q.oa q.on q.oc, .slice q.sa q.sn q.sc, .int .i64 q.fl, .slice q.qa q.qn q.qc, .slice q.ta q.tn q.tc, .int .i64 q.cap, .int .i64 q.bud, .int .i64 q.lad, .slice q.ca q.cn q.cc], .slice aa an ac] w fun e w' => e = .returned (.bool true) ∧ Below w.heap.size w w' := by
  have B0 := Lib.hid (Box.new w #[.slice q.ra q.rn q.rc, .slice q.pa q.pn q.pc, .slice q.oa q.on q.oc, .slice q.sa q.sn q.sc, .int .i64 q.fl, .slice q.qa q.qn q.qc, .slice q.ta q.tn q.tc, .int .i64 q.cap, .int .i64 q.bud, .int .i64 q.lad, .slice q.ca q.cn q.cc] 29)
  have HB0 : Hid (Below w.heap.size w (w.alloc (.cells #[.slice q.ra q.rn q.rc, .slice q.pa q.pn q.pc, .slice q.oa q.on q.oc, .slice q.sa q.sn q.sc, .int .i64 q.fl, .slice q.qa q.qn q.qc, .slice q.ta q.tn q.tc, .int .i64 q.cap, .int .i64 q.bud, .int .i64 q.lad, .slice q.ca q.cn q.cc] 29))) := Lib.hid ((Below.refl w.heap.size w).alloc (Nat.le_refl _) _)
  have R := ok.proc
  have ic := ok.cap
  have hm := R.out.1
  clear ok
  by_cases hpn : q.pn ≤ 100
  · have hpn' : ((q.pn : Nat) : Int) ≤ 100 := by omega
    go_enter Try.func5, Try.ntmps5
    go_wp2_with fail
    generalize w.alloc (.cells #[.slice q.ra q.rn q.rc, .slice q.pa q.pn q.pc, .slice q.oa q.on q.oc, .slice q.sa q.sn q.sc, .int .i64 q.fl, .slice q.qa q.qn q.qc, .slice q.ta q.tn q.tc, .int .i64 q.cap, .int .i64 q.bud, .int .i64 q.lad, .slice q.ca q.cn q.cc] 29) = W at B0 HB0 ⊢
    have BD := Lib.hid B0.out.drew
    have bd : ∀ i, W.drew.cell? ⟨w.heap.size, i, none⟩ = (#[.slice q.ra q.rn q.rc, .slice q.pa q.pn q.pc, .slice q.oa q.on q.oc, .slice q.sa q.sn q.sc, .int .i64 q.fl, .slice q.qa q.qn q.qc, .slice q.ta q.tn q.tc, .int .i64 q.cap, .int .i64 q.bud, .int .i64 q.lad, .slice q.ca q.cn q.cc] : Array Value)[i]? := B0.out.cell
    have HD : Hid (Below w.heap.size w W.drew) := Lib.hid HB0.out.drew
    go_region_held3 (fun w' => ∀ i, w'.cell? ⟨w.heap.size, i, none⟩ = (#[.slice q.ra q.rn q.rc, .slice q.pa q.pn q.pc, .slice q.oa q.on q.oc, .slice q.sa q.sn q.sc, .int .i64 q.fl, .slice q.qa q.qn q.qc, .slice q.ta q.tn q.tc, .int .i64 q.cap, .int .i64 q.bud, .int .i64 q.lad, .slice q.ca q.cn q.cc] : Array Value)[i]?)
      (first
        | exact bd
        | exact r5)
      (first
        | (go_at_call 12; refine (sl_new (w0 := w) _ _ _ _ _ _ q.pf _ _ _ _ _ _ _ _ _ _ (by assumption) (Lib.hid (rows_below R.out HD.out (Nat.le_refl _))) hpn ic).mono ?_; rintro e1 w5 ⟨s, v, a, rfl, LL, k5⟩; (try have RR := rk_next RR k5); have B5 := Lib.hid (BD.out.next k5); have H5 := Lib.hid (below_next HD.out k5); clear k5 BD HD; have BD := B5; have HD := H5; clear B5 H5; have r5 := BD.out.cell)
        | (go_at_call 18; refine (newr_any _ _ _ _ _ _ q.pf _ _ _ _ _ _ _ _ _ _ w (by assumption) (Lib.hid (rows_below R.out HD.out (Nat.le_refl _))) hpn ic).mono ?_; rintro e1 w5 ⟨r, U, V, rfl, k5, RR⟩; (try have LL := sl_next LL k5); have B5 := Lib.hid (BD.out.next k5); have H5 := Lib.hid (below_next HD.out k5); clear k5 BD HD; have BD := B5; have HD := H5; clear B5 H5; have r5 := BD.out.cell))
    all_goals
      have HL : Hid (Bo w _ s q.pn v a r U V (ini q.cap q.pf) (ini q.cap q.pf)) := Lib.hid ⟨LL, RR⟩
      clear bd r5 LL RR BD HD
      go_wp2_with fail
      refine (works_any _).mono ?_
      rintro e1 w6 ⟨rfl, hb6⟩
      have HL := bo_next HL hb6
      clear hb6
      go_wp2_with fail
      refine (bo_like HL).mono ?_
      rintro e1 w7 ⟨rfl, HL⟩
      go_wp2_with fail
      go_loopw [7] (fun i wr => ∃ (k : Nat) (U V : Value) (x : SS), k ≤ an ∧ k ≤ 60 ∧ i = .int .i64 k ∧ Hid (Bo w wr s q.pn v a r U V x x)) (fun i _ => 60 - (intOf i).toNat)
      case atStart => exact ⟨0, _, _, _, by omega, by omega, rfl, HL⟩
      case round =>
        clear HL
        obtain ⟨k, U, V, x, hk, hk6, rfl, HL⟩ := hrel
        by_cases hlt : k < an ∧ k < 60
        · obtain ⟨hlt, h6⟩ := hlt
          obtain ⟨b, off, rfl, hbl, c0, c1, c2, i0, i1, i2⟩ := rows_at3 h k hlt
          have c0 := keep (bo_bel HL) c0 hbl
          have c1 := keep (bo_bel HL) c1 hbl
          have c2 := keep (bo_bel HL) c2 hbl
          generalize f k 0 = d at *
          generalize f k 1 = p at *
          generalize f k 2 = c at *
          go_wp2_with fail
          refine (bo_done HL d p c i1 i2).mono ?_
          rintro e1 w8 ⟨U8, V8, x8, rfl, H8⟩
          go_wp2_with fail
          refine (bo_like H8).mono ?_
          rintro e1 w9 ⟨rfl, H9⟩
          go_wp2_with fail
          go_roundw
          case rel => exact ⟨k + 1, _, _, _, by omega, by omega, by go_num, H9⟩
          case measure => simp [intOf]; omega
        · have ways : (k < an ∧ k = 60) ∨ k = an := by omega
          clear hlt
          rcases ways with ⟨hlt, rfl⟩ | rfl
          all_goals
            go_wp2_with fail
            go_ret
            exact ⟨rfl, bo_bel HL⟩
  · have hpn' : 100 < ((q.pn : Nat) : Int) := by omega
    go_enter Try.func5, Try.ntmps5
    go_wp2_with fail
    refine (works_any _).mono ?_
    rintro e1 w2 ⟨rfl, hb2⟩
    have HB := Lib.hid (below_next HB0.out hb2)
    clear hb2
    go_wp2_with fail
    go_ret
    exact ⟨rfl, HB.out⟩
end Go.Proofs.Ytaoghiijgcdbgaa.SlkP

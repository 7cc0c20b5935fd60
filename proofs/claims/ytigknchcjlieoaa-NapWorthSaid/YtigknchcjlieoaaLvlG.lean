/- Package level: Allowed. -/
import Derived.Maps.AppendAt
import Derived.Test.YtigknchcjlieoaaLvlF
namespace Go.Proofs.Ytigknchcjlieoaa.LvlG
open Go.RowKit Go.Shelf Base Kit Conf PowA PowB PowC PowR WideB Alt RefA LvlA LvlB LvlC LvlD LvlE LvlF
set_option linter.unusedVariables false
set_option linter.unusedSimpArgs false
attribute [local go_sem] Oper.semAt_some

theorem allowed_in (d : Nat) (p : PowC) (x : X5) (e : Int) (w : World) :
    CallsIn Fence.wide d Try.prog 40 #[.agg #[.slice p.la p.ln p.lc, .slice p.na p.nn p.nc, .int .i64 p.sw, .int .i64 p.id, .int .i64 p.ch, .int .i64 p.qu, .int .i64 p.sl, .int .i64 p.pp], .agg #[.int .i64 x.now, .int .i64 x.base, .int .i64 x.dn, .int .i64 x.lv, .int .i64 x.lf], .int .i64 e] w fun r w' => r = .returned (.func (.func 58) #[] #[.pointer (some ⟨w.heap.size + 1, 0, none⟩), .pointer (some ⟨w.heap.size, 0, none⟩), .pointer (some ⟨w.heap.size + 2, 0, none⟩)]) ∧
      w' = ((w.alloc (.cells #[.slice p.la p.ln p.lc, .slice p.na p.nn p.nc, .int .i64 p.sw, .int .i64 p.id, .int .i64 p.ch, .int .i64 p.qu, .int .i64 p.sl, .int .i64 p.pp] 25)).alloc (.cells #[.int .i64 x.now, .int .i64 x.base, .int .i64 x.dn, .int .i64 x.lv, .int .i64 x.lf] 34)).alloc (.cells #[.int .i64 e] 3) := by
  refine callsIn_of_wp Try.func40 rfl trivial ?_ rfl
  simp only [Try.ntmps40, List.size_toArray, List.length_cons, List.length_nil, Nat.reduceAdd, Nat.reduceSub, Array.replicate_succ, Array.replicate_zero, List.push_toArray, List.append_toArray, List.nil_append, List.cons_append]
  gi_wp2
  go_ret
  exact ⟨rfl, rfl⟩
theorem allowed_stops (d : Nat) (hd : 1 ≤ d) (Bx Bp Be n₀ ob B0 : Nat) (p : PowC) (x : X5) (e : Int) (w : World)
    (ok : Hid (∀ W', Below B0 w W' → p.Ok W')) (hb : Hid (B0 ≤ n₀ ∧ B0 ≤ ob ∧ n₀ ≤ w.heap.size ∧ Bx < n₀ ∧ Bx ≠ ob ∧ Bp < n₀ ∧ Bp ≠ ob ∧ Be < n₀ ∧ Be ≠ ob))
    (hx : Hid (∀ i, w.cell? ⟨Bx, i, none⟩ = (#[.int .i64 x.now, .int .i64 x.base, .int .i64 x.dn, .int .i64 x.lv, .int .i64 x.lf] : Array Value)[i]?)) (hp : Hid (∀ i, w.cell? ⟨Bp, i, none⟩ = (#[.slice p.la p.ln p.lc, .slice p.na p.nn p.nc, .int .i64 p.sw, .int .i64 p.id, .int .i64 p.ch, .int .i64 p.qu, .int .i64 p.sl, .int .i64 p.pp] : Array Value)[i]?)) (he : Hid (w.cell? ⟨Be, 0, none⟩ = some (.int .i64 e))) :
    SeqStopsK Fence.wide d Try.prog 58 #[.pointer (some ⟨Bx, 0, none⟩), .pointer (some ⟨Bp, 0, none⟩), .pointer (some ⟨Be, 0, none⟩)] (fun z : Nat => #[Value.int .i64 (z : Int)]) (Alt (AX n₀ ob)) (fun ys => ys = alwL p x e) (fun _ => True) p.ln w := fun l J Jx W hW hA _ hY h0 => by
  obtain ⟨b1, b2, b3, b4, b5, b6, b7, b8, b9⟩ := hb.out
  have hs := hW.size
  exact allowed1_in d hd l Bx Bp Be n₀ ob B0 p x e J Jx W (Lib.hid (fun W' h => ok.out W' ((hW.mono (by omega)).trans h))) (Lib.hid ⟨b1, b2, by omega, b4, b5, b6, b7, b8, b9⟩)
    (Lib.hid (fun i => (hW.cell (p := ⟨Bx, i, none⟩) (show Bx < _ by omega)).trans (hx.out i))) (Lib.hid (fun i => (hW.cell (p := ⟨Bp, i, none⟩) (show Bp < _ by omega)).trans (hp.out i))) (Lib.hid ((hW.cell (p := ⟨Be, 0, none⟩) (show Be < _ by omega)).trans he.out))
    (Lib.hid (fun pre W1 W2 hj hbel _ => hA pre W1 W2 none hj (grown_below hbel) (fun r e => by cases e))) (Lib.hid hY) h0
theorem ownFrom_alt {β : Type} {n₀ ob B : Nat} (W0 : World) (hB : n₀ ≤ B) : OwnFrom B (fun (_ : β) W => Alt (AX n₀ ob) W0 W) :=
  fun s W W' row hs hg hr => hs.trans (Alt.of_grown hg (fun i e => .inr (by have := (hr i e).1; omega)))
def encL (L : List Nat) : List Value := L.map (fun z : Nat => Value.int .i64 (z : Int))

set_option maxRecDepth 100000 in
set_option maxHeartbeats 4000000 in
theorem Allowed_any (p : PowC) (x : X5) (e : Int) (w : World) (ok : p.Ok w) (h100 : p.ln ≤ 100) (L : List Nat) (hL : Hid (alwL p x e = L)) :
    Calls Try.prog 14 #[.agg #[.slice p.la p.ln p.lc, .slice p.na p.nn p.nc, .int .i64 p.sw, .int .i64 p.id, .int .i64 p.ch, .int .i64 p.qu, .int .i64 p.sl, .int .i64 p.pp], .agg #[.int .i64 x.now, .int .i64 x.base, .int .i64 x.dn, .int .i64 x.lv, .int .i64 x.lf], .int .i64 e] w fun r w' => ∃ v, r = .returned v ∧ w'.ownsRow w.heap.size 3 1 v L.length (encL L) ∧ Below w.heap.size w w' := by
  refine (callsIn_wide (n := 3)).1 ?_
  obtain ⟨i0, hi, hz0, hz1, hz2⟩ := info_parts infoInt
  obtain ⟨W0, hW0⟩ : ∃ W0, (((((w.alloc (.cells #[.slice p.la p.ln p.lc, .slice p.na p.nn p.nc, .int .i64 p.sw, .int .i64 p.id, .int .i64 p.ch, .int .i64 p.qu, .int .i64 p.sl, .int .i64 p.pp] 25)).alloc (.cells #[.int .i64 x.now, .int .i64 x.base, .int .i64 x.dn, .int .i64 x.lv, .int .i64 x.lf] 34)).alloc (.cells #[.slice none 0 0] 32)).alloc (.cells #[.slice p.la p.ln p.lc, .slice p.na p.nn p.nc, .int .i64 p.sw, .int .i64 p.id, .int .i64 p.ch, .int .i64 p.qu, .int .i64 p.sl, .int .i64 p.pp] 25)).alloc (.cells #[.int .i64 x.now, .int .i64 x.base, .int .i64 x.dn, .int .i64 x.lv, .int .i64 x.lf] 34)).alloc (.cells #[.int .i64 e] 3) = W0 := ⟨_, rfl⟩
  have hK0 : W0.heap.size = w.heap.size + 6 ∧ Below w.heap.size w W0 ∧ Boxed W0 (w.heap.size + 2) 32 (.slice none 0 0) ∧ (∀ i, W0.cell? ⟨w.heap.size + 3, i, none⟩ = (#[.slice p.la p.ln p.lc, .slice p.na p.nn p.nc, .int .i64 p.sw, .int .i64 p.id, .int .i64 p.ch, .int .i64 p.qu, .int .i64 p.sl, .int .i64 p.pp] : Array Value)[i]?) ∧ (∀ i, W0.cell? ⟨w.heap.size + 4, i, none⟩ = (#[.int .i64 x.now, .int .i64 x.base, .int .i64 x.dn, .int .i64 x.lv, .int .i64 x.lf] : Array Value)[i]?) ∧ W0.cell? ⟨w.heap.size + 5, 0, none⟩ = some (.int .i64 e) := by
    have c1 := Boxed.new ((w.alloc (.cells #[.slice p.la p.ln p.lc, .slice p.na p.nn p.nc, .int .i64 p.sw, .int .i64 p.id, .int .i64 p.ch, .int .i64 p.qu, .int .i64 p.sl, .int .i64 p.pp] 25)).alloc (.cells #[.int .i64 x.now, .int .i64 x.base, .int .i64 x.dn, .int .i64 x.lv, .int .i64 x.lf] 34)) 32 (.slice none 0 0)
    have c2 := Box.new (((w.alloc (.cells #[.slice p.la p.ln p.lc, .slice p.na p.nn p.nc, .int .i64 p.sw, .int .i64 p.id, .int .i64 p.ch, .int .i64 p.qu, .int .i64 p.sl, .int .i64 p.pp] 25)).alloc (.cells #[.int .i64 x.now, .int .i64 x.base, .int .i64 x.dn, .int .i64 x.lv, .int .i64 x.lf] 34)).alloc (.cells #[.slice none 0 0] 32)) #[.slice p.la p.ln p.lc, .slice p.na p.nn p.nc, .int .i64 p.sw, .int .i64 p.id, .int .i64 p.ch, .int .i64 p.qu, .int .i64 p.sl, .int .i64 p.pp] 25
    have c3 := Box.new ((((w.alloc (.cells #[.slice p.la p.ln p.lc, .slice p.na p.nn p.nc, .int .i64 p.sw, .int .i64 p.id, .int .i64 p.ch, .int .i64 p.qu, .int .i64 p.sl, .int .i64 p.pp] 25)).alloc (.cells #[.int .i64 x.now, .int .i64 x.base, .int .i64 x.dn, .int .i64 x.lv, .int .i64 x.lf] 34)).alloc (.cells #[.slice none 0 0] 32)).alloc (.cells #[.slice p.la p.ln p.lc, .slice p.na p.nn p.nc, .int .i64 p.sw, .int .i64 p.id, .int .i64 p.ch, .int .i64 p.qu, .int .i64 p.sl, .int .i64 p.pp] 25)) #[.int .i64 x.now, .int .i64 x.base, .int .i64 x.dn, .int .i64 x.lv, .int .i64 x.lf] 34
    have c4 := Boxed.new (((((w.alloc (.cells #[.slice p.la p.ln p.lc, .slice p.na p.nn p.nc, .int .i64 p.sw, .int .i64 p.id, .int .i64 p.ch, .int .i64 p.qu, .int .i64 p.sl, .int .i64 p.pp] 25)).alloc (.cells #[.int .i64 x.now, .int .i64 x.base, .int .i64 x.dn, .int .i64 x.lv, .int .i64 x.lf] 34)).alloc (.cells #[.slice none 0 0] 32)).alloc (.cells #[.slice p.la p.ln p.lc, .slice p.na p.nn p.nc, .int .i64 p.sw, .int .i64 p.id, .int .i64 p.ch, .int .i64 p.qu, .int .i64 p.sl, .int .i64 p.pp] 25)).alloc (.cells #[.int .i64 x.now, .int .i64 x.base, .int .i64 x.dn, .int .i64 x.lv, .int .i64 x.lf] 34)) 3 (.int .i64 e)
    simp only [World.size_alloc, Nat.add_assoc, Nat.reduceAdd] at c1 c2 c3 c4
    subst hW0
    refine ⟨by simp, ?_, ((c1.alloc _).alloc _).alloc _, ((c2.alloc _).alloc _).cell, (c3.alloc _).cell, c4.cell⟩
    exact ((((((Below.refl w.heap.size w).alloc (Nat.le_refl _) _).alloc (by simp) _).alloc (by simp; omega) _).alloc (by simp; omega) _).alloc (by simp; omega) _).alloc (by simp; omega) _
  obtain ⟨sz0, bl0, bO, hp, hx, he⟩ := hK0
  have HP := Lib.hid hp
  have HX := Lib.hid hx
  have HE := Lib.hid he
  clear hp hx he
  refine callsIn_of_wp_marks Try.func14 rfl trivial ?_ rfl
  simp only [Try.ntmps14, List.size_toArray, List.length_cons, List.length_nil, Nat.reduceAdd, Nat.reduceSub, Array.replicate_succ, Array.replicate_zero, List.push_toArray, List.append_toArray, List.nil_append, List.cons_append]
  gi_wp2_with ((first | gi_at_call 40 | (refine ⟨trivial, ?_⟩; gi_at_call 40)); refine (allowed_in _ p x e _).mono ?_; rintro r w' ⟨rfl, rfl⟩)
  simp only [World.size_alloc, Nat.add_assoc, Nat.reduceAdd]
  try rw [hW0]
  clear hW0
  refine wpIn_rangeFunc_ownF rfl (by omega) (gf := 58) (lb := #[.pointer (some ⟨w.heap.size + 4, 0, none⟩), .pointer (some ⟨w.heap.size + 3, 0, none⟩), .pointer (some ⟨w.heap.size + 5, 0, none⟩)]) rfl trivial (enters_of Try.func58 (by kernel_rfl) rfl)
    (allowed_stops (3 - 1) (by omega) (w.heap.size + 4) (w.heap.size + 3) (w.heap.size + 5) (w.heap.size + 6) (w.heap.size + 2) w.heap.size p x e W0 (Lib.hid (fun W' h => ok.below (bl0.trans h) (Nat.le_refl _))) (Lib.hid ⟨by omega, by omega, by omega, by omega, by omega, by omega, by omega, by omega, by omega⟩) HX HP HE)
    Alt.trans (ax_put (by omega)) (Below.refl _ _) (fun _ => rfl)
    (fun pre W => (∃ v, Boxed W (w.heap.size + 2) 32 v ∧ W.ownsRow (w.heap.size + 6) 3 1 v pre.length (encL pre) ∧ True) ∧ Alt (AX (w.heap.size + 6) (w.heap.size + 2)) W0 W)
    (fun _ _ _ => False)
    (OwnFrom.and (Own.from (holdsRow_own (w.heap.size + 6) (w.heap.size + 2) 32 3 1 (fun pre : List Nat => pre.length) (fun pre => encL pre) (fun pre v => True)) _) (ownFrom_alt W0 (by omega)))
    (fun _ _ _ _ _ hs _ _ => hs)
    ⟨⟨_, bO, World.ownsRow_nil _ _ _ _, trivial⟩, Alt.refl _ _⟩
    (fun z => { tmps := #[.agg #[.slice p.la p.ln p.lc, .slice p.na p.nn p.nc, .int .i64 p.sw, .int .i64 p.id, .int .i64 p.ch, .int .i64 p.qu, .int .i64 p.sl, .int .i64 p.pp], .agg #[.int .i64 x.now, .int .i64 x.base, .int .i64 x.dn, .int .i64 x.lv, .int .i64 x.lf], .int .i64 e, .pointer (some ⟨w.heap.size, 0, none⟩), .pointer (some ⟨w.heap.size + 1, 0, none⟩), undef, .slice none 0 0, .pointer (some ⟨w.heap.size + 2, 0, none⟩), .int .i64 (z : Int), .agg #[.slice p.la p.ln p.lc, .slice p.na p.nn p.nc, .int .i64 p.sw, .int .i64 p.id, .int .i64 p.ch, .int .i64 p.qu, .int .i64 p.sl, .int .i64 p.pp], .agg #[.int .i64 x.now, .int .i64 x.base, .int .i64 x.dn, .int .i64 x.lv, .int .i64 x.lf], .int .i64 e, .func (.func 58) #[] #[.pointer (some ⟨w.heap.size + 4, 0, none⟩), .pointer (some ⟨w.heap.size + 3, 0, none⟩), .pointer (some ⟨w.heap.size + 5, 0, none⟩)], .int .i64 (z : Int), undef, undef, undef, undef, undef], defers := [] }) ?assign ?body ?done ?stop
  case assign =>
    intro l z W K hK
    gi_wp2
    exact hK
  case body =>
    rintro l pre z W ⟨⟨v, hv, hrow, -⟩, hA⟩ hlt
    have hc := hv.cell
    have hs := hA.size
    have hge : ∀ g, v.ownBlock = some g → w.heap.size + 6 ≤ g := fun g hg => (World.ownsRow.lt hrow g hg).1
    have hrow' : W.ownsRow w.heap.size 3 1 v pre.length (encL pre) := own_base hrow (fun g hg => by have := hge g hg; omega)
    gi_wp2_with (gi_at_builtin; go_loud (refine wpListIn_append_own _ rfl _ _ 32 rfl (w.heap.size + 6) 3 i0 (.int .i64 0) 1 8 Try.underlying32 hi hz0 hz1 hz2 rfl (by decide) _ _ _ rfl (hrow.alloc _) ⟨W.heap.size, 0, none⟩ 1 1 [.int .i64 (z : Int)] rfl rfl (cell_one_new _ _ _) (by simp [Value.oneCell']) (by unfold maxLen; omega) (by omega) (by rw [World.size_alloc]; omega) ?_); go_loud (intro v' w1 hown' hgrow _; obtain ⟨g', cap', rfl⟩ := ownsRow_succ hown'; obtain ⟨hv1, hv2, -, hk2, -⟩ := hv.appended (n₀ := w.heap.size) (by decide) hrow' (by omega) (by omega) (own_base hown' (fun g hg => by have := (World.ownsRow.lt hown' g hg).1; omega)) hgrow; have hc1 := hv1.cell; have hf1 := hv1.frozen))
    have hr2 := hown'.kept (grownBy_setCell' w1 (w.heap.size + 2) (.slice (some ⟨g', 0, none⟩) (pre.length + 1) cap')) (.inr (hv1.not_row (by decide) hown').symm)
    have hA2 := ((Alt.alloc (S := AX (w.heap.size + 6) (w.heap.size + 2)) W _).trans (Alt.of_grown hgrow (fun i e => .inr (hge i e)))).trans (Alt.set w1 ⟨w.heap.size + 2, 0, none⟩ (.slice (some ⟨g', 0, none⟩) (pre.length + 1) cap') (.inl rfl))
    exact ⟨hk2, hA2, ⟨_, hv2, by simpa [encL] using hr2, trivial⟩, hA.trans hA2⟩
  case done =>
    rintro D ys W hD rfl ⟨⟨v, hv, hrow, -⟩, hA⟩ hK
    have hc := hv.cell
    have bl : Below w.heap.size w W := Alt.below bl0 hA (by omega) (fun i h => by rcases h with h | h <;> omega)
    gi_wp2
    refine ⟨by simp, .inl ⟨_, _, rfl, run_takeDeferred hK, ?_⟩⟩
    have hr3 := ownsRow_putObj hrow (.deferred none) hK rfl
    refine ⟨_, results_tmp rfl _ _ _, v, rfl, ?_, bl.trans (belowK_b (w := w) (Nat.le_refl _) W D _ _ (by omega) hK rfl rfl)⟩
    rw [← hL.out]
    exact ownsRow_putObj (own_base hrow (fun g hg => by have := (World.ownsRow.lt hrow g hg).1; omega)) _ hK rfl
  case stop =>
    rintro D c pre W _ _ h _
    exact h.elim
end Go.Proofs.Ytigknchcjlieoaa.LvlG

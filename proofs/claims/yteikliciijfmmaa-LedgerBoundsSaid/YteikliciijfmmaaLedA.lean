/- Walks of package ledger: accounts. -/
import Derived.Test.YteikliciijfmmaaFitC
import Derived.Test.YteikliciijfmmaaAlt
import Derived.Test.YteikliciijfmmaaConf
namespace Go.Proofs.Yteikliciijfmmaa.LedA
open Go.RowKit Base Kit WideA WideB Plain FitA FitB FitC Conf Alt RefA
set_option linter.unusedVariables false
set_option linter.unusedSimpArgs false

/-- what cycles cost on a platform, and whether they do -/
def cst (W : PowC) (cyc : Int) : Int × Int := cs (top W.ln W.lf 0) (top W.ln W.lf 1) cyc
theorem cst_bd (W : PowC) (cyc : Int) : 0 ≤ (cst W cyc).1 ∧ (cst W cyc).1 ≤ 9223372036854775807 ∧ 0 ≤ (cst W cyc).2 ∧ (cst W cyc).2 ≤ 6 := by
  unfold cst cs
  split
  · simp
  · split
    · have := md_bd 1000 (top W.ln W.lf 1) 1 false (fun _ _ _ => trivial); simp; omega
    · exact md_bd _ _ _ _ (fun _ _ _ => trivial)

set_option maxRecDepth 100000 in
set_option maxHeartbeats 1000000 in
theorem used_any (W : PowC) (w : World) (a : Nat) (bud q cyc u : Int) (hb : Hid (Box w a #[.int .i64 bud, .int .i64 q, .slice W.la W.ln W.lc, .slice W.na W.nn W.nc, .int .i64 W.sw, .int .i64 W.id, .int .i64 W.ch, .int .i64 W.qu, .int .i64 W.sl, .int .i64 W.pp, .int .i64 cyc] 123)) (L : Hid (Open.RowsIn w W.la W.ln 2 W.lf)) (hc : I64 cyc) (hu : Hid ((cst W cyc).1 = u)) :
    Calls Try.prog 67 #[.pointer (some ⟨a, 0, none⟩)] w fun e w' => e = .returned (.int .i64 u) ∧ Below w.heap.size w w' := by
  obtain ⟨er, e2⟩ : ∃ x, (cst W cyc).2 = x := ⟨_, rfl⟩
  have C := Lib.hid (fun w h => cost_any W.la W.ln W.lc W.lf (.slice W.na W.nn W.nc) W.sw (.int .i64 W.id) (.int .i64 W.ch) (.int .i64 W.qu) (.int .i64 W.sl) (.int .i64 W.pp) cyc u er w h hc (Lib.hid (Prod.ext hu.out e2)))
  have hb : Hid (Box w.drew a #[.int .i64 bud, .int .i64 q, .slice W.la W.ln W.lc, .slice W.na W.nn W.nc, .int .i64 W.sw, .int .i64 W.id, .int .i64 W.ch, .int .i64 W.qu, .int .i64 W.sl, .int .i64 W.pp, .int .i64 cyc] 123) := Lib.hid hb.out.drew
  have L := rows_drew L
  have bc := hb.out.cell
  clear e2
  go_enter Try.func67, Try.ntmps67
  go_wp2_with fail
  go_region_held3 (fun w' => ∀ i, w'.cell? ⟨a, i, none⟩ = (#[.int .i64 bud, .int .i64 q, .slice W.la W.ln W.lc, .slice W.na W.nn W.nc, .int .i64 W.sw, .int .i64 W.id, .int .i64 W.ch, .int .i64 W.qu, .int .i64 W.sl, .int .i64 W.pp, .int .i64 cyc] : Array Value)[i]?)
    (first
      | exact bc
      | exact r5)
    (first
      | (go_at_call 20; refine (C.out _ (by exact L)).mono ?_; rintro e1 w5 ⟨rfl, hb5⟩; have r5 := (hb.out.next hb5).cell; have HB5 := Lib.hid hb5; clear hb5))
  clear bc r5
  go_wp2_with fail
  go_ret
  exact ⟨rfl, ((Below.refl _ _).drew).trans HB5.out⟩

set_option maxRecDepth 100000 in
set_option maxHeartbeats 1000000 in
theorem out_any (W : PowC) (w : World) (a : Nat) (bud q cyc : Int) (ok : Bool) (hb : Hid (Box w a #[.int .i64 bud, .int .i64 q, .slice W.la W.ln W.lc, .slice W.na W.nn W.nc, .int .i64 W.sw, .int .i64 W.id, .int .i64 W.ch, .int .i64 W.qu, .int .i64 W.sl, .int .i64 W.pp, .int .i64 cyc] 123)) (L : Hid (Open.RowsIn w W.la W.ln 2 W.lf)) (hc : I64 cyc) (hok : Hid (decide (bud ≤ (cst W cyc).1) = ok)) :
    Calls Try.prog 65 #[.pointer (some ⟨a, 0, none⟩)] w fun e w' => e = .returned (.bool ok) ∧ Below w.heap.size w w' := by
  obtain ⟨u, hu⟩ : ∃ u, (cst W cyc).1 = u := ⟨_, rfl⟩
  have hb : Hid (Box w.drew a #[.int .i64 bud, .int .i64 q, .slice W.la W.ln W.lc, .slice W.na W.nn W.nc, .int .i64 W.sw, .int .i64 W.id, .int .i64 W.ch, .int .i64 W.qu, .int .i64 W.sl, .int .i64 W.pp, .int .i64 cyc] 123) := Lib.hid hb.out.drew
  have L := rows_drew L
  have C := Lib.hid (used_any W w.drew a bud q cyc u hb L hc (Lib.hid hu))
  rw [hu] at hok
  have bc := hb.out.cell
  clear hu
  go_enter Try.func65, Try.ntmps65
  go_wp2_with fail
  go_region_held3 (fun w' => ∀ i, w'.cell? ⟨a, i, none⟩ = (#[.int .i64 bud, .int .i64 q, .slice W.la W.ln W.lc, .slice W.na W.nn W.nc, .int .i64 W.sw, .int .i64 W.id, .int .i64 W.ch, .int .i64 W.qu, .int .i64 W.sl, .int .i64 W.pp, .int .i64 cyc] : Array Value)[i]?)
    (first
      | exact bc
      | exact r5)
    (first
      | (go_at_call 67; refine C.out.mono ?_; rintro e1 w5 ⟨rfl, hb5⟩; have r5 := (hb.out.next hb5).cell; have HB5 := Lib.hid hb5; clear hb5))
  clear bc r5
  go_wp2_with fail
  go_ret
  exact ⟨ret_bool hok.out, ((Below.refl _ _).drew).trans HB5.out⟩

/-- a row of pointers -/
def prow (a : Nat → Nat) (n : Nat) : List Value := (List.range n).map fun i => .pointer (some ⟨a i, 0, none⟩)
theorem prow_succ (a : Nat → Nat) (n : Nat) : prow a (n + 1) = prow a n ++ [.pointer (some ⟨a n, 0, none⟩)] := by simp [prow, List.range_succ]
theorem prow_get (a : Nat → Nat) (n i : Nat) (h : i < n) : (prow a n)[i]? = some (.pointer (some ⟨a i, 0, none⟩)) := by simp [prow, h]
theorem prow_congr {a b : Nat → Nat} {n : Nat} (h : ∀ i, i < n → a i = b i) : prow a n = prow b n := by
  unfold prow; apply List.map_congr_left; intro i hi; rw [h i (by simpa using hi)]
/-- a ledger in memory: its block, its row, and an account for each partition -/
structure Lm (W : PowC) (q : Int) (bud : Nat → Int) (n : Nat) (w : World) (l : Nat) (v : Value) (a : Nat → Nat) (cy : Nat → Int) : Prop where
  box : Box w l #[v, .bool true] 97
  own : w.ownsRow 0 119 1 v n (prow a n)
  acc : ∀ i, i < n → Box w (a i) #[.int .i64 (bud i), .int .i64 q, .slice W.la W.ln W.lc, .slice W.na W.nn W.nc, .int .i64 W.sw, .int .i64 W.id, .int .i64 W.ch, .int .i64 W.qu, .int .i64 W.sl, .int .i64 W.pp, .int .i64 (cy i)] 123
  inj : ∀ i j, i < n → j < n → a i = a j → i = j
theorem Lm.next {W : PowC} {q : Int} {bud : Nat → Int} {n : Nat} {w w1 : World} {l : Nat} {v : Value} {a : Nat → Nat} {cy : Nat → Int} (h : Lm W q bud n w l v a cy) (k : Below w.heap.size w w1) : Lm W q bud n w1 l v a cy :=
  ⟨h.box.next k, ownsRow_keep h.own k, fun i hi => (h.acc i hi).next k, h.inj⟩

theorem dead_any (w : World) (l : Nat) (v : Value) (hb : Hid (Box w l #[v, .bool true] 97)) :
    Calls Try.prog 66 #[.pointer (some ⟨l, 0, none⟩)] w fun e w' => e = .returned (.bool false) ∧ w = w' := by
  have bc := hb.out.cell
  go_enter Try.func66, Try.ntmps66
  go_wp2_with fail
  go_ret
  exact ⟨rfl, rfl⟩
/-- the slice, and what lies at a place of it -/
theorem own_slice {w : World} {v : Value} {n : Nat} {a : Nat → Nat} {e : TypeId} (h : w.ownsRow 0 e 1 v n (prow a n)) : ∃ A c, v = .slice A n c ∧ ∀ i, i < n → ∃ g, A = some ⟨g, 0, none⟩ ∧ w.cell? ⟨g, i, none⟩ = some (.pointer (some ⟨a i, 0, none⟩)) := by
  rcases id h.2 with ⟨h1, h2⟩ | ⟨g, cap, cur, hv, hg, hh, r⟩
  · subst h2; exact ⟨none, 0, h1, fun i hi => by omega⟩
  · refine ⟨_, _, hv, fun i hi => ⟨g, rfl, ?_⟩⟩
    have := h.cells (g := g) (by rw [hv]; rfl) i _ (prow_get a n i hi)
    rw [Open.add_none] at this
    simpa using this
def fnd (n : Nat) (a : Nat → Nat) (p : Int) : Option Addr := if 0 ≤ p ∧ p < (n : Int) then some ⟨a p.toNat, 0, none⟩ else none
set_option maxRecDepth 100000 in
theorem find_any (W : PowC) (q : Int) (bud : Nat → Int) (n : Nat) (w : World) (l : Nat) (v : Value) (a : Nat → Nat) (cy : Nat → Int) (p : Int) (h : Hid (Lm W q bud n w l v a cy)) (hn : n ≤ 100) (r : Option Addr) (hr : Hid (fnd n a p = r)) :
    Calls Try.prog 64 #[.pointer (some ⟨l, 0, none⟩), .int .i64 p] w fun e w' => e = .returned (.pointer r) ∧ w = w' := by
  have hb := Lib.hid h.out.box
  obtain ⟨A, c, rfl, hA⟩ := own_slice h.out.own
  have bc := hb.out.cell
  have hr := hr.out
  unfold fnd at hr
  by_cases hp : 0 ≤ p ∧ p < (n : Int)
  · rw [if_pos hp] at hr
    obtain ⟨h0, h1⟩ := hp
    obtain ⟨k, rfl⟩ := Int.eq_ofNat_of_zero_le h0
    obtain ⟨g, rfl, gc⟩ := hA k (by omega)
    rw [Int.toNat_natCast] at hr
    subst hr
    clear hA
    go_enter Try.func64, Try.ntmps64
    go_wp2_with fail
    refine (dead_any w l _ hb).mono ?_
    rintro e w1 ⟨rfl, rfl⟩
    go_wp2_with fail
    go_ret
    exact ⟨rfl, rfl⟩
  · rw [if_neg hp] at hr
    subst hr
    have ways : p < 0 ∨ (0 ≤ p ∧ (n : Int) ≤ p) := by omega
    clear hA hp
    rcases ways with k | ⟨k1, k2⟩
    all_goals
      go_enter Try.func64, Try.ntmps64
      go_wp2_with fail
      refine (dead_any w l _ hb).mono ?_
      rintro e w1 ⟨rfl, rfl⟩
      go_wp2_with fail
      go_ret
      exact ⟨rfl, rfl⟩
end Go.Proofs.Yteikliciijfmmaa.LedA

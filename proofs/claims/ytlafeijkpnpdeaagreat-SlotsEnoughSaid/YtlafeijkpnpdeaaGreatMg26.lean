import Derived.Maps.AppendAt
import Derived.Test.YtlafeijkpnpdeaaGreatMg25
import Derived.Test.YtlafeijkpnpdeaaGreatMg8
import Derived.Test.YtlafeijkpnpdeaaGreatMg22
import Derived.Test.YtlafeijkpnpdeaaGreatMg12
import Derived.Test.YtlafeijkpnpdeaaGreatMg23
import Derived.Test.YtlafeijkpnpdeaaGreatMg9

/- Package level: Allowed. -/
namespace Go.Proofs.YtlafeijkpnpdeaaGreat.LvlG
open Go.RowKit Go.Shelf Base Kit Conf PowA PowB PowC PowR WideB Alt RefA LvlA LvlB LvlC LvlD LvlE LvlF
set_option linter.unusedVariables false
set_option linter.unusedSimpArgs false
attribute [local go_sem] Oper.semAt_some

theorem ownFrom_alt {β : Type} {n₀ ob B : Nat} (W0 : World) (hB : n₀ ≤ B) : OwnFrom B (fun (_ : β) W => Alt (AX n₀ ob) W0 W) :=
  fun s W W' row hs hg hr => hs.trans (Alt.of_grown hg (fun i e => .inr (by have := (hr i e).1; omega)))
def encL (L : List Nat) : List Value := L.map (fun z : Nat => Value.int .i64 (z : Int))

end Go.Proofs.YtlafeijkpnpdeaaGreat.LvlG

/- The reference of level: Allowed. -/
namespace Go.Proofs.YtlafeijkpnpdeaaGreat.LvlH
open Go.RowKit Go.Shelf Base Kit Conf PowA PowB PowC PowR WideB Alt RefA LvlA LvlB LvlC LvlD LvlE LvlF LvlG
set_option linter.unusedVariables false
set_option linter.unusedSimpArgs false

def alwK (p : PowC) (x : X5) (e : Int) (k : Nat) : List Nat := if MayP p x then alw p x e k else []
theorem alwK_0 (p : PowC) (x : X5) (e : Int) : alwK p x e 0 = [] := by unfold alwK; split <;> rfl
theorem alwK_in {p : PowC} {x : X5} {e : Int} {k : Nat} (h : MayP p x ∧ endP p x k ≤ e) : alwK p x e (k + 1) = alwK p x e k ++ [k] := by
  unfold alwK; rw [if_pos h.1, if_pos h.1, alw, if_pos h.2]
theorem alwK_out {p : PowC} {x : X5} {e : Int} {k : Nat} (h : ¬ (MayP p x ∧ endP p x k ≤ e)) : alwK p x e (k + 1) = alwK p x e k := by
  unfold alwK
  by_cases m : MayP p x
  · rw [if_pos m, if_pos m, alw, if_neg (fun h' => h ⟨m, h'⟩)]
  · rw [if_neg m, if_neg m]
theorem alwK_len (p : PowC) (x : X5) (e : Int) (k : Nat) : (alwK p x e k).length ≤ k := by unfold alwK; split; exact alw_len _ _ _ _; exact Nat.zero_le _
theorem encL_snoc (l : List Nat) (k : Nat) : encL (l ++ [k]) = encL l ++ [.int .i64 (k : Int)] := by simp [encL]

end Go.Proofs.YtlafeijkpnpdeaaGreat.LvlH

/- Package level: the least of some levels. -/
namespace Go.Proofs.YtlafeijkpnpdeaaGreat.LvlI
open Go.RowKit Go.Shelf Base Kit Conf PowA PowB PowC PowR WideB Alt RefA LvlA LvlB LvlC LvlD LvlE LvlF LvlG LvlH
set_option linter.unusedVariables false
set_option linter.unusedSimpArgs false

theorem costP_bd {p : PowC} {x : X5} (may : MayP p x) {k : Nat} (hk : k < p.ln) : 0 ≤ costP p x k ∧ costP p x k ≤ 4300000000000000000 := by
  have e := endP_bd may hk
  obtain ⟨f0, f1, q0, q1⟩ := lev_bd may.1 hk
  obtain ⟨⟨s0, s1⟩, -, ⟨g0, g1⟩, -⟩ := rest_bd may.1
  unfold costP
  by_cases h : (k : Int) = x.lv
  · rw [if_pos h]
    have := mul_bd q0 q1 (show 0 ≤ endP p x k - x.now by omega) (e.2.1 h)
    omega
  · rw [if_neg h]
    have e2 := e.2.2 h
    have := mul_bd q0 q1 (show 0 ≤ endP p x k - x.now - p.sw by omega) e2.2
    have := mul_bd g0 g1 s0 s1
    omega
/-- the least of the first ones -/
def bst (c : Nat → Int) (L : Nat → Nat) : Nat → Nat
  | 0 => L 0
  | i + 1 => if c (L (i + 1)) < c (bst c L i) then L (i + 1) else bst c L i
theorem bst_in (c : Nat → Int) (L : Nat → Nat) : ∀ i, ∃ j, j ≤ i ∧ bst c L i = L j
  | 0 => ⟨0, Nat.le_refl _, rfl⟩
  | i + 1 => by
    obtain ⟨j, hj, h⟩ := bst_in c L i
    unfold bst; split
    · exact ⟨i + 1, Nat.le_refl _, rfl⟩
    · exact ⟨j, by omega, h⟩
end Go.Proofs.YtlafeijkpnpdeaaGreat.LvlI

/- Package level and its reference: Best. -/
namespace Go.Proofs.YtlafeijkpnpdeaaGreat.LvlJ
open Go.RowKit Go.Shelf Base Kit Conf PowA PowB PowC PowR WideB Alt RefA LvlA LvlB LvlC LvlD LvlE LvlF LvlG LvlH LvlI
set_option linter.unusedVariables false
set_option linter.unusedSimpArgs false

theorem encL_row (L : List Nat) : encL L = row (fun i => ((L.getD i 0 : Nat) : Int)) L.length := by
  apply List.ext_getElem?
  intro i
  by_cases h : i < L.length
  · rw [row_get _ _ _ h]; simp [encL, h]
  · rw [List.getElem?_eq_none (by simp [encL]; omega), List.getElem?_eq_none (by simp [row]; omega)]
theorem alw_lt {p : PowC} {x : X5} {e : Int} : ∀ {k : Nat} {y : Nat}, y ∈ alw p x e k → y < k ∧ endP p x y ≤ e
  | 0, y, h => by simp [alw] at h
  | k + 1, y, h => by
    unfold alw at h
    split at h
    · rename_i hk
      rcases List.mem_append.1 h with h | h
      · have := alw_lt h; exact ⟨by omega, this.2⟩
      · simp at h; subst h; exact ⟨by omega, hk⟩
    · have := alw_lt h; exact ⟨by omega, this.2⟩
theorem alwL_mem {p : PowC} {x : X5} {e : Int} {y : Nat} (h : y ∈ alwL p x e) : MayP p x ∧ y < p.ln ∧ endP p x y ≤ e := by
  unfold alwL at h
  split at h
  · rename_i m; exact ⟨m, alw_lt h⟩
  · simp at h
theorem alwL_get {p : PowC} {x : X5} {e : Int} {i : Nat} (h : i < (alwL p x e).length) : MayP p x ∧ (alwL p x e).getD i 0 < p.ln ∧ endP p x ((alwL p x e).getD i 0) ≤ e := by
  have : (alwL p x e).getD i 0 ∈ alwL p x e := by simp [h]
  exact alwL_mem this
theorem own_zero {w : World} {base n : Nat} {e : TypeId} {size : Nat} {v : Value} {xs : List Value} (h : w.ownsRow base e size v n xs) : ∃ a c, v = .slice a n c := by
  rcases h.2 with ⟨rfl, rfl⟩ | ⟨g, cap, cur, rfl, _⟩
  · exact ⟨_, _, rfl⟩
  · exact ⟨_, _, rfl⟩
/-- the one that takes least -/
def bestR (p : PowC) (x : X5) (e : Int) : Int := if (alwL p x e).length = 0 then -1 else ((bst (costP p x) (fun i => (alwL p x e).getD i 0) ((alwL p x e).length - 1) : Nat) : Int)
end Go.Proofs.YtlafeijkpnpdeaaGreat.LvlJ

/- The reference of level: Best. -/
namespace Go.Proofs.YtlafeijkpnpdeaaGreat.LvlK
open Go.RowKit Go.Shelf Base Kit Conf PowA PowB PowC PowR WideB Alt RefA LvlA LvlB LvlC LvlD LvlE LvlF LvlG LvlH LvlI LvlJ
set_option linter.unusedVariables false
set_option linter.unusedSimpArgs false

end Go.Proofs.YtlafeijkpnpdeaaGreat.LvlK

/- Package level and its reference: Pick. -/
namespace Go.Proofs.YtlafeijkpnpdeaaGreat.LvlM
open Go.RowKit Go.Shelf Base Kit Conf PowA PowB PowC PowR WideB Alt RefA LvlA LvlB LvlC LvlD LvlE LvlF LvlG LvlH LvlI LvlJ LvlK
set_option linter.unusedVariables false
set_option linter.unusedSimpArgs false

/-- the one that is picked -/
def pickR (p : PowC) (x : X5) (e c : Int) : Int := if c < 1 ∨ (alwL p x e).length = 0 then bestR p x e else (((alwL p x e).getD ((c - 1).toNat % (alwL p x e).length) 0 : Nat) : Int)
end Go.Proofs.YtlafeijkpnpdeaaGreat.LvlM

/- Package nap: Allowed, and its reference. -/
namespace Go.Proofs.YtlafeijkpnpdeaaGreat.NapE
open Go.RowKit Go.Shelf Base Kit Conf PowA PowB PowC PowR WideB Alt RefA LvlA LvlG LvlH LvlI LvlJ OscPlain OscZ NapA NapB NapC NapD
set_option linter.unusedVariables false
set_option linter.unusedSimpArgs false

/-- the naps that may be -/
def naw (p : PowC) (now en : Int) : Nat → List Nat
  | 0 => []
  | k + 1 => if 1 ≤ CntR p (k : Int) now en then naw p now en k ++ [k] else naw p now en k
theorem naw_len (p : PowC) (now en : Int) : ∀ k, (naw p now en k).length ≤ k
  | 0 => Nat.le_refl _
  | k + 1 => by have := naw_len p now en k; unfold naw; split <;> simp <;> omega
def nawL (p : PowC) (now en : Int) : List Nat := naw p now en p.nn
theorem nawL_len (p : PowC) (now en : Int) : (nawL p now en).length ≤ p.nn := naw_len _ _ _ _
theorem naw_in {p : PowC} {now en : Int} {k : Nat} (h : 1 ≤ CntR p (k : Int) now en) : naw p now en (k + 1) = naw p now en k ++ [k] := by rw [naw, if_pos h]
theorem naw_out {p : PowC} {now en : Int} {k : Nat} (h : ¬ 1 ≤ CntR p (k : Int) now en) : naw p now en (k + 1) = naw p now en k := by rw [naw, if_neg h]
set_option maxRecDepth 100000 in
set_option maxHeartbeats 4000000 in
theorem Allowed_any (p : PowC) (now en : Int) (w : World) (ok : p.Ok w) (h100 : p.nn ≤ 100) (L : List Nat) (hL : Hid (nawL p now en = L)) :
    Calls Tryz.prog 54 #[.agg #[.slice p.la p.ln p.lc, .slice p.na p.nn p.nc, .int .i64 p.sw, .int .i64 p.id, .int .i64 p.ch, .int .i64 p.qu, .int .i64 p.sl, .int .i64 p.pp], .int .i64 now, .int .i64 en] w fun r w' => ∃ v, r = .returned v ∧ w'.ownsRow w.heap.size 3 1 v L.length (encL L) ∧ Below w.heap.size w w' := by
  have hm := ok.nap.out.1
  have b1 := Box.new w #[.slice p.la p.ln p.lc, .slice p.na p.nn p.nc, .int .i64 p.sw, .int .i64 p.id, .int .i64 p.ch, .int .i64 p.qu, .int .i64 p.sl, .int .i64 p.pp] 28
  have bb := (Below.refl w.heap.size w).alloc (Nat.le_refl _) (.cells #[.slice p.la p.ln p.lc, .slice p.na p.nn p.nc, .int .i64 p.sw, .int .i64 p.id, .int .i64 p.ch, .int .i64 p.qu, .int .i64 p.sl, .int .i64 p.pp] 28)
  have sz : (w.alloc (.cells #[.slice p.la p.ln p.lc, .slice p.na p.nn p.nc, .int .i64 p.sw, .int .i64 p.id, .int .i64 p.ch, .int .i64 p.qu, .int .i64 p.sl, .int .i64 p.pp] 28)).heap.size = w.heap.size + 1 := by simp
  go_enter Tryz.func54, Tryz.ntmps54
  go_wp2_with fail
  generalize w.alloc (.cells #[.slice p.la p.ln p.lc, .slice p.na p.nn p.nc, .int .i64 p.sw, .int .i64 p.id, .int .i64 p.ch, .int .i64 p.qu, .int .i64 p.sl, .int .i64 p.pp] 28) = W at b1 bb sz ⊢
  have B1 := Lib.hid b1
  have BB := Lib.hid bb
  have SZ := Lib.hid sz
  skip
  clear b1 bb sz
  go_loopw [7, 12] (fun v i wr => ∃ k : Nat, k ≤ p.nn ∧ i = .int .i64 k ∧ wr.ownsRow W.heap.size 3 1 v (naw p now en k).length (encL (naw p now en k)) ∧ Hid (Below W.heap.size W wr)) (fun _ i _ => p.nn - (intOf i).toNat)
  case atStart => exact ⟨0, Nat.zero_le _, rfl, World.ownsRow_nil _ _ _ _, Lib.hid (Below.refl _ _)⟩
  case round =>
    obtain ⟨k, hk, rfl, hown, hbel⟩ := hrel
    have x1 : ∀ i, wr.cell? ⟨w.heap.size, i, none⟩ = (#[.slice p.la p.ln p.lc, .slice p.na p.nn p.nc, .int .i64 p.sw, .int .i64 p.id, .int .i64 p.ch, .int .i64 p.qu, .int .i64 p.sl, .int .i64 p.pp] : Array Value)[i]? := fun i => (hbel.out.cell (p := ⟨w.heap.size, i, none⟩) B1.out.lt).trans (B1.out.cell i)
    by_cases hlt : k < p.nn
    · have okr := ok.below (BB.out.trans (hbel.out.mono (by rw [SZ.out]; omega))) (Nat.le_refl _)
      obtain ⟨c, hc⟩ : ∃ c, CntR p (k : Int) now en = c := ⟨_, rfl⟩
      have hlen := naw_len p now en k
      have C := Lib.hid (Counts_any p (k : Int) now en wr okr c (Lib.hid hc))
      by_cases hle : 1 ≤ c
      · have HR := Lib.hid (naw_in (p := p) (now := now) (en := en) (k := k) (by rw [hc]; exact hle))
        clear hc
        go_wp2_with (first
          | (go_at_call 87; refine (C.out).mono ?_; rintro r1 w5 ⟨rfl, k5⟩; have hown5 := ownsRow_keep hown k5; have HB5 := Lib.hid (hbel.out.trans (k5.mono hbel.out.size)); clear k5)
          | (at_builtin; go_loud (refine append1 w5 rfl _ _ 29 rfl W.heap.size 3 (.int .i64 0) 8 Tryz.underlying29 infoInt rfl _ (.int .i64 (k : Int)) _ _ _ rfl (by exact hown5) rfl rfl ?c1 ?c2 ?c3 ?_)))
        case c1 => unfold maxLen; omega
        case c2 => omega
        case c3 => exact HB5.out.size
        intro v' w1 hown1 hsz hb1 _
        go_wp2_with fail
        go_roundw
        case rel => exact ⟨k + 1, by omega, by go_num, by rw [HR.out, encL_snoc, List.length_append]; exact hown1, Lib.hid (HB5.out.trans hb1)⟩
        case measure => simp [intOf]; omega
      · have HR := Lib.hid (naw_out (p := p) (now := now) (en := en) (k := k) (by rw [hc]; exact hle))
        clear hc
        have hle : c < 1 := by omega
        go_wp2_with (go_at_call 87; refine (C.out).mono ?_; rintro r1 w5 ⟨rfl, k5⟩; have hown5 := ownsRow_keep hown k5; have HB5 := Lib.hid (hbel.out.trans (k5.mono hbel.out.size)); clear k5)
        go_roundw
        case rel => exact ⟨k + 1, by omega, by go_num, by rw [HR.out]; exact hown5, HB5⟩
        case measure => simp [intOf]; omega
    · obtain rfl : k = p.nn := by omega
      go_wp2_with fail
      go_ret
      refine ⟨_, rfl, ?_, BB.out.trans (hbel.out.mono (by rw [SZ.out]; omega))⟩
      rw [← hL.out]
      exact own_base hown (fun g hg => by have := (World.ownsRow.lt hown g hg).1; rw [SZ.out] at this; omega)
end Go.Proofs.YtlafeijkpnpdeaaGreat.NapE

/- Package nap: the least one (slices.MinFunc with the closure of Best). -/
namespace Go.Proofs.YtlafeijkpnpdeaaGreat.NapF
open Go.RowKit Go.Shelf Base Kit Conf PowA PowB PowC PowR WideB Alt RefA LvlA LvlG LvlH LvlI LvlJ OscPlain OscZ NapA NapB NapC NapD NapE
set_option linter.unusedVariables false
set_option linter.unusedSimpArgs false

/-- what the closure reads -/
def Cap (p : PowC) (now en : Int) (Bp Bn Be : Nat) (w : World) : Prop := (∀ i, w.cell? ⟨Bp, i, none⟩ = (#[.slice p.la p.ln p.lc, .slice p.na p.nn p.nc, .int .i64 p.sw, .int .i64 p.id, .int .i64 p.ch, .int .i64 p.qu, .int .i64 p.sl, .int .i64 p.pp] : Array Value)[i]?) ∧ w.cell? ⟨Bn, 0, none⟩ = some (.int .i64 now) ∧ w.cell? ⟨Be, 0, none⟩ = some (.int .i64 en)
theorem cap_next {p : PowC} {now en : Int} {Bp Bn Be : Nat} {w w1 : World} (h : Cap p now en Bp Bn Be w) (lp : Bp < w.heap.size) (k : Below w.heap.size w w1) : Cap p now en Bp Bn Be w1 :=
  ⟨fun i => (k.cell (p := ⟨Bp, i, none⟩) lp).trans (h.1 i), keep' k h.2.1, keep' k h.2.2⟩
set_option maxRecDepth 100000 in
set_option maxHeartbeats 4000000 in
theorem best1_any (p : PowC) (now en : Int) (Bp Bn Be k1 k2 : Nat) (w : World) (ok : p.Ok w) (may : MayN p now en) (h1 : k1 < p.nn ∧ 0 ≤ roomN p k1 now en) (h2 : k2 < p.nn ∧ 0 ≤ roomN p k2 now en) (hl : en - now ≤ 1099511627776)
    (hc : Hid (Cap p now en Bp Bn Be w)) (lp : Bp < w.heap.size) (r : Int) (hr : Hid (costN p k1 now en - costN p k2 now en = r)) :
    Calls Tryz.prog 56 #[.int .i64 (k1 : Int), .int .i64 (k2 : Int), .pointer (some ⟨Bp, 0, none⟩), .pointer (some ⟨Bn, 0, none⟩), .pointer (some ⟨Be, 0, none⟩)] w fun e w' => e = .returned (.int .i64 r) ∧ Below w.heap.size w w' := by
  have d1 := cost_bd may h1.1 h1.2 hl
  have d2 := cost_bd may h2.1 h2.2 hl
  obtain ⟨c1, e1⟩ : ∃ c, costN p k1 now en = c := ⟨_, rfl⟩
  obtain ⟨c2, e2⟩ : ∃ c, costN p k2 now en = c := ⟨_, rfl⟩
  have hr := hr.out
  have C1 := Lib.hid (fun w1 (h : Below w.heap.size w w1) => cost_any p k1 now en w1 (ok.below h (Nat.le_refl _)) may h1.1 h1.2 hl c1 (Lib.hid e1))
  have C2 := Lib.hid (fun w1 (h : Below w.heap.size w w1) => cost_any p k2 now en w1 (ok.below h (Nat.le_refl _)) may h2.1 h2.2 hl c2 (Lib.hid e2))
  rw [e1] at d1 hr
  rw [e2] at d2 hr
  subst hr
  clear e1 e2 may h1 h2 hl
  have hw := IntWalk.i64_in (c1 - c2) (by omega)
  have S := Lib.hid ((Below.refl w.heap.size w).drew)
  have K := Lib.hid (fun w1 (h : Below w.heap.size w w1) => cap_next hc.out lp h)
  go_enter Tryz.func56, Tryz.ntmps56
  go_wp2_with fail
  have bd := K.out _ S.out
  unfold Cap at bd
  go_region_held3 (fun w' => (∀ i, w'.cell? ⟨Bp, i, none⟩ = (#[.slice p.la p.ln p.lc, .slice p.na p.nn p.nc, .int .i64 p.sw, .int .i64 p.id, .int .i64 p.ch, .int .i64 p.qu, .int .i64 p.sl, .int .i64 p.pp] : Array Value)[i]?) ∧ w'.cell? ⟨Bn, 0, none⟩ = some (.int .i64 now) ∧ w'.cell? ⟨Be, 0, none⟩ = some (.int .i64 en))
    (first
      | exact r6
      | exact r5
      | exact bd)
    (first
      | (go_at_call 57; refine (C2.out _ S5.out).mono ?_; rintro e1 w6 ⟨rfl, k6⟩; have S6 := Lib.hid (S5.out.trans (k6.mono S5.out.size)); have r6 := K.out _ S6.out; unfold Cap at r6; clear k6)
      | (go_at_call 57; refine (C1.out _ S.out).mono ?_; rintro e1 w5 ⟨rfl, k5⟩; have S5 := Lib.hid (S.out.trans (k5.mono S.out.size)); have r5 := K.out _ S5.out; unfold Cap at r5; clear k5))
  all_goals
    clear bd r5 r6
    go_wp2_with fail
    go_ret
    exact ⟨rfl, S6.out⟩
set_option maxRecDepth 100000 in
set_option maxHeartbeats 4000000 in
theorem min_any (p : PowC) (now en : Int) (Bp Bn Be g n cap : Nat) (L : Nat → Nat) (w : World) (ok : p.Ok w) (may : MayN p now en) (hL : ∀ i, i < n → L i < p.nn ∧ 0 ≤ roomN p (L i) now en) (hl : en - now ≤ 1099511627776) (hn : n ≤ 100) (h0 : 0 < n)
    (hc : Hid (Cap p now en Bp Bn Be w)) (lp : Bp < w.heap.size) (lg : g < w.heap.size)
    (hg : Hid (∀ i, i < n → w.cell? ⟨g, i, none⟩ = some (.int .i64 (L i : Int)))) (r : Nat) (hr : Hid (bst (fun k => costN p k now en) L (n - 1) = r)) :
    Calls Tryz.prog 55 #[.slice (some ⟨g, 0, none⟩) n cap, .func (.func 56) #[] #[.pointer (some ⟨Bp, 0, none⟩), .pointer (some ⟨Bn, 0, none⟩), .pointer (some ⟨Be, 0, none⟩)]] w fun e w' => e = .returned (.int .i64 (r : Int)) ∧ Below w.heap.size w w' := by
  have c0 := hg.out 0 h0
  have hn1 : ¬ (n : Int) < 1 := by omega
  have M := Lib.hid (And.intro may hl)
  have HL := Lib.hid hL
  clear may hL hl
  obtain ⟨C, hC⟩ : ∃ C : Nat → Int, ∀ k, costN p k now en = C k := ⟨_, fun _ => rfl⟩
  rw [show (fun k => costN p k now en) = C from funext hC] at hr
  have HC := Lib.hid hC
  clear hC
  go_enter Tryz.func55, Tryz.ntmps55
  go_wp2_with fail
  go_loopw [5, 6] (fun m i wr => ∃ k : Nat, 1 ≤ k ∧ k ≤ n ∧ i = .int .i64 k ∧ m = .int .i64 ((bst C L (k - 1) : Nat) : Int) ∧ Hid (Below w.heap.size w wr)) (fun _ i _ => n - (intOf i).toNat)
  case atStart => exact ⟨1, Nat.le_refl _, h0, rfl, rfl, Lib.hid (Below.refl _ _)⟩
  case round =>
    clear c0
    obtain ⟨k, hk1, hk, rfl, rfl, hb⟩ := hrel
    by_cases hlt : k < n
    · obtain ⟨q, rfl⟩ : ∃ q, k = q + 1 := ⟨k - 1, by omega⟩
      rw [Nat.add_sub_cancel]
      have ck : wr.cell? ⟨g, q + 1, none⟩ = some (.int .i64 (L (q + 1) : Int)) := (hb.out.cell (p := ⟨g, q + 1, none⟩) lg).trans (hg.out _ hlt)
      have hbs : bst C L (q + 1) = if C (L (q + 1)) < C (bst C L q) then L (q + 1) else bst C L q := rfl
      have hin : bst C L q < p.nn ∧ 0 ≤ roomN p (bst C L q) now en := by
        obtain ⟨j, hj, h⟩ := bst_in C L q
        rw [h]; exact HL.out j (by omega)
      generalize bst C L q = m at hbs hin ⊢
      have hq := HL.out (q + 1) hlt
      obtain ⟨y, hy⟩ : ∃ y, L (q + 1) = y := ⟨_, rfl⟩
      rw [hy] at ck hbs hq
      clear hy
      obtain ⟨t, ht⟩ : ∃ t, C y - C m = t := ⟨_, rfl⟩
      have D := Lib.hid (best1_any p now en Bp Bn Be y m wr (ok.below hb.out (Nat.le_refl _)) M.out.1 hq hin M.out.2 (Lib.hid (cap_next hc.out lp hb.out)) (Nat.lt_of_lt_of_le lp hb.out.size) t (Lib.hid (by rw [HC.out, HC.out]; exact ht)))
      have lg' : g < wr.heap.size := Nat.lt_of_lt_of_le lg hb.out.size
      clear hq hin
      by_cases ht0 : t < 0
      · have HB := Lib.hid (show bst C L (q + 1) = y by rw [hbs, if_pos (by omega)])
        clear hbs ht
        go_wp2_with (go_at_call 56; refine D.out.mono ?_; rintro e1 w5 ⟨rfl, k5⟩; have ck5 := (k5.cell (p := ⟨g, q + 1, none⟩) lg').trans ck; have HB5 := Lib.hid (hb.out.trans (k5.mono hb.out.size)); clear k5)
        go_roundw
        case rel => exact ⟨q + 1 + 1, by omega, by omega, by go_num, by rw [Nat.add_sub_cancel, HB.out], HB5⟩
        case measure => simp [intOf]; omega
      · have HB := Lib.hid (show bst C L (q + 1) = m by rw [hbs, if_neg (by omega)])
        clear hbs ht
        go_wp2_with (go_at_call 56; refine D.out.mono ?_; rintro e1 w5 ⟨rfl, k5⟩; have HB5 := Lib.hid (hb.out.trans (k5.mono hb.out.size)); clear k5)
        go_roundw
        case rel => exact ⟨q + 1 + 1, by omega, by omega, by go_num, by rw [Nat.add_sub_cancel, HB.out], HB5⟩
        case measure => simp [intOf]; omega
    · obtain rfl : k = n := by omega
      have HR := hr.out
      go_wp2_with fail
      go_ret
      exact ⟨Kit.ret_int (congrArg Int.ofNat HR), hb.out⟩
end Go.Proofs.YtlafeijkpnpdeaaGreat.NapF

/- Package nap: Best, and its reference. -/
namespace Go.Proofs.YtlafeijkpnpdeaaGreat.NapG
open Go.RowKit Go.Shelf Base Kit Conf PowA PowB PowC PowR WideB Alt RefA LvlA LvlG LvlH LvlI LvlJ OscPlain OscZ NapA NapB NapC NapD NapE NapF
set_option linter.unusedVariables false
set_option linter.unusedSimpArgs false

theorem snoc_lt {L : List Nat} {k i : Nat} (h : i < L.length) : (L ++ [k]).getD i 0 = L.getD i 0 := by
  rw [List.getD_eq_getElem?_getD, List.getD_eq_getElem?_getD, List.getElem?_append_left h]
theorem snoc_eq (L : List Nat) (k : Nat) : (L ++ [k]).getD L.length 0 = k := by
  rw [List.getD_eq_getElem?_getD, List.getElem?_append_right (Nat.le_refl _)]; simp
theorem bst_snoc (c : Nat → Int) (L : List Nat) (k : Nat) : ∀ i, i < L.length → bst c (fun i => (L ++ [k]).getD i 0) i = bst c (fun i => L.getD i 0) i
  | 0, h => snoc_lt h
  | i + 1, h => by
    unfold bst
    rw [bst_snoc c L k i (by omega)]
    simp only [snoc_lt h]
def bM (c : Nat → Int) (L : List Nat) : Nat := bst c (fun i => L.getD i 0) (L.length - 1)
theorem bM_one (c : Nat → Int) (k : Nat) {L : List Nat} (h : L.length = 0) : bM c (L ++ [k]) = k := by
  obtain rfl := List.length_eq_zero_iff.1 h
  rfl
theorem bM_snoc (c : Nat → Int) (k : Nat) {L : List Nat} (h : L.length ≠ 0) : bM c (L ++ [k]) = if c k < c (bM c L) then k else bM c L := by
  unfold bM
  obtain ⟨n, hn⟩ : ∃ n, L.length = n + 1 := ⟨L.length - 1, by omega⟩
  rw [List.length_append, List.length_singleton, hn]
  show bst c (fun i => (L ++ [k]).getD i 0) (n + 1) = _
  rw [bst, bst_snoc c L k n (by omega)]
  simp only [show n + 1 - 1 = n from rfl]
  rw [show (L ++ [k]).getD (n + 1) 0 = k from by rw [← hn]; exact snoc_eq L k]
/-- those that the best one is taken of -/
def lst (p : PowC) (now en : Int) (k : Nat) : List Nat := if 1099511627776 < en - now then [] else naw p now en k
def BestR (p : PowC) (now en : Int) : Int :=
  if (lst p now en p.nn).length = 0 then -1 else if p.id * (en - now) ≤ costN p (bM (fun k => costN p k now en) (lst p now en p.nn)) now en then -1 else (bM (fun k => costN p k now en) (lst p now en p.nn) : Int)
theorem naw_mem {p : PowC} {now en : Int} : ∀ {k y : Nat}, y ∈ naw p now en k → y < k ∧ 1 ≤ CntR p (y : Int) now en
  | 0, y, h => by simp [naw] at h
  | k + 1, y, h => by
    unfold naw at h
    split at h
    · rcases List.mem_append.1 h with h | h
      · have := naw_mem h; exact ⟨by omega, this.2⟩
      · obtain rfl := List.mem_singleton.1 h; exact ⟨by omega, by assumption⟩
    · have := naw_mem h; exact ⟨by omega, this.2⟩
theorem naw_fine {p : PowC} {now en : Int} {k y : Nat} (h : y ∈ naw p now en k) : y < p.nn ∧ MayN p now en ∧ 0 ≤ roomN p y now en := by
  obtain ⟨j, e, h1, h2, h3, -⟩ := cnt_ge (naw_mem h).2
  obtain rfl : y = j := by omega
  exact ⟨h1, h2, h3⟩
theorem mem_get {L : List Nat} {i : Nat} (h : i < L.length) : L.getD i 0 ∈ L := by
  rw [List.getD_eq_getElem?_getD, List.getElem?_eq_getElem h]
  exact List.getElem_mem h
theorem bM_mem (c : Nat → Int) {L : List Nat} (h : L.length ≠ 0) : bM c L ∈ L := by
  obtain ⟨j, hj, e⟩ := bst_in c (fun i => L.getD i 0) (L.length - 1)
  unfold bM
  rw [e]
  exact mem_get (by omega)

set_option maxRecDepth 100000 in
set_option maxHeartbeats 4000000 in
theorem Best_any (p : PowC) (now en : Int) (w : World) (ok : p.Ok w) (h100 : p.nn ≤ 100) (r : Int) (hr : Hid (BestR p now en = r)) :
    Calls Tryz.prog 33 #[.agg #[.slice p.la p.ln p.lc, .slice p.na p.nn p.nc, .int .i64 p.sw, .int .i64 p.id, .int .i64 p.ch, .int .i64 p.qu, .int .i64 p.sl, .int .i64 p.pp], .int .i64 now, .int .i64 en] w fun e w' => e = .returned (.int .i64 r) ∧ Below w.heap.size w w' := by
  have hr := hr.out
  have A := Lib.hid (fun w1 (h : Below w.heap.size w w1) => Allowed_any p now en w1 (ok.below h (Nat.le_refl _)) h100 _ (Lib.hid rfl))
  have G := Lib.hid (fun y (h : y ∈ nawL p now en) => naw_fine h)
  have ln := nawL_len p now en
  unfold BestR lst at hr
  rw [show naw p now en p.nn = nawL p now en from rfl] at hr
  generalize nawL p now en = L at hr A G ln
  have b1 := ((Box.new w #[.slice p.la p.ln p.lc, .slice p.na p.nn p.nc, .int .i64 p.sw, .int .i64 p.id, .int .i64 p.ch, .int .i64 p.qu, .int .i64 p.sl, .int .i64 p.pp] 28).alloc (.cells #[.int .i64 now] 3)).alloc (.cells #[.int .i64 en] 3)
  have b2 := (Box.new (w.alloc (.cells #[.slice p.la p.ln p.lc, .slice p.na p.nn p.nc, .int .i64 p.sw, .int .i64 p.id, .int .i64 p.ch, .int .i64 p.qu, .int .i64 p.sl, .int .i64 p.pp] 28)) #[.int .i64 now] 3).alloc (.cells #[.int .i64 en] 3)
  have b3 := Box.new ((w.alloc (.cells #[.slice p.la p.ln p.lc, .slice p.na p.nn p.nc, .int .i64 p.sw, .int .i64 p.id, .int .i64 p.ch, .int .i64 p.qu, .int .i64 p.sl, .int .i64 p.pp] 28)).alloc (.cells #[.int .i64 now] 3)) #[.int .i64 en] 3
  rw [World.size_alloc] at b2
  rw [World.size_alloc, World.size_alloc] at b3
  have K : Hid (Cap p now en w.heap.size (w.heap.size + 1) (w.heap.size + 1 + 1) (((w.alloc (.cells #[.slice p.la p.ln p.lc, .slice p.na p.nn p.nc, .int .i64 p.sw, .int .i64 p.id, .int .i64 p.ch, .int .i64 p.qu, .int .i64 p.sl, .int .i64 p.pp] 28)).alloc (.cells #[.int .i64 now] 3)).alloc (.cells #[.int .i64 en] 3))) :=
    Lib.hid ⟨b1.cell, b2.cell 0, b3.cell 0⟩
  have B1 := Lib.hid b1
  clear b1 b2 b3
  have bb := Lib.hid ((((Below.refl w.heap.size w).alloc (Nat.le_refl _) (.cells #[.slice p.la p.ln p.lc, .slice p.na p.nn p.nc, .int .i64 p.sw, .int .i64 p.id, .int .i64 p.ch, .int .i64 p.qu, .int .i64 p.sl, .int .i64 p.pp] 28)).alloc (by simp) (.cells #[.int .i64 now] 3)).alloc (by simp; omega) (.cells #[.int .i64 en] 3))
  go_enter Tryz.func33, Tryz.ntmps33
  go_wp2_with fail
  generalize ((w.alloc (.cells #[.slice p.la p.ln p.lc, .slice p.na p.nn p.nc, .int .i64 p.sw, .int .i64 p.id, .int .i64 p.ch, .int .i64 p.qu, .int .i64 p.sl, .int .i64 p.pp] 28)).alloc (.cells #[.int .i64 now] 3)).alloc (.cells #[.int .i64 en] 3) = W at K B1 bb ⊢
  refine (A.out _ bb.out).mono ?_
  rintro e1 w5 ⟨v, rfl, hown, k5⟩
  have HB := Lib.hid (below_next bb.out k5)
  have K := Lib.hid (cap_next K.out B1.out.lt k5)
  have B1 := Lib.hid (B1.out.next k5)
  clear k5
  obtain ⟨x1, x2, x3⟩ := K.out
  by_cases h0 : L.length = 0
  · rw [if_pos (by split; rfl; exact h0)] at hr
    subst hr
    obtain ⟨a, c, rfl⟩ := own_zero hown
    rw [h0]
    go_wp2_with fail
    go_ret
    exact ⟨rfl, HB.out⟩
  · obtain ⟨g, cap, rfl, lg0, lg⟩ := ownsRow_open hown h0
    have may := (G.out _ (mem_get (show 0 < L.length by omega))).2.1
    have m1 := may.2.1
    have m2 := may.2.2.1
    have m3 := may.2.2.2
    have h0' : ((L.length : Int) == 0) = false := by simpa using h0
    by_cases hlo : 1099511627776 < en - now
    · rw [if_pos hlo, if_pos (show ([] : List Nat).length = 0 from rfl)] at hr
      subst hr
      clear hown may
      go_wp2_with fail
      go_ret
      exact ⟨rfl, HB.out⟩
    · rw [if_neg hlo, if_neg h0] at hr
      have hl : en - now ≤ 1099511627776 := by omega
      have hg : Hid (∀ i, i < L.length → w5.cell? ⟨g, i, none⟩ = some (.int .i64 ((L.getD i 0 : Nat) : Int))) := Lib.hid (fun i hi => by
        have hown' := hown
        rw [encL_row] at hown'
        have := hown'.cells (g := g) rfl i _ (row_get _ _ i hi)
        rw [Open.add_none, Nat.zero_add] at this
        exact this)
      have hm0 := bM_mem (fun k => costN p k now en) h0
      obtain ⟨m, hm⟩ : ∃ m, bM (fun k => costN p k now en) L = m := ⟨_, rfl⟩
      rw [hm] at hr hm0
      have hgm := G.out m hm0
      have cb := cost_bd may hgm.1 hgm.2.2 hl
      have M := Lib.hid (min_any p now en w.heap.size (w.heap.size + 1) (w.heap.size + 1 + 1) g L.length cap (fun i => L.getD i 0) w5 (ok.below HB.out (Nat.le_refl _)) may (fun i hi => ⟨(G.out _ (mem_get hi)).1, (G.out _ (mem_get hi)).2.2⟩) hl (by omega) (by omega) K B1.out.lt lg hg m (Lib.hid hm))
      have pb := rest_bd may.1
      have ib := mul_bd pb.2.1.1 pb.2.1.2 (show 0 ≤ en - now by omega) hl
      obtain ⟨c, hc⟩ : ∃ c, costN p m now en = c := ⟨_, rfl⟩
      have D := Lib.hid (fun w1 (h : Below w.heap.size w w1) => cost_any p m now en w1 (ok.below h (Nat.le_refl _)) may hgm.1 hgm.2.2 hl c (Lib.hid hc))
      rw [hc] at hr cb
      obtain ⟨P, hP⟩ : ∃ P, p.id * (en - now) = P := ⟨_, rfl⟩
      rw [hP] at hr ib
      have HP := Lib.hid hP
      clear may hg hm hc hP pb hm0 hgm hown
      go_wp2_with fail
      refine M.out.mono ?_
      rintro e1 w6 ⟨rfl, k6⟩
      have HB := Lib.hid (below_next HB.out k6)
      have K := Lib.hid (cap_next K.out B1.out.lt k6)
      have B1 := Lib.hid (B1.out.next k6)
      clear k6 x1 x2 x3
      go_wp2_with fail
      have HB := below_drew HB
      have K : Hid (Cap p now en w.heap.size (w.heap.size + 1) (w.heap.size + 1 + 1) w6.drew) := Lib.hid (cap_next K.out B1.out.lt (Below.refl _ _).drew)
      have bd := K.out
      unfold Cap at bd
      have hw1 : IntKind.i64.wrap (en - now) = en - now := IntWalk.i64_in _ (by omega)
      have hw2 : IntKind.i64.wrap (p.id * (en - now)) = P := by rw [HP.out]; exact IntWalk.i64_in _ (by omega)
      have lt6 : w.heap.size < w6.drew.heap.size := B1.out.lt
      have LT6 := Lib.hid lt6
      clear lt6
      go_region_held3 (fun w' => (∀ i, w'.cell? ⟨w.heap.size, i, none⟩ = (#[.slice p.la p.ln p.lc, .slice p.na p.nn p.nc, .int .i64 p.sw, .int .i64 p.id, .int .i64 p.ch, .int .i64 p.qu, .int .i64 p.sl, .int .i64 p.pp] : Array Value)[i]?) ∧ w'.cell? ⟨w.heap.size + 1, 0, none⟩ = some (.int .i64 now) ∧ w'.cell? ⟨w.heap.size + 1 + 1, 0, none⟩ = some (.int .i64 en))
        (first
          | exact r5
          | exact bd)
        (first
          | (go_at_call 57; refine (D.out _ HB.out).mono ?_; rintro e1 w7 ⟨rfl, k7⟩; have HB7 := Lib.hid (below_next HB.out k7); have r5 := cap_next K.out LT6.out k7; unfold Cap at r5; clear k7))
      clear bd r5 hw1 hw2
      by_cases hge : P ≤ c
      · rw [if_pos hge] at hr
        subst hr
        go_wp2_with fail
        go_ret
        exact ⟨rfl, HB7.out⟩
      · rw [if_neg hge] at hr
        subst hr
        have hge : c < P := by omega
        go_wp2_with fail
        go_ret
        exact ⟨rfl, HB7.out⟩
end Go.Proofs.YtlafeijkpnpdeaaGreat.NapG

/- Package nap: the reference's Best; Pick, and its reference. -/
namespace Go.Proofs.YtlafeijkpnpdeaaGreat.NapH
open Go.RowKit Go.Shelf Base Kit Conf PowA PowB PowC PowR WideB Alt RefA Boo LvlA LvlG LvlH LvlI LvlJ OscPlain OscZ NapA NapB NapC NapD NapE NapF NapG
set_option linter.unusedVariables false
set_option linter.unusedSimpArgs false

theorem lst_in {p : PowC} {now en : Int} {k : Nat} (h : 1 ≤ CntR p (k : Int) now en) (hl : ¬ 1099511627776 < en - now) : lst p now en (k + 1) = lst p now en k ++ [k] := by
  unfold lst; rw [if_neg hl, if_neg hl, naw_in h]
theorem lst_out {p : PowC} {now en : Int} {k : Nat} (h : CntR p (k : Int) now en < 1 ∨ 1099511627776 < en - now) : lst p now en (k + 1) = lst p now en k := by
  unfold lst
  by_cases hl : 1099511627776 < en - now
  · rw [if_pos hl, if_pos hl]
  · rw [if_neg hl, if_neg hl, naw_out (by omega)]
theorem lst_fine {p : PowC} {now en : Int} {k y : Nat} (h : y ∈ lst p now en k) : y < k ∧ y < p.nn ∧ MayN p now en ∧ 0 ≤ roomN p y now en ∧ en - now ≤ 1099511627776 := by
  unfold lst at h
  split at h
  · simp at h
  · have := naw_fine h
    exact ⟨(naw_mem h).1, this.1, this.2.1, this.2.2, by omega⟩
/-- the state of the reference's loop -/
def Rb (p : PowC) (now en : Int) (k : Nat) (z l : Int) : Prop :=
  ((lst p now en k).length = 0 ∧ z = -1) ∨ ((lst p now en k).length ≠ 0 ∧ z = (bM (fun k => costN p k now en) (lst p now en k) : Int) ∧ l = costN p (bM (fun k => costN p k now en) (lst p now en k)) now en)
theorem rb_bd {p : PowC} {now en : Int} {k : Nat} {z l : Int} (h : Rb p now en k z l) : z = -1 ∨ (0 ≤ z ∧ z < k) := by
  rcases h with ⟨-, h⟩ | ⟨h0, h1, -⟩
  · exact .inl h
  · have := (lst_fine (bM_mem (fun k => costN p k now en) h0)).1
    right; omega
theorem rb_out {p : PowC} {now en : Int} {k : Nat} {z l : Int} (h : Rb p now en k z l) (hc : CntR p (k : Int) now en < 1 ∨ 1099511627776 < en - now) : Rb p now en (k + 1) z l := by
  unfold Rb at h ⊢
  rw [lst_out hc]; exact h
theorem rb_take {p : PowC} {now en : Int} {k : Nat} {z l : Int} (h : Rb p now en k z l) (hc : 1 ≤ CntR p (k : Int) now en) (hl : ¬ 1099511627776 < en - now) (hz : z < 0 ∨ costN p k now en < l) : Rb p now en (k + 1) k (costN p k now en) := by
  have hb := rb_bd h
  unfold Rb at h ⊢
  rw [lst_in hc hl]
  right
  refine ⟨by simp, ?_⟩
  rcases h with ⟨h0, h1⟩ | ⟨h0, h1, h2⟩
  · rw [bM_one _ _ h0]; exact ⟨rfl, rfl⟩
  · have e : bM (fun k => costN p k now en) (lst p now en k ++ [k]) = k := by
      rw [bM_snoc _ _ h0, if_pos (by show costN p k now en < costN p _ now en; omega)]
    rw [e]; exact ⟨rfl, rfl⟩
theorem rb_stay {p : PowC} {now en : Int} {k : Nat} {z l : Int} (h : Rb p now en k z l) (hc : 1 ≤ CntR p (k : Int) now en) (hl : ¬ 1099511627776 < en - now) (hz : ¬ z < 0) (hz2 : ¬ costN p k now en < l) : Rb p now en (k + 1) z l := by
  unfold Rb at h ⊢
  rw [lst_in hc hl]
  right
  refine ⟨by simp, ?_⟩
  rcases h with ⟨h0, h1⟩ | ⟨h0, h1, h2⟩
  · omega
  · have e : bM (fun k => costN p k now en) (lst p now en k ++ [k]) = bM (fun k => costN p k now en) (lst p now en k) := by
      rw [bM_snoc _ _ h0, if_neg (by show ¬ costN p k now en < costN p _ now en; omega)]
    rw [e]; exact ⟨h1, h2⟩
set_option maxRecDepth 100000 in
set_option maxHeartbeats 4000000 in
theorem Bestr_any (p : PowC) (now en : Int) (w : World) (ok : p.Ok w) (h100 : p.nn ≤ 100) (r : Int) (hr : Hid (BestR p now en = r)) :
    Calls Tryz.prog 23 #[.agg #[.slice p.la p.ln p.lc, .slice p.na p.nn p.nc, .int .i64 p.sw, .int .i64 p.id, .int .i64 p.ch, .int .i64 p.qu, .int .i64 p.sl, .int .i64 p.pp], .int .i64 now, .int .i64 en] w fun e w' => e = .returned (.int .i64 r) ∧ Below w.heap.size w w' := by
  have hm := ok.nap.out.1
  have b1 := Box.new w #[.slice p.la p.ln p.lc, .slice p.na p.nn p.nc, .int .i64 p.sw, .int .i64 p.id, .int .i64 p.ch, .int .i64 p.qu, .int .i64 p.sl, .int .i64 p.pp] 28
  have bb := (Below.refl w.heap.size w).alloc (Nat.le_refl _) (.cells #[.slice p.la p.ln p.lc, .slice p.na p.nn p.nc, .int .i64 p.sw, .int .i64 p.id, .int .i64 p.ch, .int .i64 p.qu, .int .i64 p.sl, .int .i64 p.pp] 28)
  have sz : (w.alloc (.cells #[.slice p.la p.ln p.lc, .slice p.na p.nn p.nc, .int .i64 p.sw, .int .i64 p.id, .int .i64 p.ch, .int .i64 p.qu, .int .i64 p.sl, .int .i64 p.pp] 28)).heap.size = w.heap.size + 1 := by simp
  go_enter Tryz.func23, Tryz.ntmps23
  go_wp2_with fail
  generalize w.alloc (.cells #[.slice p.la p.ln p.lc, .slice p.na p.nn p.nc, .int .i64 p.sw, .int .i64 p.id, .int .i64 p.ch, .int .i64 p.qu, .int .i64 p.sl, .int .i64 p.pp] 28) = W at b1 bb sz ⊢
  have B1 := Lib.hid b1
  have BB := Lib.hid bb
  have SZ := Lib.hid sz
  clear b1 bb sz
  go_loopw [7, 8, 9] (fun b l i wr => ∃ (k : Nat) (z l' : Int), k ≤ p.nn ∧ i = .int .i64 k ∧ b = .int .i64 z ∧ l = .int .i64 l' ∧ Hid (Rb p now en k z l') ∧ Hid (Below W.heap.size W wr)) (fun _ _ i _ => p.nn - (intOf i).toNat)
  case atStart => exact ⟨0, -1, 0, Nat.zero_le _, rfl, rfl, rfl, Lib.hid (.inl ⟨by unfold lst; split <;> rfl, rfl⟩), Lib.hid (Below.refl _ _)⟩
  case round =>
    obtain ⟨k, z, l, hk, rfl, rfl, rfl, HR, hbel⟩ := hrel
    have x1 : ∀ i, wr.cell? ⟨w.heap.size, i, none⟩ = (#[.slice p.la p.ln p.lc, .slice p.na p.nn p.nc, .int .i64 p.sw, .int .i64 p.id, .int .i64 p.ch, .int .i64 p.qu, .int .i64 p.sl, .int .i64 p.pp] : Array Value)[i]? := fun i => (hbel.out.cell (p := ⟨w.heap.size, i, none⟩) B1.out.lt).trans (B1.out.cell i)
    have hzb := rb_bd HR.out
    by_cases hlt : k < p.nn
    · have okr := ok.below (BB.out.trans (hbel.out.mono (by rw [SZ.out]; omega))) (Nat.le_refl _)
      by_cases hc : CntR p (k : Int) now en < 1 ∨ 1099511627776 < en - now
      · have C := Lib.hid (Costr_any p (k : Int) now en wr okr 0 2 (Lib.hid (by unfold CostR; rw [if_pos hc])))
        have HR := Lib.hid (rb_out HR.out hc)
        clear hc
        go_wp2_with (go_at_call 35; refine (C.out).mono ?_; rintro r1 w5 ⟨rfl, k5⟩; have HB5 := Lib.hid (hbel.out.trans (k5.mono hbel.out.size)); clear k5)
        go_roundw
        case rel => exact ⟨k + 1, z, l, by omega, by go_num, rfl, rfl, HR, HB5⟩
        case measure => simp [intOf]; omega
      · have hc1 : 1 ≤ CntR p (k : Int) now en := by omega
        have hc2 : ¬ 1099511627776 < en - now := fun h => hc (.inr h)
        obtain ⟨c, hcc⟩ : ∃ c, costN p k now en = c := ⟨_, rfl⟩
        have C := Lib.hid (Costr_any p (k : Int) now en wr okr c 0 (Lib.hid (by unfold CostR; rw [if_neg hc, Int.toNat_natCast, hcc])))
        by_cases hz : z < 0
        · have HR := Lib.hid (rb_take HR.out hc1 hc2 (.inl hz))
          rw [hcc] at HR
          clear hc hc1 hc2 hcc
          go_wp2_with (go_at_call 35; refine (C.out).mono ?_; rintro r1 w5 ⟨rfl, k5⟩; have HB5 := Lib.hid (hbel.out.trans (k5.mono hbel.out.size)); clear k5)
          go_roundw
          case rel => exact ⟨k + 1, k, c, by omega, by go_num, rfl, rfl, HR, HB5⟩
          case measure => simp [intOf]; omega
        · by_cases hl : c < l
          · have HR := Lib.hid (rb_take HR.out hc1 hc2 (.inr (by rw [hcc]; exact hl)))
            rw [hcc] at HR
            have hz : 0 ≤ z := by omega
            clear hc hc1 hc2 hcc
            go_wp2_with (go_at_call 35; refine (C.out).mono ?_; rintro r1 w5 ⟨rfl, k5⟩; have HB5 := Lib.hid (hbel.out.trans (k5.mono hbel.out.size)); clear k5)
            go_roundw
            case rel => exact ⟨k + 1, k, c, by omega, by go_num, rfl, rfl, HR, HB5⟩
            case measure => simp [intOf]; omega
          · have HR := Lib.hid (rb_stay HR.out hc1 hc2 hz (by rw [hcc]; exact hl))
            have hz : 0 ≤ z := by omega
            have hl : l ≤ c := by omega
            clear hc hc1 hc2 hcc
            go_wp2_with (go_at_call 35; refine (C.out).mono ?_; rintro r1 w5 ⟨rfl, k5⟩; have HB5 := Lib.hid (hbel.out.trans (k5.mono hbel.out.size)); clear k5)
            go_roundw
            case rel => exact ⟨k + 1, z, l, by omega, by go_num, rfl, rfl, HR, HB5⟩
            case measure => simp [intOf]; omega
    · obtain rfl : k = p.nn := by omega
      have hr := hr.out
      unfold BestR at hr
      rcases HR.out with ⟨h0, rfl⟩ | ⟨h0, h1, h2⟩
      · rw [if_pos h0] at hr
        subst hr
        clear h0
        go_wp2_with fail
        go_ret
        exact ⟨rfl, BB.out.trans (hbel.out.mono (by rw [SZ.out]; omega))⟩
      · rw [if_neg h0, ← h1, ← h2] at hr
        have fm := lst_fine (bM_mem (fun k => costN p k now en) h0)
        have hl := fm.2.2.2.2
        have may := fm.2.2.1
        have m1 := may.2.1
        have m2 := may.2.2.1
        have m3 := may.2.2.2
        have pb := rest_bd may.1
        have ib := mul_bd pb.2.1.1 pb.2.1.2 (show 0 ≤ en - now by omega) hl
        have hz : 0 ≤ z := by omega
        obtain ⟨P, hP⟩ : ∃ P, p.id * (en - now) = P := ⟨_, rfl⟩
        rw [hP] at hr ib
        clear h0 h1 h2 fm may pb HR
        by_cases hge : P ≤ l
        · rw [if_pos hge] at hr
          subst hr
          go_wp2_with fail
          go_ret
          exact ⟨rfl, BB.out.trans (hbel.out.mono (by rw [SZ.out]; omega))⟩
        · rw [if_neg hge] at hr
          subst hr
          have hge : l < P := by omega
          go_wp2_with fail
          go_ret
          exact ⟨rfl, BB.out.trans (hbel.out.mono (by rw [SZ.out]; omega))⟩
/-- none, and the naps that may be -/
def pk (L : List Nat) (i : Nat) : Int := if i = 0 then -1 else ((L.getD (i - 1) 0 : Nat) : Int)
theorem pk_get (L : List Nat) (i : Nat) (h : i < 1 + L.length) : ([.int .i64 (-1)] ++ encL L : List Value)[i]? = some (.int .i64 (pk L i)) := by
  cases i with
  | zero => rfl
  | succ i =>
    show (encL L)[i]? = _
    rw [encL_row, row_get _ _ _ (by omega)]
    rfl
def PickR (p : PowC) (now en c : Int) : Int := if c < 1 then BestR p now en else pk (nawL p now en) ((c - 1).toNat % (1 + (nawL p now en).length))
end Go.Proofs.YtlafeijkpnpdeaaGreat.NapH

/- Package slots: what is known of windows, plainly; find, window. -/
namespace Go.Proofs.YtlafeijkpnpdeaaGreat.Soa
open Go.RowKit Base Kit WideA WideB Plain Conf Conf2 PowA PowB Vfa Vfb Val Vld Vpa Vpb Vpr Vsh Short Vcf Vch Vci Vnu Vmo Vck Vrp FitA FitB FitC NapG
set_option linter.unusedVariables false
set_option linter.unusedSimpArgs false
def m0 : ModeC := ⟨0, none, 0, 0, fun _ _ => 0⟩
def isF (c : ConfC) (mode : Int) : Bool := decide ((CheckR c).1 = 0) && (decide (0 ≤ mode) && decide (mode < (c.mn : Int)))
theorem isF_iff {c : ConfC} {mode : Int} : isF c mode = true ↔ (CheckR c).1 = 0 ∧ 0 ≤ mode ∧ mode < (c.mn : Int) := by simp [isF]
theorem isF_no {c : ConfC} {mode : Int} : isF c mode = false ↔ ¬ ((CheckR c).1 = 0 ∧ 0 ≤ mode ∧ mode < (c.mn : Int)) := by rw [← Bool.not_eq_true, isF_iff]
def fm (c : ConfC) (mode : Int) : ModeC := if isF c mode = true then c.m mode.toNat else m0
def isW (c : ConfC) (mode k : Int) : Bool := isF c mode && (decide (0 ≤ k) && decide (k < ((fm c mode).wn : Int)))
def fw (c : ConfC) (mode k : Int) (j : Nat) : Int := if isW c mode k = true then (fm c mode).wf k.toNat j else 0
def capP (c : ConfC) (x0 : Int) : Int := (c.p x0.toNat).cap
def fitL (c : ConfC) (x0 x2 : Int) (k : Nat) : Bool := ft (c.w.lf k 0) c.w.sw (capP c x0) x2
def lowP (c : ConfC) (x0 x2 : Int) : Int := frI (fun k => !fitL c x0 x2 k) c.w.ln
def spareP (c : ConfC) (x0 x2 : Int) : Int := x2 - (nd (top c.w.ln c.w.lf 0) c.w.sw (capP c x0)).1
def gapP (m : ModeC) (k : Nat) : Int := (if k + 1 < m.wn then m.wf (k + 1) 1 else m.fr) - (m.wf k 1 + m.wf k 2)

theorem mode_cells {c : ConfC} {w : World} (ok : c.Ok w) (k : Nat) (hk : k < c.mn) : ∃ b off, c.ma = some ⟨b, off, none⟩ ∧ b < w.heap.size ∧ w.cell? ⟨b, off + k * 2, none⟩ = some (.int .i64 (c.m k).fr) ∧ w.cell? ⟨b, off + k * 2 + 1, none⟩ = some (.slice (c.m k).wa (c.m k).wn (c.m k).wc) := mode_at ok.modes k hk
def MV (m : ModeC) : Value := .agg #[.int .i64 m.fr, .slice m.wa m.wn m.wc]
set_option maxRecDepth 100000 in
set_option maxHeartbeats 1000000 in
theorem find_any (c : ConfC) (mode : Int) (r : Bool) (w : World) (ok : c.Ok w) (hr : Hid (isF c mode = r)) :
    Calls Tryz.prog 20 #[.agg #[.slice c.pa c.pn c.pc, .slice c.ca c.cn c.cc, .slice c.ma c.mn c.mc, .slice c.w.la c.w.ln c.w.lc, .slice c.w.na c.w.nn c.w.nc, .int .i64 c.w.sw, .int .i64 c.w.id, .int .i64 c.w.ch, .int .i64 c.w.qu, .int .i64 c.w.sl, .int .i64 c.w.pp, .slice c.da c.dn c.dc, .slice c.ua c.un c.uc], .int .i64 mode] w fun e w' => e = .returned (.tuple #[.agg #[.int .i64 (if r = true then c.m mode.toNat else m0).fr, .slice (if r = true then c.m mode.toNat else m0).wa (if r = true then c.m mode.toNat else m0).wn (if r = true then c.m mode.toNat else m0).wc], .bool r]) ∧ Below w.heap.size w w' := by
  have hn := ok.modes.out.1
  have OK := Lib.hid (fun w' (h : Below w.heap.size w w') => ok.below h (Nat.le_refl _))
  obtain ⟨⟨q0, t0⟩, g0⟩ : ∃ z, CheckR c = z := ⟨_, rfl⟩
  have CK := Lib.hid (fun w' (h : c.Ok w') => Check_any c q0 t0 w' h (Lib.hid g0))
  have ways : (q0 ≠ 0 ∧ (q0 != 0) = true ∧ r = false) ∨ (q0 = 0 ∧ mode < 0 ∧ r = false) ∨ (q0 = 0 ∧ 0 ≤ mode ∧ (c.mn : Int) ≤ mode ∧ r = false) ∨ (q0 = 0 ∧ 0 ≤ mode ∧ mode < (c.mn : Int) ∧ r = true) := by
    have hr := hr.out
    unfold isF at hr
    rw [g0] at hr
    by_cases h1 : q0 = 0
    · by_cases h2 : mode < 0
      · exact .inr (.inl ⟨h1, h2, by rw [← hr]; simp; omega⟩)
      · by_cases h3 : (c.mn : Int) ≤ mode
        · exact .inr (.inr (.inl ⟨h1, by omega, h3, by rw [← hr]; simp; omega⟩))
        · exact .inr (.inr (.inr ⟨h1, by omega, by omega, by rw [← hr]; simp [h1]; omega⟩))
    · exact .inl ⟨h1, by rw [bne_iff_ne]; exact h1, by rw [← hr]; simp [h1]⟩
  clear hr g0
  have S : Hid (Cs w ((w.alloc (.cells #[.slice c.pa c.pn c.pc, .slice c.ca c.cn c.cc, .slice c.ma c.mn c.mc, .slice c.w.la c.w.ln c.w.lc, .slice c.w.na c.w.nn c.w.nc, .int .i64 c.w.sw, .int .i64 c.w.id, .int .i64 c.w.ch, .int .i64 c.w.qu, .int .i64 c.w.sl, .int .i64 c.w.pp, .slice c.da c.dn c.dc, .slice c.ua c.un c.uc] 33)).alloc (.cells #[.int .i64 0, .slice none 0 0] 52)) w.heap.size c) := cs_alloc (cs_in w c) _
  have BM := Box.new (w.alloc (.cells #[.slice c.pa c.pn c.pc, .slice c.ca c.cn c.cc, .slice c.ma c.mn c.mc, .slice c.w.la c.w.ln c.w.lc, .slice c.w.na c.w.nn c.w.nc, .int .i64 c.w.sw, .int .i64 c.w.id, .int .i64 c.w.ch, .int .i64 c.w.qu, .int .i64 c.w.sl, .int .i64 c.w.pp, .slice c.da c.dn c.dc, .slice c.ua c.un c.uc] 33)) #[.int .i64 0, .slice none 0 0] 52
  rw [World.size_alloc] at BM
  have BM := Lib.hid BM
  have LW : Hid (w.heap.size + 1 ≠ w.heap.size) := Lib.hid (by omega)
  rcases ways with ⟨h1, h2, rfl⟩ | ⟨rfl, h2, rfl⟩ | ⟨rfl, h2, h3, rfl⟩ | ⟨rfl, h2, h3, rfl⟩
  · clear h1
    go_enter Tryz.func20, Tryz.ntmps20
    go_wp2_with fail
    generalize (w.alloc (.cells #[.slice c.pa c.pn c.pc, .slice c.ca c.cn c.cc, .slice c.ma c.mn c.mc, .slice c.w.la c.w.ln c.w.lc, .slice c.w.na c.w.nn c.w.nc, .int .i64 c.w.sw, .int .i64 c.w.id, .int .i64 c.w.ch, .int .i64 c.w.qu, .int .i64 c.w.sl, .int .i64 c.w.pp, .slice c.da c.dn c.dc, .slice c.ua c.un c.uc] 33)).alloc (.cells #[.int .i64 0, .slice none 0 0] 52) = W at *
    refine (CK.out _ (OK.out _ S.out.bel)).mono ?_
    rintro e1 w5 ⟨rfl, k5⟩
    have S := cs_next S k5
    have BM := Lib.hid (BM.out.next k5)
    clear k5
    have bc := S.out.box.cell
    have bm := BM.out.cell
    have bf := BM.out.frozen
    go_wp2_with fail
    refine bodyPost_ret (v := .tuple #[.agg #[.int .i64 0, .slice none 0 0], .bool false]) ?_ rfl ⟨rfl, ?_⟩
    · simp [results, Tryz.results20, go_sem, bm]
    · repeat (first | exact S.out.bel | refine Below.setCell ?_ (by simp) _)
  · --
    go_enter Tryz.func20, Tryz.ntmps20
    go_wp2_with fail
    generalize (w.alloc (.cells #[.slice c.pa c.pn c.pc, .slice c.ca c.cn c.cc, .slice c.ma c.mn c.mc, .slice c.w.la c.w.ln c.w.lc, .slice c.w.na c.w.nn c.w.nc, .int .i64 c.w.sw, .int .i64 c.w.id, .int .i64 c.w.ch, .int .i64 c.w.qu, .int .i64 c.w.sl, .int .i64 c.w.pp, .slice c.da c.dn c.dc, .slice c.ua c.un c.uc] 33)).alloc (.cells #[.int .i64 0, .slice none 0 0] 52) = W at *
    refine (CK.out _ (OK.out _ S.out.bel)).mono ?_
    rintro e1 w5 ⟨rfl, k5⟩
    have S := cs_next S k5
    have BM := Lib.hid (BM.out.next k5)
    clear k5
    have bc := S.out.box.cell
    have bm := BM.out.cell
    have bf := BM.out.frozen
    go_wp2_with fail
    refine bodyPost_ret (v := .tuple #[.agg #[.int .i64 0, .slice none 0 0], .bool false]) ?_ rfl ⟨rfl, ?_⟩
    · simp [results, Tryz.results20, go_sem, bm]
    · repeat (first | exact S.out.bel | refine Below.setCell ?_ (by simp) _)
  · --
    go_enter Tryz.func20, Tryz.ntmps20
    go_wp2_with fail
    generalize (w.alloc (.cells #[.slice c.pa c.pn c.pc, .slice c.ca c.cn c.cc, .slice c.ma c.mn c.mc, .slice c.w.la c.w.ln c.w.lc, .slice c.w.na c.w.nn c.w.nc, .int .i64 c.w.sw, .int .i64 c.w.id, .int .i64 c.w.ch, .int .i64 c.w.qu, .int .i64 c.w.sl, .int .i64 c.w.pp, .slice c.da c.dn c.dc, .slice c.ua c.un c.uc] 33)).alloc (.cells #[.int .i64 0, .slice none 0 0] 52) = W at *
    refine (CK.out _ (OK.out _ S.out.bel)).mono ?_
    rintro e1 w5 ⟨rfl, k5⟩
    have S := cs_next S k5
    have BM := Lib.hid (BM.out.next k5)
    clear k5
    have bc := S.out.box.cell
    have bm := BM.out.cell
    have bf := BM.out.frozen
    go_wp2_with fail
    refine bodyPost_ret (v := .tuple #[.agg #[.int .i64 0, .slice none 0 0], .bool false]) ?_ rfl ⟨rfl, ?_⟩
    · simp [results, Tryz.results20, go_sem, bm]
    · repeat (first | exact S.out.bel | refine Below.setCell ?_ (by simp) _)
  · obtain ⟨k, rfl⟩ := Int.eq_ofNat_of_zero_le h2
    have hk : k < c.mn := by omega
    obtain ⟨b, off, ea, hlt, q0, q1⟩ := mode_cells ok k hk
    replace ea := Lib.hid ea
    obtain ⟨m, hm⟩ : ∃ m, c.m k = m := ⟨_, rfl⟩
    rw [hm] at q0 q1
    rw [if_pos rfl, Int.toNat_natCast, hm]
    have HM := Lib.hid hm
    clear hm
    go_enter Tryz.func20, Tryz.ntmps20
    go_wp2_with fail
    generalize (w.alloc (.cells #[.slice c.pa c.pn c.pc, .slice c.ca c.cn c.cc, .slice c.ma c.mn c.mc, .slice c.w.la c.w.ln c.w.lc, .slice c.w.na c.w.nn c.w.nc, .int .i64 c.w.sw, .int .i64 c.w.id, .int .i64 c.w.ch, .int .i64 c.w.qu, .int .i64 c.w.sl, .int .i64 c.w.pp, .slice c.da c.dn c.dc, .slice c.ua c.un c.uc] 33)).alloc (.cells #[.int .i64 0, .slice none 0 0] 52) = W at *
    refine (CK.out _ (OK.out _ S.out.bel)).mono ?_
    rintro e1 w5 ⟨rfl, k5⟩
    have S := cs_next S k5
    have BM := Lib.hid (BM.out.next k5)
    clear k5
    have bc : ∀ i, w5.cell? ⟨w.heap.size, i, none⟩ = (#[.slice c.pa c.pn c.pc, .slice c.ca c.cn c.cc, .slice (some ⟨b, off, none⟩) c.mn c.mc, .slice c.w.la c.w.ln c.w.lc, .slice c.w.na c.w.nn c.w.nc, .int .i64 c.w.sw, .int .i64 c.w.id, .int .i64 c.w.ch, .int .i64 c.w.qu, .int .i64 c.w.sl, .int .i64 c.w.pp, .slice c.da c.dn c.dc, .slice c.ua c.un c.uc] : Array Value)[i]? := fun i => (S.out.box.cell i).trans (by rw [ea.out])
    have bm := BM.out.cell
    have bf := BM.out.frozen
    have g0 := keep S.out.bel q0 hlt
    have g1 := keep S.out.bel q1 hlt
    clear q0 q1
    go_wp2_with fail
    refine bodyPost_ret (v := .tuple #[.agg #[.int .i64 m.fr, .slice m.wa m.wn m.wc], .bool true]) ?_ rfl ⟨rfl, ?_⟩
    · simp [results, Tryz.results20, go_sem, bm]
    · repeat (first | exact S.out.bel | refine Below.setCell ?_ (by simp) _)
end Go.Proofs.YtlafeijkpnpdeaaGreat.Soa

/- Package slots: window, Lowest, spare, gap. -/
namespace Go.Proofs.YtlafeijkpnpdeaaGreat.Sob
open Go.RowKit Base Kit WideA WideB Plain Conf Conf2 PowA PowB Vfa Vfb Val Vld Vpa Vpb Vpr Vsh Short Vcf Vch Vci Vnu Vmo Vck Vrp FitA FitB FitC NapG Soa
set_option linter.unusedVariables false
set_option linter.unusedSimpArgs false
/-- a window, or none -/
def wv (c : ConfC) (mode k : Int) (r : Bool) (j : Nat) : Int := if r = true then (c.m mode.toNat).wf k.toNat j else 0
theorem isW_ways {c : ConfC} {mode k : Int} {r : Bool} (h : isW c mode k = r) : (isF c mode = false ∧ r = false) ∨ (isF c mode = true ∧ k < 0 ∧ r = false) ∨ (isF c mode = true ∧ 0 ≤ k ∧ ((c.m mode.toNat).wn : Int) ≤ k ∧ r = false) ∨ (isF c mode = true ∧ 0 ≤ k ∧ k < ((c.m mode.toNat).wn : Int) ∧ r = true) := by
  unfold isW fm at h
  cases hf : isF c mode
  · rw [hf] at h; exact .inl ⟨rfl, by rw [← h]; rfl⟩
  · rw [hf, if_pos rfl] at h
    by_cases h2 : k < 0
    · exact .inr (.inl ⟨rfl, h2, by rw [← h]; simp; omega⟩)
    · by_cases h3 : ((c.m mode.toNat).wn : Int) ≤ k
      · exact .inr (.inr (.inl ⟨rfl, by omega, h3, by rw [← h]; simp; omega⟩))
      · exact .inr (.inr (.inr ⟨rfl, by omega, by omega, by rw [← h]; simp; omega⟩))
set_option maxRecDepth 100000 in
set_option maxHeartbeats 1000000 in
theorem window_any (c : ConfC) (mode k : Int) (r : Bool) (w : World) (ok : c.Ok w) (hr : Hid (isW c mode k = r)) :
    Calls Tryz.prog 24 #[.agg #[.slice c.pa c.pn c.pc, .slice c.ca c.cn c.cc, .slice c.ma c.mn c.mc, .slice c.w.la c.w.ln c.w.lc, .slice c.w.na c.w.nn c.w.nc, .int .i64 c.w.sw, .int .i64 c.w.id, .int .i64 c.w.ch, .int .i64 c.w.qu, .int .i64 c.w.sl, .int .i64 c.w.pp, .slice c.da c.dn c.dc, .slice c.ua c.un c.uc], .int .i64 mode, .int .i64 k] w fun e w' => e = .returned (.tuple #[.agg #[.int .i64 (wv c mode k r 0), .int .i64 (wv c mode k r 1), .int .i64 (wv c mode k r 2)], .bool r]) ∧ Below w.heap.size w w' := by
  have ways := isW_ways hr.out
  clear hr
  have OK := Lib.hid (fun w' (h : Below w.heap.size w w') => ok.below h (Nat.le_refl _))
  obtain ⟨f, hf⟩ : ∃ f, isF c mode = f := ⟨_, rfl⟩
  have CK := Lib.hid (fun w' (h : c.Ok w') => find_any c mode f w' h (Lib.hid hf))
  have HF := Lib.hid hf
  rw [hf] at ways
  clear hf
  have S : Hid (Cs w ((w.alloc (.cells #[.slice c.pa c.pn c.pc, .slice c.ca c.cn c.cc, .slice c.ma c.mn c.mc, .slice c.w.la c.w.ln c.w.lc, .slice c.w.na c.w.nn c.w.nc, .int .i64 c.w.sw, .int .i64 c.w.id, .int .i64 c.w.ch, .int .i64 c.w.qu, .int .i64 c.w.sl, .int .i64 c.w.pp, .slice c.da c.dn c.dc, .slice c.ua c.un c.uc] 33)).alloc (.cells #[.int .i64 0, .int .i64 0, .int .i64 0] 54)) w.heap.size c) := cs_alloc (cs_in w c) _
  have BM := Box.new (w.alloc (.cells #[.slice c.pa c.pn c.pc, .slice c.ca c.cn c.cc, .slice c.ma c.mn c.mc, .slice c.w.la c.w.ln c.w.lc, .slice c.w.na c.w.nn c.w.nc, .int .i64 c.w.sw, .int .i64 c.w.id, .int .i64 c.w.ch, .int .i64 c.w.qu, .int .i64 c.w.sl, .int .i64 c.w.pp, .slice c.da c.dn c.dc, .slice c.ua c.un c.uc] 33)) #[.int .i64 0, .int .i64 0, .int .i64 0] 54
  rw [World.size_alloc] at BM
  have BM := Lib.hid BM
  unfold wv
  rcases ways with ⟨rfl, rfl⟩ | ⟨rfl, h2, rfl⟩ | ⟨rfl, h2, h3, rfl⟩ | ⟨rfl, h2, h3, rfl⟩
  · simp only [Bool.false_eq_true, if_false] at CK ⊢
    go_enter Tryz.func24, Tryz.ntmps24
    go_wp2_with fail
    generalize (w.alloc (.cells #[.slice c.pa c.pn c.pc, .slice c.ca c.cn c.cc, .slice c.ma c.mn c.mc, .slice c.w.la c.w.ln c.w.lc, .slice c.w.na c.w.nn c.w.nc, .int .i64 c.w.sw, .int .i64 c.w.id, .int .i64 c.w.ch, .int .i64 c.w.qu, .int .i64 c.w.sl, .int .i64 c.w.pp, .slice c.da c.dn c.dc, .slice c.ua c.un c.uc] 33)).alloc (.cells #[.int .i64 0, .int .i64 0, .int .i64 0] 54) = W at *
    refine (CK.out _ (OK.out _ S.out.bel)).mono ?_
    rintro e1 w5 ⟨rfl, k5⟩
    have S := cs_next S k5
    have BM := Lib.hid (BM.out.next k5)
    clear k5
    have S := cs_alloc S (.cells #[.int .i64 m0.fr, .slice m0.wa m0.wn m0.wc] 52)
    have BM := Lib.hid (BM.out.alloc (.cells #[.int .i64 m0.fr, .slice m0.wa m0.wn m0.wc] 52))
    have bm := BM.out.cell
    have bf := BM.out.frozen
    go_wp2_with fail
    refine bodyPost_ret (v := .tuple #[.agg #[.int .i64 0, .int .i64 0, .int .i64 0], .bool false]) ?_ rfl ⟨rfl, ?_⟩
    · simp [results, Tryz.results24, go_sem, bm]
    · repeat (first | exact S.out.bel | refine Below.setCell ?_ (by first | (simp; done) | (simp; omega)) _)
  · simp only [if_true, Bool.false_eq_true, if_false] at CK ⊢
    generalize c.m mode.toNat = m at *
    go_enter Tryz.func24, Tryz.ntmps24
    go_wp2_with fail
    generalize (w.alloc (.cells #[.slice c.pa c.pn c.pc, .slice c.ca c.cn c.cc, .slice c.ma c.mn c.mc, .slice c.w.la c.w.ln c.w.lc, .slice c.w.na c.w.nn c.w.nc, .int .i64 c.w.sw, .int .i64 c.w.id, .int .i64 c.w.ch, .int .i64 c.w.qu, .int .i64 c.w.sl, .int .i64 c.w.pp, .slice c.da c.dn c.dc, .slice c.ua c.un c.uc] 33)).alloc (.cells #[.int .i64 0, .int .i64 0, .int .i64 0] 54) = W at *
    refine (CK.out _ (OK.out _ S.out.bel)).mono ?_
    rintro e1 w5 ⟨rfl, k5⟩
    have S := cs_next S k5
    have BM := Lib.hid (BM.out.next k5)
    clear k5
    have S := cs_alloc S (.cells #[.int .i64 m.fr, .slice m.wa m.wn m.wc] 52)
    have BM := Lib.hid (BM.out.alloc (.cells #[.int .i64 m.fr, .slice m.wa m.wn m.wc] 52))
    have bm := BM.out.cell
    have bf := BM.out.frozen
    go_wp2_with fail
    refine bodyPost_ret (v := .tuple #[.agg #[.int .i64 0, .int .i64 0, .int .i64 0], .bool false]) ?_ rfl ⟨rfl, ?_⟩
    · simp [results, Tryz.results24, go_sem, bm]
    · repeat (first | exact S.out.bel | refine Below.setCell ?_ (by first | (simp; done) | (simp; omega)) _)
  · simp only [if_true, Bool.false_eq_true, if_false] at CK ⊢
    generalize c.m mode.toNat = m at *
    go_enter Tryz.func24, Tryz.ntmps24
    go_wp2_with fail
    generalize (w.alloc (.cells #[.slice c.pa c.pn c.pc, .slice c.ca c.cn c.cc, .slice c.ma c.mn c.mc, .slice c.w.la c.w.ln c.w.lc, .slice c.w.na c.w.nn c.w.nc, .int .i64 c.w.sw, .int .i64 c.w.id, .int .i64 c.w.ch, .int .i64 c.w.qu, .int .i64 c.w.sl, .int .i64 c.w.pp, .slice c.da c.dn c.dc, .slice c.ua c.un c.uc] 33)).alloc (.cells #[.int .i64 0, .int .i64 0, .int .i64 0] 54) = W at *
    refine (CK.out _ (OK.out _ S.out.bel)).mono ?_
    rintro e1 w5 ⟨rfl, k5⟩
    have S := cs_next S k5
    have BM := Lib.hid (BM.out.next k5)
    clear k5
    have S := cs_alloc S (.cells #[.int .i64 m.fr, .slice m.wa m.wn m.wc] 52)
    have BM := Lib.hid (BM.out.alloc (.cells #[.int .i64 m.fr, .slice m.wa m.wn m.wc] 52))
    have bm := BM.out.cell
    have bf := BM.out.frozen
    go_wp2_with fail
    refine bodyPost_ret (v := .tuple #[.agg #[.int .i64 0, .int .i64 0, .int .i64 0], .bool false]) ?_ rfl ⟨rfl, ?_⟩
    · simp [results, Tryz.results24, go_sem, bm]
    · repeat (first | exact S.out.bel | refine Below.setCell ?_ (by first | (simp; done) | (simp; omega)) _)
  · simp only [if_true] at CK ⊢
    have hM := (isF_iff.1 HF.out)
    have win := (ok.mode mode.toNat (by omega)).win
    generalize c.m mode.toNat = m at *
    have hwn := win.out.1
    obtain ⟨q, rfl⟩ := Int.eq_ofNat_of_zero_le h2
    have hq : q < m.wn := by omega
    obtain ⟨b, off, ea, hlt, q0, q1, q2, i0, i1, i2⟩ := rows_at3 win q hq
    simp only [Int.toNat_natCast]
    generalize m.wf q 0 = x0 at *
    generalize m.wf q 1 = x1 at *
    generalize m.wf q 2 = x2 at *
    obtain ⟨wa, hwa⟩ : ∃ x, m.wa = x := ⟨_, rfl⟩
    rw [hwa] at CK ea
    subst ea
    clear hM win hwa
    go_enter Tryz.func24, Tryz.ntmps24
    go_wp2_with fail
    generalize (w.alloc (.cells #[.slice c.pa c.pn c.pc, .slice c.ca c.cn c.cc, .slice c.ma c.mn c.mc, .slice c.w.la c.w.ln c.w.lc, .slice c.w.na c.w.nn c.w.nc, .int .i64 c.w.sw, .int .i64 c.w.id, .int .i64 c.w.ch, .int .i64 c.w.qu, .int .i64 c.w.sl, .int .i64 c.w.pp, .slice c.da c.dn c.dc, .slice c.ua c.un c.uc] 33)).alloc (.cells #[.int .i64 0, .int .i64 0, .int .i64 0] 54) = W at *
    refine (CK.out _ (OK.out _ S.out.bel)).mono ?_
    rintro e1 w5 ⟨rfl, k5⟩
    have S := cs_next S k5
    have BM := Lib.hid (BM.out.next k5)
    clear k5
    have S := cs_alloc S (.cells #[.int .i64 m.fr, .slice (some ⟨b, off, none⟩) m.wn m.wc] 52)
    have BM := Lib.hid (BM.out.alloc (.cells #[.int .i64 m.fr, .slice (some ⟨b, off, none⟩) m.wn m.wc] 52))
    have bm := BM.out.cell
    have bf := BM.out.frozen
    have g0 := keep S.out.bel q0 hlt
    have g1 := keep S.out.bel q1 hlt
    have g2 := keep S.out.bel q2 hlt
    clear q0 q1 q2
    go_wp2_with fail
    refine bodyPost_ret (v := .tuple #[.agg #[.int .i64 x0, .int .i64 x1, .int .i64 x2], .bool true]) ?_ rfl ⟨rfl, ?_⟩
    · simp [results, Tryz.results24, go_sem, bm]
    · repeat (first | exact S.out.bel | refine Below.setCell ?_ (by first | (simp; done) | (simp; omega)) _)
end Go.Proofs.YtlafeijkpnpdeaaGreat.Sob

/- Package nap: the reference's Best; Pick, and its reference. -/
import Derived.Test.YtigknchcjlieoaaNapG
import Derived.Test.YtigknchcjlieoaaBoo
namespace Go.Proofs.Ytigknchcjlieoaa.NapH
open Go.RowKit Go.Shelf Base Kit Conf PowA PowB PowC PowR WideB Alt RefA Boo LvlA LvlG LvlH LvlI LvlJ OscPlain OscZ NapA NapB NapC NapD NapE NapF NapG
set_option linter.unusedVariables false
set_option linter.unusedSimpArgs false

theorem lst_in {p : PowC} {now en : Int} {k : Nat} (h : 1 ≤ CntR p (k : Int) now en) (hl : ¬ 1099511627776 < en - now) : lst p now en (k + 1) = lst p now en k ++ [k] := by
  unfold lst; rw [if_neg hl, if_neg hl, naw_in h]
theorem lst_out {p : PowC} {now en : Int} {k : Nat} (h : CntR p (k : Int) now en < 1 ∨ 1099511627776 < en - now) : lst p now en (k + 1) = lst p now en k := by
  unfold lst
  by_cases hl : 1099511627776 < en - now
  · rw [if_pos hl, if_pos hl]
  · rw [if_neg hl, if_neg hl, naw_out (by omega)]
theorem lst_fine {p : PowC} {now en : Int} {k y : Nat} (h : y ∈ lst p now en k) : y < k ∧ y < p.nn ∧ MayN p now en ∧ 0 ≤ roomN p y now en ∧ en - now ≤ 1099511627776 := by
  unfold lst at h
  split at h
  · simp at h
  · have := naw_fine h
    exact ⟨(naw_mem h).1, this.1, this.2.1, this.2.2, by omega⟩
/-- the state of the reference's loop -/
def Rb (p : PowC) (now en : Int) (k : Nat) (z l : Int) : Prop :=
  ((lst p now en k).length = 0 ∧ z = -1) ∨ ((lst p now en k).length ≠ 0 ∧ z = (bM (fun k => costN p k now en) (lst p now en k) : Int) ∧ l = costN p (bM (fun k => costN p k now en) (lst p now en k)) now en)
theorem rb_bd {p : PowC} {now en : Int} {k : Nat} {z l : Int} (h : Rb p now en k z l) : z = -1 ∨ (0 ≤ z ∧ z < k) := by
  rcases h with ⟨-, h⟩ | ⟨h0, h1, -⟩
  · exact .inl h
  · have := (lst_fine (bM_mem (fun k => costN p k now en) h0)).1
    right; omega
theorem rb_out {p : PowC} {now en : Int} {k : Nat} {z l : Int} (h : Rb p now en k z l) (hc : CntR p (k : Int) now en < 1 ∨ 1099511627776 < en - now) : Rb p now en (k + 1) z l := by
  unfold Rb at h ⊢
  rw [lst_out hc]; exact h
theorem rb_take {p : PowC} {now en : Int} {k : Nat} {z l : Int} (h : Rb p now en k z l) (hc : 1 ≤ CntR p (k : Int) now en) (hl : ¬ 1099511627776 < en - now) (hz : z < 0 ∨ costN p k now en < l) : Rb p now en (k + 1) k (costN p k now en) := by
  have hb := rb_bd h
  unfold Rb at h ⊢
  rw [lst_in hc hl]
  right
  refine ⟨by simp, ?_⟩
  rcases h with ⟨h0, h1⟩ | ⟨h0, h1, h2⟩
  · rw [bM_one _ _ h0]; exact ⟨rfl, rfl⟩
  · have e : bM (fun k => costN p k now en) (lst p now en k ++ [k]) = k := by
      rw [bM_snoc _ _ h0, if_pos (by show costN p k now en < costN p _ now en; omega)]
    rw [e]; exact ⟨rfl, rfl⟩
theorem rb_stay {p : PowC} {now en : Int} {k : Nat} {z l : Int} (h : Rb p now en k z l) (hc : 1 ≤ CntR p (k : Int) now en) (hl : ¬ 1099511627776 < en - now) (hz : ¬ z < 0) (hz2 : ¬ costN p k now en < l) : Rb p now en (k + 1) z l := by
  unfold Rb at h ⊢
  rw [lst_in hc hl]
  right
  refine ⟨by simp, ?_⟩
  rcases h with ⟨h0, h1⟩ | ⟨h0, h1, h2⟩
  · omega
  · have e : bM (fun k => costN p k now en) (lst p now en k ++ [k]) = bM (fun k => costN p k now en) (lst p now en k) := by
      rw [bM_snoc _ _ h0, if_neg (by show ¬ costN p k now en < costN p _ now en; omega)]
    rw [e]; exact ⟨h1, h2⟩
set_option maxRecDepth 100000 in
set_option maxHeartbeats 4000000 in
theorem Bestr_any (p : PowC) (now en : Int) (w : World) (ok : p.Ok w) (h100 : p.nn ≤ 100) (r : Int) (hr : Hid (BestR p now en = r)) :
    Calls Try.prog 29 #[.agg #[.slice p.la p.ln p.lc, .slice p.na p.nn p.nc, .int .i64 p.sw, .int .i64 p.id, .int .i64 p.ch, .int .i64 p.qu, .int .i64 p.sl, .int .i64 p.pp], .int .i64 now, .int .i64 en] w fun e w' => e = .returned (.int .i64 r) ∧ Below w.heap.size w w' := by
  have hm := ok.nap.out.1
  have b1 := Box.new w #[.slice p.la p.ln p.lc, .slice p.na p.nn p.nc, .int .i64 p.sw, .int .i64 p.id, .int .i64 p.ch, .int .i64 p.qu, .int .i64 p.sl, .int .i64 p.pp] 25
  have bb := (Below.refl w.heap.size w).alloc (Nat.le_refl _) (.cells #[.slice p.la p.ln p.lc, .slice p.na p.nn p.nc, .int .i64 p.sw, .int .i64 p.id, .int .i64 p.ch, .int .i64 p.qu, .int .i64 p.sl, .int .i64 p.pp] 25)
  have sz : (w.alloc (.cells #[.slice p.la p.ln p.lc, .slice p.na p.nn p.nc, .int .i64 p.sw, .int .i64 p.id, .int .i64 p.ch, .int .i64 p.qu, .int .i64 p.sl, .int .i64 p.pp] 25)).heap.size = w.heap.size + 1 := by simp
  go_enter Try.func29, Try.ntmps29
  go_wp2_with fail
  generalize w.alloc (.cells #[.slice p.la p.ln p.lc, .slice p.na p.nn p.nc, .int .i64 p.sw, .int .i64 p.id, .int .i64 p.ch, .int .i64 p.qu, .int .i64 p.sl, .int .i64 p.pp] 25) = W at b1 bb sz ⊢
  have B1 := Lib.hid b1
  have BB := Lib.hid bb
  have SZ := Lib.hid sz
  clear b1 bb sz
  go_loopw [7, 8, 9] (fun b l i wr => ∃ (k : Nat) (z l' : Int), k ≤ p.nn ∧ i = .int .i64 k ∧ b = .int .i64 z ∧ l = .int .i64 l' ∧ Hid (Rb p now en k z l') ∧ Hid (Below W.heap.size W wr)) (fun _ _ i _ => p.nn - (intOf i).toNat)
  case atStart => exact ⟨0, -1, 0, Nat.zero_le _, rfl, rfl, rfl, Lib.hid (.inl ⟨by unfold lst; split <;> rfl, rfl⟩), Lib.hid (Below.refl _ _)⟩
  case round =>
    obtain ⟨k, z, l, hk, rfl, rfl, rfl, HR, hbel⟩ := hrel
    have x1 : ∀ i, wr.cell? ⟨w.heap.size, i, none⟩ = (#[.slice p.la p.ln p.lc, .slice p.na p.nn p.nc, .int .i64 p.sw, .int .i64 p.id, .int .i64 p.ch, .int .i64 p.qu, .int .i64 p.sl, .int .i64 p.pp] : Array Value)[i]? := fun i => (hbel.out.cell (p := ⟨w.heap.size, i, none⟩) B1.out.lt).trans (B1.out.cell i)
    have hzb := rb_bd HR.out
    by_cases hlt : k < p.nn
    · have okr := ok.below (BB.out.trans (hbel.out.mono (by rw [SZ.out]; omega))) (Nat.le_refl _)
      by_cases hc : CntR p (k : Int) now en < 1 ∨ 1099511627776 < en - now
      · have C := Lib.hid (Costr_any p (k : Int) now en wr okr 0 2 (Lib.hid (by unfold CostR; rw [if_pos hc])))
        have HR := Lib.hid (rb_out HR.out hc)
        clear hc
        go_wp2_with (go_at_call 33; refine (C.out).mono ?_; rintro r1 w5 ⟨rfl, k5⟩; have HB5 := Lib.hid (hbel.out.trans (k5.mono hbel.out.size)); clear k5)
        go_roundw
        case rel => exact ⟨k + 1, z, l, by omega, by go_num, rfl, rfl, HR, HB5⟩
        case measure => simp [intOf]; omega
      · have hc1 : 1 ≤ CntR p (k : Int) now en := by omega
        have hc2 : ¬ 1099511627776 < en - now := fun h => hc (.inr h)
        obtain ⟨c, hcc⟩ : ∃ c, costN p k now en = c := ⟨_, rfl⟩
        have C := Lib.hid (Costr_any p (k : Int) now en wr okr c 0 (Lib.hid (by unfold CostR; rw [if_neg hc, Int.toNat_natCast, hcc])))
        by_cases hz : z < 0
        · have HR := Lib.hid (rb_take HR.out hc1 hc2 (.inl hz))
          rw [hcc] at HR
          clear hc hc1 hc2 hcc
          go_wp2_with (go_at_call 33; refine (C.out).mono ?_; rintro r1 w5 ⟨rfl, k5⟩; have HB5 := Lib.hid (hbel.out.trans (k5.mono hbel.out.size)); clear k5)
          go_roundw
          case rel => exact ⟨k + 1, k, c, by omega, by go_num, rfl, rfl, HR, HB5⟩
          case measure => simp [intOf]; omega
        · by_cases hl : c < l
          · have HR := Lib.hid (rb_take HR.out hc1 hc2 (.inr (by rw [hcc]; exact hl)))
            rw [hcc] at HR
            have hz : 0 ≤ z := by omega
            clear hc hc1 hc2 hcc
            go_wp2_with (go_at_call 33; refine (C.out).mono ?_; rintro r1 w5 ⟨rfl, k5⟩; have HB5 := Lib.hid (hbel.out.trans (k5.mono hbel.out.size)); clear k5)
            go_roundw
            case rel => exact ⟨k + 1, k, c, by omega, by go_num, rfl, rfl, HR, HB5⟩
            case measure => simp [intOf]; omega
          · have HR := Lib.hid (rb_stay HR.out hc1 hc2 hz (by rw [hcc]; exact hl))
            have hz : 0 ≤ z := by omega
            have hl : l ≤ c := by omega
            clear hc hc1 hc2 hcc
            go_wp2_with (go_at_call 33; refine (C.out).mono ?_; rintro r1 w5 ⟨rfl, k5⟩; have HB5 := Lib.hid (hbel.out.trans (k5.mono hbel.out.size)); clear k5)
            go_roundw
            case rel => exact ⟨k + 1, z, l, by omega, by go_num, rfl, rfl, HR, HB5⟩
            case measure => simp [intOf]; omega
    · obtain rfl : k = p.nn := by omega
      have hr := hr.out
      unfold BestR at hr
      rcases HR.out with ⟨h0, rfl⟩ | ⟨h0, h1, h2⟩
      · rw [if_pos h0] at hr
        subst hr
        clear h0
        go_wp2_with fail
        go_ret
        exact ⟨rfl, BB.out.trans (hbel.out.mono (by rw [SZ.out]; omega))⟩
      · rw [if_neg h0, ← h1, ← h2] at hr
        have fm := lst_fine (bM_mem (fun k => costN p k now en) h0)
        have hl := fm.2.2.2.2
        have may := fm.2.2.1
        have m1 := may.2.1
        have m2 := may.2.2.1
        have m3 := may.2.2.2
        have pb := rest_bd may.1
        have ib := mul_bd pb.2.1.1 pb.2.1.2 (show 0 ≤ en - now by omega) hl
        have hz : 0 ≤ z := by omega
        obtain ⟨P, hP⟩ : ∃ P, p.id * (en - now) = P := ⟨_, rfl⟩
        rw [hP] at hr ib
        clear h0 h1 h2 fm may pb HR
        by_cases hge : P ≤ l
        · rw [if_pos hge] at hr
          subst hr
          go_wp2_with fail
          go_ret
          exact ⟨rfl, BB.out.trans (hbel.out.mono (by rw [SZ.out]; omega))⟩
        · rw [if_neg hge] at hr
          subst hr
          have hge : l < P := by omega
          go_wp2_with fail
          go_ret
          exact ⟨rfl, BB.out.trans (hbel.out.mono (by rw [SZ.out]; omega))⟩
/-- none, and the naps that may be -/
def pk (L : List Nat) (i : Nat) : Int := if i = 0 then -1 else ((L.getD (i - 1) 0 : Nat) : Int)
theorem pk_get (L : List Nat) (i : Nat) (h : i < 1 + L.length) : ([.int .i64 (-1)] ++ encL L : List Value)[i]? = some (.int .i64 (pk L i)) := by
  cases i with
  | zero => rfl
  | succ i =>
    show (encL L)[i]? = _
    rw [encL_row, row_get _ _ _ (by omega)]
    rfl
def PickR (p : PowC) (now en c : Int) : Int := if c < 1 then BestR p now en else pk (nawL p now en) ((c - 1).toNat % (1 + (nawL p now en).length))
set_option maxRecDepth 100000 in
theorem one_any (q : Int) (m g n cap : Nat) (z : Int) (w : World) (hq : q = (m : Int)) (h1 : I64 q) (hg : w.cell? ⟨g, m % n, none⟩ = some (.int .i64 z)) (h0 : 0 < n) (hn : n ≤ 1000) :
    Calls Try.prog 50 #[.int .i64 q, .slice (some ⟨g, 0, none⟩) n cap] w fun e w' => e = .returned (.int .i64 z) ∧ w = w' := by
  subst hq
  obtain ⟨h1, h2⟩ := h1
  have hw2 : Int.tmod (m : Int) (n : Int) = ((m % n : Nat) : Int) := by rw [Int.tmod_eq_emod_of_nonneg (by omega)]; rfl
  have hlt : m % n < n := Nat.mod_lt _ (by omega)
  have hn0 : ¬ n = 0 := by omega
  have hn2 : ((n : Int) == 0) = false := by simpa using hn0
  generalize m % n = t at *
  go_enter Try.func50, Try.ntmps50
  go_wp2_with fail
  go_ret
  exact ⟨rfl, rfl⟩
set_option maxRecDepth 100000 in
set_option maxHeartbeats 4000000 in
theorem Pick_any (p : PowC) (now en c : Int) (hc : I64 c) (w : World) (ok : p.Ok w) (h100 : p.nn ≤ 100) (r : Int) (hr : Hid (PickR p now en c = r)) :
    Calls Try.prog 30 #[.agg #[.slice p.la p.ln p.lc, .slice p.na p.nn p.nc, .int .i64 p.sw, .int .i64 p.id, .int .i64 p.ch, .int .i64 p.qu, .int .i64 p.sl, .int .i64 p.pp], .int .i64 now, .int .i64 en, .int .i64 c] w fun e w' => e = .returned (.int .i64 r) ∧ Below w.heap.size w w' := by
  have hr := hr.out
  unfold PickR at hr
  have S := pst_in w p
  have bc := S.out.box.cell
  obtain ⟨hc0, hc2⟩ := hc
  by_cases hc1 : c < 1
  · rw [if_pos hc1] at hr
    have B := Lib.hid (fun w1 (h : Below w.heap.size w w1) => Best_any p now en w1 (ok.below h (Nat.le_refl _)) h100 r (Lib.hid hr))
    clear hr
    go_enter Try.func30, Try.ntmps30
    go_wp2_with fail
    refine (B.out _ S.out.bel).mono ?_
    rintro e1 w5 ⟨rfl, k5⟩
    have S := pst_next S k5
    clear k5 bc
    go_wp2_with fail
    go_ret
    exact ⟨rfl, S.out.bel⟩
  · rw [if_neg hc1] at hr
    have hc1 : 1 ≤ c := by omega
    have A := Lib.hid (fun w1 (h : Below w.heap.size w w1) => Allowed_any p now en w1 (ok.below h (Nat.le_refl _)) h100 _ (Lib.hid rfl))
    have ln := nawL_len p now en
    generalize nawL p now en = L at hr A ln
    have HR := Lib.hid hr
    clear hr
    go_enter Try.func30, Try.ntmps30
    go_wp2_with fail
    have O1 : Hid (((w.alloc (.cells #[.slice p.la p.ln p.lc, .slice p.na p.nn p.nc, .int .i64 p.sw, .int .i64 p.id, .int .i64 p.ch, .int .i64 p.qu, .int .i64 p.sl, .int .i64 p.pp] 25)).alloc (.cells #[.int .i64 (-1)] 3)).ownsRow (w.heap.size + 1) 3 1 (.slice (some ⟨w.heap.size + 1, 0, none⟩) 1 1) 1 [.int .i64 (-1)]) := by
      have b2 := Box.new (w.alloc (.cells #[.slice p.la p.ln p.lc, .slice p.na p.nn p.nc, .int .i64 p.sw, .int .i64 p.id, .int .i64 p.ch, .int .i64 p.qu, .int .i64 p.sl, .int .i64 p.pp] 25)) #[.int .i64 (-1)] 3
      rw [World.size_alloc] at b2
      exact Lib.hid ⟨rfl, .inr ⟨_, 1, _, rfl, Nat.le_refl _, b2, Nat.le_refl _, by unfold maxLen; omega, rfl, rfl⟩⟩
    have S := pst_next S ((Below.refl _ _).alloc (Nat.le_refl _) (.cells #[.int .i64 (-1)] 3))
    generalize hW : (w.alloc (.cells #[.slice p.la p.ln p.lc, .slice p.na p.nn p.nc, .int .i64 p.sw, .int .i64 p.id, .int .i64 p.ch, .int .i64 p.qu, .int .i64 p.sl, .int .i64 p.pp] 25)).alloc (.cells #[.int .i64 (-1)] 3) = W at S O1 ⊢
    clear hW bc
    refine (A.out _ S.out.bel).mono ?_
    rintro e1 w5 ⟨v, rfl, hown, k5⟩
    have S := pst_next S k5
    have O1 := Lib.hid (ownsRow_keep O1.out k5)
    have O2 := Lib.hid hown
    have lw := S.out.bel.size
    have lw2 : w.heap.size + 1 ≤ w5.heap.size := S.out.box.lt
    clear k5 hown
    go_wp2_with (at_builtin; go_loud (refine append_own _ rfl _ _ 32 3 (.int .i64 0) 8 infoInt rfl Try.underlying32 rfl (w.heap.size + 1) (.slice (some ⟨w.heap.size + 1, 0, none⟩) 1 1) 1 [.int .i64 (-1)] rfl (by exact O1.out) _ v L.length (encL L) rfl (by exact O2.out) (by simp [encL]) (by simp [encL, Value.oneCell']) (by omega) (by omega) (by exact lw2) ?_))
    intro v' w6 own6 g6 _
    have HB6 : Hid (Below w.heap.size w w6) := Lib.hid (fromGrown S.out.bel g6 lw (Nat.le_succ _))
    obtain ⟨g, cap, rfl, lg0, lg⟩ := ownsRow_open own6 (by omega)
    obtain ⟨m, hm⟩ := Int.eq_ofNat_of_zero_le (show 0 ≤ c - 1 by omega)
    have hlt : m % (1 + L.length) < 1 + L.length := Nat.mod_lt _ (by omega)
    have hgc : w6.cell? ⟨g, m % (1 + L.length), none⟩ = some (.int .i64 r) := by
      have := own6.cells (g := g) rfl _ _ (pk_get L _ hlt)
      rw [Open.add_none, Nat.zero_add] at this
      rw [this, ← HR.out, hm, Int.toNat_natCast]
    have D := Lib.hid (one_any (c - 1) m g (1 + L.length) cap r w6 hm ⟨by omega, by omega⟩ hgc (by omega) (by omega))
    clear hm hgc hlt own6 g6
    go_wp2_with fail
    refine (D.out).mono ?_
    rintro e1 w7 ⟨rfl, rfl⟩
    go_wp2_with fail
    go_ret
    exact ⟨rfl, HB6.out⟩
set_option maxRecDepth 100000 in
set_option maxHeartbeats 4000000 in
theorem Pickr_any (p : PowC) (now en c : Int) (hc : I64 c) (w : World) (ok : p.Ok w) (h100 : p.nn ≤ 100) (r : Int) (hr : Hid (PickR p now en c = r)) :
    Calls Try.prog 31 #[.agg #[.slice p.la p.ln p.lc, .slice p.na p.nn p.nc, .int .i64 p.sw, .int .i64 p.id, .int .i64 p.ch, .int .i64 p.qu, .int .i64 p.sl, .int .i64 p.pp], .int .i64 now, .int .i64 en, .int .i64 c] w fun e w' => e = .returned (.int .i64 r) ∧ Below w.heap.size w w' := by
  have hr := hr.out
  unfold PickR at hr
  have S := pst_in w p
  have bc := S.out.box.cell
  obtain ⟨hc0, hc2⟩ := hc
  by_cases hc1 : c < 1
  · rw [if_pos hc1] at hr
    have B := Lib.hid (fun w1 (h : Below w.heap.size w w1) => Bestr_any p now en w1 (ok.below h (Nat.le_refl _)) h100 r (Lib.hid hr))
    clear hr
    go_enter Try.func31, Try.ntmps31
    go_wp2_with fail
    refine (B.out _ S.out.bel).mono ?_
    rintro e1 w5 ⟨rfl, k5⟩
    have S := pst_next S k5
    clear k5 bc
    go_wp2_with fail
    go_ret
    exact ⟨rfl, S.out.bel⟩
  · rw [if_neg hc1] at hr
    have hc1 : 1 ≤ c := by omega
    have A := Lib.hid (fun w1 (h : Below w.heap.size w w1) => Allowedr_any p now en w1 (ok.below h (Nat.le_refl _)) h100 _ (Lib.hid rfl))
    have ln := nawL_len p now en
    generalize nawL p now en = L at hr A ln
    obtain ⟨m, rfl⟩ : ∃ m : Nat, c = (m : Int) + 1 := ⟨(c - 1).toNat, by omega⟩
    rw [Int.add_sub_cancel, Int.toNat_natCast] at hr
    go_enter Try.func31, Try.ntmps31
    go_wp2_with fail
    refine (A.out _ S.out.bel).mono ?_
    rintro e1 w5 ⟨v, rfl, hown, k5⟩
    have S := pst_next S k5
    clear k5 bc
    have hlt : m % (1 + L.length) < 1 + L.length := Nat.mod_lt _ (by omega)
    have hw1 : IntKind.i64.wrap (m : Int) = (m : Int) := IntWalk.i64_in _ (by omega)
    have hw2 : Int.tmod (m : Int) ((L.length : Int) + 1) = ((m % (1 + L.length) : Nat) : Int) := by
      rw [Int.tmod_eq_emod_of_nonneg (by omega), show (L.length : Int) + 1 = ((1 + L.length : Nat) : Int) by omega]; rfl
    have hw3 : ((L.length : Int) + 1 == 0) = false := by rw [beq_eq_false_iff_ne]; omega
    generalize m % (1 + L.length) = t at hr hlt hw2
    by_cases ht : t = 0
    · subst ht
      obtain ⟨a, cp, rfl⟩ := own_zero hown
      rw [show pk L 0 = -1 from rfl] at hr
      subst hr
      go_wp2_with fail
      go_ret
      exact ⟨rfl, S.out.bel⟩
    · obtain ⟨y, rfl⟩ : ∃ y, t = y + 1 := ⟨t - 1, by omega⟩
      obtain ⟨g, cap, rfl, lg0, lg⟩ := ownsRow_open hown (by omega)
      have hgc : w5.cell? ⟨g, y, none⟩ = some (.int .i64 r) := by
        have hown' := hown
        rw [encL_row] at hown'
        have := hown'.cells (g := g) rfl y _ (row_get _ _ y (by omega))
        rw [Open.add_none, Nat.zero_add] at this
        rw [this, ← hr]; rfl
      clear hown hr ht
      rw [show ((y + 1 : Nat) : Int) = (y : Int) + 1 from by omega] at hw2
      have hy1 : ((y : Int) + 1 == 0) = false := by rw [beq_eq_false_iff_ne]; omega
      have hlt : y < L.length := by omega
      go_wp2_with fail
      go_ret
      exact ⟨rfl, S.out.bel⟩
end Go.Proofs.Ytigknchcjlieoaa.NapH

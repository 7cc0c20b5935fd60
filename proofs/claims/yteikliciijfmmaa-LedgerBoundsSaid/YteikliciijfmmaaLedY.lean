/- The law LedgerBounds. -/
import Derived.Test.YteikliciijfmmaaLedX
import Derived.Test.YteikliciijfmmaaFitN
namespace Go.Proofs.Yteikliciijfmmaa.LedY
open Go.RowKit Base Kit WideA WideB Plain FitA FitB FitC Conf Conf2 Alt RefA LedA LedB LedC LedD Short FitR LedN LedE LedR LedS LedT LedW LedX
set_option linter.unusedVariables false
set_option linter.unusedSimpArgs false

/-- what cycles cost, where any cost something at all -/
theorem cst_form {W : PowC} {q : Int} (hq : 0 ≤ q) (h : (cst W q).2 = 0) : ∃ k f : Int, 0 ≤ k ∧ 1 ≤ f ∧ ∀ c, 0 ≤ c → cst W c = if (c * k + (f - 1)) / f ≤ 9223372036854775807 then ((c * k + (f - 1)) / f, 0) else (0, 6) := by
  unfold cst at h
  have hb : ¬ (q < 0 ∨ top W.ln W.lf 0 < 1 ∨ top W.ln W.lf 1 < 0) := fun e => by unfold cs at h; rw [if_pos e] at h; simp at h
  have hm : ¬ (md 1000 (top W.ln W.lf 1) 1 false).2 ≠ 0 := fun e => by unfold cs at h; rw [if_neg hb, if_pos e] at h; exact e h
  have k0 := (md_bd 1000 (top W.ln W.lf 1) 1 false (fun _ _ _ => trivial)).1
  refine ⟨(md 1000 (top W.ln W.lf 1) 1 false).1, top W.ln W.lf 0, k0, by omega, fun c hc => ?_⟩
  unfold cst cs
  rw [if_neg (by omega), if_neg hm]
  generalize (md 1000 (top W.ln W.lf 1) 1 false).1 = k at *
  unfold md
  rw [if_neg (by omega)]
  rfl
def mx (B : Int) : Int := if 0 < B then B else 0
theorem ceil_add (a b f : Int) (hf : 1 ≤ f) : (a + b + (f - 1)) / f ≤ (a + (f - 1)) / f + (b + (f - 1)) / f := by
  rw [FitN.ceil_le _ _ _ hf, Int.add_mul]
  have h1 := (FitN.ceil_le a f _ hf).1 (Int.le_refl _)
  have h2 := (FitN.ceil_le b f _ hf).1 (Int.le_refl _)
  omega
theorem ceil_mono (a b f : Int) (hf : 1 ≤ f) (h : a ≤ b) : (a + (f - 1)) / f ≤ (b + (f - 1)) / f := Int.ediv_le_ediv (by omega) (by omega)
theorem step {W : PowC} {q one B want cy n : Int} (hq : 1 ≤ q) (h1 : cst W q = (one, 0)) (h0 : 0 ≤ cy) (he : (cst W cy).2 = 0) (inv : (cst W cy).1 ≤ mx B + one)
    (hn : n = if B ≤ (cst W cy).1 ∨ want < 1 then 0 else if want < q then want else q) (h2 : (cst W (cy + n)).2 = 0) : (cst W (cy + n)).1 ≤ mx B + one := by
  obtain ⟨k, f, hk, hf, hc⟩ := cst_form (by omega) (show (cst W q).2 = 0 by rw [h1])
  by_cases hb : B ≤ (cst W cy).1 ∨ want < 1
  · rw [if_pos hb] at hn
    subst hn
    rw [Int.add_zero]; exact inv
  · rw [if_neg hb] at hn
    have hn1 : 1 ≤ n ∧ n ≤ q := by split at hn <;> omega
    rw [hc q (by omega)] at h1
    rw [hc cy h0] at he hb
    rw [hc (cy + n) (by omega)] at h2 ⊢
    have e1 : (q * k + (f - 1)) / f ≤ 9223372036854775807 := by
      refine Classical.byContradiction fun e => ?_
      rw [if_neg e] at h1; simp at h1
    have e2 : (cy * k + (f - 1)) / f ≤ 9223372036854775807 := by
      refine Classical.byContradiction fun e => ?_
      rw [if_neg e] at he; simp at he
    have e3 : ((cy + n) * k + (f - 1)) / f ≤ 9223372036854775807 := by
      refine Classical.byContradiction fun e => ?_
      rw [if_neg e] at h2; simp at h2
    rw [if_pos e1] at h1
    rw [if_pos e2] at hb
    rw [if_pos e3]
    simp only [Prod.mk.injEq, and_true] at h1
    have a1 := ceil_add (cy * k) (n * k) f hf
    rw [← Int.add_mul] at a1
    have a2 := ceil_mono (n * k) (q * k) f hf (Int.mul_le_mul_of_nonneg_right hn1.2 hk)
    simp only at hb ⊢
    unfold mx
    split <;> omega

/-- what stays -/
structure Bs (w0 w : World) (c : ConfC) (l : Nat) (v : Value) (a : Nat → Nat) (cy : Nat → Int) : Prop where
  ls : Hid (Ls w0 w c.w (qm c) (fun i => (c.p i).bud) c.pn l v a cy)
  box : Box w w0.heap.size #[.slice c.pa c.pn c.pc, .slice c.ca c.cn c.cc, .slice c.ma c.mn c.mc, .slice c.w.la c.w.ln c.w.lc, .slice c.w.na c.w.nn c.w.nc, .int .i64 c.w.sw, .int .i64 c.w.id, .int .i64 c.w.ch, .int .i64 c.w.qu, .int .i64 c.w.sl, .int .i64 c.w.pp, .slice c.da c.dn c.dc, .slice c.ua c.un c.uc] 45
theorem bs_next {w0 w w1 : World} {c : ConfC} {l : Nat} {v : Value} {a : Nat → Nat} {cy : Nat → Int} (h : Hid (Bs w0 w c l v a cy)) (k : Below w.heap.size w w1) : Hid (Bs w0 w1 c l v a cy) := Lib.hid ⟨ls_next h.out.ls k, h.out.box.next k⟩
theorem bs_spend {w0 w : World} {c : ConfC} {l : Nat} {v : Value} {a : Nat → Nat} {cy : Nat → Int} (h : Hid (Bs w0 w c l v a cy)) (p x : Int) (hx : I64 x) (y : Int) (cy' : Nat → Int) (hr : Hid (spendP c.w c.pn cy p x = (y, cy'))) :
    Calls Try.prog 30 #[.pointer (some ⟨l, 0, none⟩), .int .i64 p, .int .i64 x] w fun e w' => e = .returned (.int .i64 y) ∧ Hid (Bs w0 w' c l v a cy') :=
  (ls_spend h.out.ls p x hx y cy' hr).mono fun e w' ⟨h1, h2, h3⟩ => ⟨h1, Lib.hid ⟨h2, box_alt h.out.box h3 (fun e => by obtain ⟨i, hi, e⟩ := e; exact box_ne h.out.box (h.out.ls.out.lm.out.acc i hi) (by decide) e)⟩⟩
def Inv (c : ConfC) (one : Int) (cy : Nat → Int) : Prop := (cst c.w (cy 0)).2 = 0 ∧ (cst c.w (cy 0)).1 ≤ mx (c.p 0).bud + one
/-- a piece, and what comes of it -/
theorem round_plain {c : ConfC} {q one want : Int} {cy : Nat → Int} (hpn : 1 ≤ c.pn) (hq : qm c = q) (h1 : cst c.w q = (one, 0)) (h0 : 0 ≤ cy 0) (hi : Inv c one cy) :
    ∃ n y cy', pieceP c.w (qm c) (fun i => (c.p i).bud) c.pn cy 0 want = n ∧ 0 ≤ n ∧ n ≤ q ∧ (n ≤ want ∨ n = 0) ∧ spendP c.w c.pn cy 0 n = (y, cy') ∧ ((y = 0 ∧ Inv c one cy') ∨ y = 6) := by
  have q1 : 1 ≤ q := by rw [← hq]; unfold qm; split <;> omega
  have hin : (0 : Int) ≤ 0 ∧ (0 : Int) < (c.pn : Int) := ⟨by omega, by omega⟩
  have e : pieceP c.w (qm c) (fun i => (c.p i).bud) c.pn cy 0 want = if (c.p 0).bud ≤ (cst c.w (cy 0)).1 ∨ want < 1 then 0 else if want < q then want else q := by
    unfold pieceP outP
    rw [if_pos hin, hq]
    simp
  obtain ⟨n, hn⟩ : ∃ n, pieceP c.w (qm c) (fun i => (c.p i).bud) c.pn cy 0 want = n := ⟨_, rfl⟩
  rw [hn] at e
  have hb : 0 ≤ n ∧ n ≤ q ∧ (n ≤ want ∨ n = 0) := by
    rw [e]; split
    · omega
    · split <;> omega
  have e3 : spendP c.w c.pn cy 0 n = if 1099511627776 - cy 0 < n ∨ (cst c.w (cy 0 + n)).2 ≠ 0 then (6, cy) else (0, upd cy 0 (cy 0 + n)) := by
    unfold spendP
    rw [if_neg (by omega), Int.toNat_zero]
  by_cases h2 : 1099511627776 - cy 0 < n ∨ (cst c.w (cy 0 + n)).2 ≠ 0
  · rw [if_pos h2] at e3
    exact ⟨n, _, _, hn, hb.1, hb.2.1, hb.2.2, e3, .inr rfl⟩
  · rw [if_neg h2] at e3
    refine ⟨n, _, _, hn, hb.1, hb.2.1, hb.2.2, e3, .inl ⟨rfl, ?_, ?_⟩⟩
    · show (cst c.w (upd cy 0 (cy 0 + n) 0)).2 = 0
      unfold upd; rw [if_pos rfl]; omega
    · show (cst c.w (upd cy 0 (cy 0 + n) 0)).1 ≤ _
      unfold upd; rw [if_pos rfl]
      exact step q1 h1 h0 hi.1 hi.2 e (by omega)
theorem inv_start {c : ConfC} {q one : Int} (hq : 1 ≤ q) (h1 : cst c.w q = (one, 0)) : Inv c one (fun _ => 0) := by
  obtain ⟨k, f, hk, hf, hc⟩ := cst_form (by omega) (show (cst c.w q).2 = 0 by rw [h1])
  have z : cst c.w 0 = (0, 0) := by
    rw [hc 0 (by omega), Int.zero_mul]
    have : (0 + (f - 1)) / f = 0 := Int.ediv_eq_zero_of_lt (by omega) (by omega)
    rw [this]; simp
  have o : 0 ≤ one := by
    have := (cst_bd c.w q).1
    rw [h1] at this; exact this
  refine ⟨by rw [z], ?_⟩
  rw [z]
  unfold mx; simp only; split <;> omega
set_option maxRecDepth 100000 in
set_option maxHeartbeats 8000000 in
theorem bounds_law (c : ConfC) (aa : Option Addr) (an ac : Nat) (f : Nat → Int) (w : World) (ok : c.Ok w) (h : Hid (Open.RowsIn w aa an 1 (fun i _ => f i))) :
    Calls Try.prog 6 #[.agg #[.slice c.pa c.pn c.pc, .slice c.ca c.cn c.cc, .slice c.ma c.mn c.mc, .slice c.w.la c.w.ln c.w.lc, .slice c.w.na c.w.nn c.w.nc, .int .i64 c.w.sw, .int .i64 c.w.id, .int .i64 c.w.ch, .int .i64 c.w.qu, .int .i64 c.w.sl, .int .i64 c.w.pp, .slice c.da c.dn c.dc, .slice c.ua c.un c.uc], .slice aa an ac] w fun e w' => e = .returned (.bool true) ∧ Below w.heap.size w w' := by
  have S := cst_in w c
  have OK := Lib.hid ok
  clear ok
  go_enter Try.func6, Try.ntmps6
  go_wp2_with fail
  generalize w.alloc (.cells #[.slice c.pa c.pn c.pc, .slice c.ca c.cn c.cc, .slice c.ma c.mn c.mc, .slice c.w.la c.w.ln c.w.lc, .slice c.w.na c.w.nn c.w.nc, .int .i64 c.w.sw, .int .i64 c.w.id, .int .i64 c.w.ch, .int .i64 c.w.qu, .int .i64 c.w.sl, .int .i64 c.w.pp, .slice c.da c.dn c.dc, .slice c.ua c.un c.uc] 45) = w1 at S ⊢
  refine (short_any c w1 (ok_in S OK.out)).mono ?_
  rintro e1 w2 ⟨b, hb, rfl, hb2⟩
  have S := cst_next S hb2
  clear hb2
  cases b
  · go_wp2_with fail
    refine (LedW.works_any _).mono ?_
    rintro e1 w3 ⟨rfl, hb3⟩
    go_wp2_with fail
    go_ret
    exact ⟨rfl, below_next S.out.bel hb3⟩
  have hs : Sh c := by simpa using hb
  have hn : c.pn ≤ 100 := hs.1.1
  have HS := Lib.hid hs
  clear hb hs
  go_wp2_with fail
  refine (LedW.works_any _).mono ?_
  rintro e1 w3 ⟨rfl, hb3⟩
  have S := cst_next S hb3
  clear hb3
  have bc := S.out.box.cell
  by_cases hp0 : c.pn = 0
  · have hpz : ((c.pn : Int) == 0) = true := by simpa using hp0
    clear hp0
    go_wp2_with fail
    refine (LedW.works_any _).mono ?_
    rintro e1 w3 ⟨rfl, hb3⟩
    go_wp2_with fail
    go_ret
    exact ⟨rfl, below_next S.out.bel hb3⟩
  have hpz : ((c.pn : Int) == 0) = false := by simpa using hp0
  have hp1 : 1 ≤ c.pn := by omega
  have hp2 : (0 : Int) < (c.pn : Int) := by omega
  have hp3 : 0 < c.pn := by omega
  clear hp0
  obtain ⟨one, ho⟩ : ∃ x, (cst c.w (qm c)).1 = x := ⟨_, rfl⟩
  obtain ⟨er, he⟩ : ∃ x, (cst c.w (qm c)).2 = x := ⟨_, rfl⟩
  have HC : Hid (cst c.w (qm c) = (one, er)) := Lib.hid (Prod.ext ho he)
  have o0 := cst_bd c.w (qm c)
  rw [ho] at o0
  obtain ⟨o0, o1, -, -⟩ := o0
  have iq : I64 c.w.qu := OK.out.pow.qu
  obtain ⟨iq0, iq1⟩ := iq
  clear ho he
  by_cases hq : c.w.qu < 1
  · have hqm : qm c = 1 := by unfold qm; rw [if_neg (by omega)]
    rw [hqm] at HC
    have HQ := Lib.hid hqm
    clear hqm
    have C1 := Lib.hid (fun w h => costr_any c.w.la c.w.ln c.w.lc c.w.lf (.slice c.w.na c.w.nn c.w.nc) c.w.sw (.int .i64 c.w.id) (.int .i64 c.w.ch) (.int .i64 c.w.qu) (.int .i64 c.w.sl) (.int .i64 c.w.pp) 1 one er w h ⟨by omega, by omega⟩ HC)
    go_wp2_with fail
    refine (C1.out _ (Lib.hid (rows_below OK.out.pow.lev.out S.out.bel (Nat.le_refl _)))).mono ?_
    rintro e1 w4 ⟨rfl, hb4⟩
    have S := cst_next S hb4
    clear hb4 bc C1
    by_cases hez : er = 0
    · subst hez
      have bc := S.out.box.cell
      go_wp2_with fail
      refine (newL_any w _ c (Lib.hid S.out.bel) OK HS).mono ?_
      rintro e1 w5 ⟨l, v, a, rfl, LL, hb5⟩
      have H := Lib.hid (show Bs w w5 c l v a _ from ⟨LL, S.out.box.next hb5⟩)
      have HI := Lib.hid (inv_start (c := c) (by omega) HC.out)
      clear LL hb5 S bc
      go_wp2_with fail
      go_loopw [9] (fun i wr => ∃ (k : Nat) (cy : Nat → Int), k ≤ an ∧ k ≤ 60 ∧ i = .int .i64 k ∧ Hid (Inv c one cy) ∧ Hid (Bs w wr c l v a cy)) (fun i _ => 60 - (intOf i).toNat)
      case atStart => exact ⟨0, _, by omega, by omega, rfl, HI, H⟩
      case round =>
        clear HI H
        obtain ⟨k, cy, hk, hk6, rfl, HI, H⟩ := hrel
        by_cases hlt : k < an ∧ k < 60
        · obtain ⟨hlt, h6⟩ := hlt
          obtain ⟨b, off, rfl, hbl, c0, i0⟩ := rows_at1 h k hlt
          have c0' := Lib.hid (fun w1 (hb : Below w.heap.size w w1) => keep hb c0 hbl)
          have c0 := c0'.out _ H.out.ls.out.bel
          obtain ⟨want, hwt⟩ : ∃ x, f k = x := ⟨_, rfl⟩
          rw [hwt] at c0 c0' i0
          clear hwt
          obtain ⟨n, y, cy', e1, n0, n1, n2, e2, hy⟩ := round_plain (want := want) hp1 HQ.out HC.out (H.out.ls.out.cyb 0 (by omega)).1 HI.out
          have E1 := Lib.hid e1; have E2 := Lib.hid e2
          have i1 : want ≤ 9223372036854775807 := i0.2
          clear e1 e2
          go_wp2_with fail
          refine (ls_piece H.out.ls 0 want i0 n E1).mono ?_
          rintro e1 w6 ⟨rfl, hb6⟩
          have H := bs_next H hb6
          have c0 := c0'.out _ H.out.ls.out.bel
          clear hb6
          have q1 : decide (n < 0) = false := by simp; omega
          have q2 : decide (1 < n) = false := by simp; omega
          by_cases hw : want < n
          · obtain rfl : n = 0 := by omega
            clear n2
            go_wp2_with fail
            refine (bs_spend H 0 _ ⟨by omega, by omega⟩ y cy' E2).mono ?_
            rintro e1 w7 ⟨rfl, H⟩
            clear c0
            rcases hy with ⟨rfl, hI⟩ | rfl
            · have HI := Lib.hid hI
              clear hI
              obtain ⟨pb, po, ep, lp, bu, bi⟩ := (show ∃ pb po, c.pa = some ⟨pb, po, none⟩ ∧ pb < w.heap.size ∧ w7.cell? ⟨pb, po + 0 * 11 + 8, none⟩ = some (.int .i64 (c.p 0).bud) ∧ I64 (c.p 0).bud by
                obtain ⟨pb, po, ep, lp, hpc⟩ := part_at OK.out.parts 0 (by omega)
                obtain ⟨p0, p1, p2, p3, p4, p5, p6, p7, p8, p9, p10⟩ := pc_next (show PC w pb (po + 0 * 11) (c.p 0) from hpc) H.out.ls.out.bel lp
                exact ⟨pb, po, ep, lp, p8, (OK.out.part 0 (by omega)).bud⟩)
              rw [show po + 0 * 11 + 8 = po + 8 by omega] at bu
              obtain ⟨B, hB⟩ : ∃ x, (c.p 0).bud = x := ⟨_, rfl⟩
              obtain ⟨u, hu⟩ : ∃ x, (cst c.w (cy' 0)).1 = x := ⟨_, rfl⟩
              have hI2 := HI.out.2
              rw [hu, hB] at hI2
              rw [hB] at bu bi
              have HU : Hid (usedP c.w c.pn cy' 0 = u) := Lib.hid (by unfold usedP; rw [if_pos ⟨by omega, by omega⟩]; exact hu)
              have u0 : 0 ≤ u := by have := (cst_bd c.w (cy' 0)).1; omega
              obtain ⟨bi0, bi1⟩ := bi
              clear hB hu
              have bc : ∀ i, w7.cell? ⟨w.heap.size, i, none⟩ = (#[.slice (some ⟨pb, po, none⟩) c.pn c.pc, .slice c.ca c.cn c.cc, .slice c.ma c.mn c.mc, .slice c.w.la c.w.ln c.w.lc, .slice c.w.na c.w.nn c.w.nc, .int .i64 c.w.sw, .int .i64 c.w.id, .int .i64 c.w.ch, .int .i64 c.w.qu, .int .i64 c.w.sl, .int .i64 c.w.pp, .slice c.da c.dn c.dc, .slice c.ua c.un c.uc] : Array Value)[i]? := by have bc := H.out.box.cell; rw [ep] at bc; exact bc
              clear ep
              by_cases g1 : B < 2305843009213693952
              · by_cases g2 : one < 2305843009213693952
                · have bd : ∀ i, w7.drew.cell? ⟨w.heap.size, i, none⟩ = (#[.slice (some ⟨pb, po, none⟩) c.pn c.pc, .slice c.ca c.cn c.cc, .slice c.ma c.mn c.mc, .slice c.w.la c.w.ln c.w.lc, .slice c.w.na c.w.nn c.w.nc, .int .i64 c.w.sw, .int .i64 c.w.id, .int .i64 c.w.ch, .int .i64 c.w.qu, .int .i64 c.w.sl, .int .i64 c.w.pp, .slice c.da c.dn c.dc, .slice c.ua c.un c.uc] : Array Value)[i]? := bc
                  have bu2 : w7.drew.cell? ⟨pb, po + 8, none⟩ = some (.int .i64 B) := bu
                  have HD := bs_next H ((Below.refl _ _).drew)
                  have KL := Lib.hid HD.out.box.lt
                  have CU := Lib.hid (ls_used HD.out.ls 0 u HU)
                  unfold mx at hI2
                  by_cases g3 : 0 < B
                  · rw [if_pos g3] at hI2
                    have hw1 : IntKind.i64.wrap (B + one) = B + one := IntWalk.i64_in _ (by omega)
                    have hw2 : decide (B + one < u) = false := by simpa using hI2
                    have W1 := Lib.hid hw1
                    clear hw1
                    go_wp2_with fail
                    have hw1 := W1.out
                    go_region_held3 (fun w' => (∀ i, w'.cell? ⟨w.heap.size, i, none⟩ = (#[.slice (some ⟨pb, po, none⟩) c.pn c.pc, .slice c.ca c.cn c.cc, .slice c.ma c.mn c.mc, .slice c.w.la c.w.ln c.w.lc, .slice c.w.na c.w.nn c.w.nc, .int .i64 c.w.sw, .int .i64 c.w.id, .int .i64 c.w.ch, .int .i64 c.w.qu, .int .i64 c.w.sl, .int .i64 c.w.pp, .slice c.da c.dn c.dc, .slice c.ua c.un c.uc] : Array Value)[i]?) ∧ w'.cell? ⟨pb, po + 8, none⟩ = some (.int .i64 B))
                      (first
                        | exact ⟨bd, bu2⟩
                        | exact r5)
                      (first
                        | (go_at_call 31; refine CU.out.mono ?_; rintro e1 w8 ⟨rfl, k8⟩; have r5 := And.intro (keepc k8 KL.out bd) (keep' k8 bu2); have H8 := bs_next HD k8; clear k8))
                    all_goals
                      clear bd bu2 r5 bc bu hw1
                      go_wp2_with fail
                      go_roundw
                      case rel => exact ⟨k + 1, cy', by omega, by omega, by go_num, HI, H8⟩
                      case measure => simp [intOf]; omega
                  · rw [if_neg g3] at hI2
                    have g6 : (if 0 < B then B else 0) = 0 := if_neg g3
                    have g3 : B ≤ 0 := by omega
                    have hw1 : IntKind.i64.wrap (0 + one) = one := by rw [Int.zero_add]; exact IntWalk.i64_in _ (by omega)
                    have hw3 : IntKind.i64.wrap one = one := IntWalk.i64_in _ (by omega)
                    have hw2 : decide (one < u) = false := by simp; omega
                    have W1 := Lib.hid hw1
                    have W3 := Lib.hid hw3
                    clear hw1 hw3
                    go_wp2_with fail
                    have hw1 := W1.out
                    have hw3 := W3.out
                    go_region_held3 (fun w' => (∀ i, w'.cell? ⟨w.heap.size, i, none⟩ = (#[.slice (some ⟨pb, po, none⟩) c.pn c.pc, .slice c.ca c.cn c.cc, .slice c.ma c.mn c.mc, .slice c.w.la c.w.ln c.w.lc, .slice c.w.na c.w.nn c.w.nc, .int .i64 c.w.sw, .int .i64 c.w.id, .int .i64 c.w.ch, .int .i64 c.w.qu, .int .i64 c.w.sl, .int .i64 c.w.pp, .slice c.da c.dn c.dc, .slice c.ua c.un c.uc] : Array Value)[i]?) ∧ w'.cell? ⟨pb, po + 8, none⟩ = some (.int .i64 B))
                      (first
                        | exact ⟨bd, bu2⟩
                        | exact r5)
                      (first
                        | (go_at_call 31; refine CU.out.mono ?_; rintro e1 w8 ⟨rfl, k8⟩; have r5 := And.intro (keepc k8 KL.out bd) (keep' k8 bu2); have H8 := bs_next HD k8; clear k8))
                    all_goals
                      clear bd bu2 r5 bc bu hw1
                      go_wp2_with fail
                      go_roundw
                      case rel => exact ⟨k + 1, cy', by omega, by omega, by go_num, HI, H8⟩
                      case measure => simp [intOf]; omega
                · have g4 : decide (one < 2305843009213693952) = false := by simpa using g2
                  go_wp2_with fail
                  go_quiet (fail)
                  have H := bs_next H (show Below w7.heap.size w7 (w7.drewN nq) from ⟨rfl, rfl, rfl, Nat.le_refl _, fun _ _ => rfl⟩)
                  clear bc bu g4
                  go_wp2_with fail
                  go_roundw
                  case rel => exact ⟨k + 1, cy', by omega, by omega, by go_num, HI, H⟩
                  case measure => simp [intOf]; omega
              · have g4 : decide (B < 2305843009213693952) = false := by simpa using g1
                go_wp2_with fail
                go_quiet (fail)
                have H := bs_next H (show Below w7.heap.size w7 (w7.drewN nq) from ⟨rfl, rfl, rfl, Nat.le_refl _, fun _ _ => rfl⟩)
                clear bc bu g4
                go_wp2_with fail
                go_roundw
                case rel => exact ⟨k + 1, cy', by omega, by omega, by go_num, HI, H⟩
                case measure => simp [intOf]; omega
            · go_wp2_with fail
              refine (LedW.works_any _).mono ?_
              rintro e1 w3 ⟨rfl, hb3⟩
              go_wp2_with fail
              go_ret
              exact ⟨rfl, below_next H.out.ls.out.bel hb3⟩
          · have hw : n ≤ want := by omega
            clear n2
            go_wp2_with fail
            refine (bs_spend H 0 _ ⟨by omega, by omega⟩ y cy' E2).mono ?_
            rintro e1 w7 ⟨rfl, H⟩
            clear c0
            rcases hy with ⟨rfl, hI⟩ | rfl
            · have HI := Lib.hid hI
              clear hI
              obtain ⟨pb, po, ep, lp, bu, bi⟩ := (show ∃ pb po, c.pa = some ⟨pb, po, none⟩ ∧ pb < w.heap.size ∧ w7.cell? ⟨pb, po + 0 * 11 + 8, none⟩ = some (.int .i64 (c.p 0).bud) ∧ I64 (c.p 0).bud by
                obtain ⟨pb, po, ep, lp, hpc⟩ := part_at OK.out.parts 0 (by omega)
                obtain ⟨p0, p1, p2, p3, p4, p5, p6, p7, p8, p9, p10⟩ := pc_next (show PC w pb (po + 0 * 11) (c.p 0) from hpc) H.out.ls.out.bel lp
                exact ⟨pb, po, ep, lp, p8, (OK.out.part 0 (by omega)).bud⟩)
              rw [show po + 0 * 11 + 8 = po + 8 by omega] at bu
              obtain ⟨B, hB⟩ : ∃ x, (c.p 0).bud = x := ⟨_, rfl⟩
              obtain ⟨u, hu⟩ : ∃ x, (cst c.w (cy' 0)).1 = x := ⟨_, rfl⟩
              have hI2 := HI.out.2
              rw [hu, hB] at hI2
              rw [hB] at bu bi
              have HU : Hid (usedP c.w c.pn cy' 0 = u) := Lib.hid (by unfold usedP; rw [if_pos ⟨by omega, by omega⟩]; exact hu)
              have u0 : 0 ≤ u := by have := (cst_bd c.w (cy' 0)).1; omega
              obtain ⟨bi0, bi1⟩ := bi
              clear hB hu
              have bc : ∀ i, w7.cell? ⟨w.heap.size, i, none⟩ = (#[.slice (some ⟨pb, po, none⟩) c.pn c.pc, .slice c.ca c.cn c.cc, .slice c.ma c.mn c.mc, .slice c.w.la c.w.ln c.w.lc, .slice c.w.na c.w.nn c.w.nc, .int .i64 c.w.sw, .int .i64 c.w.id, .int .i64 c.w.ch, .int .i64 c.w.qu, .int .i64 c.w.sl, .int .i64 c.w.pp, .slice c.da c.dn c.dc, .slice c.ua c.un c.uc] : Array Value)[i]? := by have bc := H.out.box.cell; rw [ep] at bc; exact bc
              clear ep
              by_cases g1 : B < 2305843009213693952
              · by_cases g2 : one < 2305843009213693952
                · have bd : ∀ i, w7.drew.cell? ⟨w.heap.size, i, none⟩ = (#[.slice (some ⟨pb, po, none⟩) c.pn c.pc, .slice c.ca c.cn c.cc, .slice c.ma c.mn c.mc, .slice c.w.la c.w.ln c.w.lc, .slice c.w.na c.w.nn c.w.nc, .int .i64 c.w.sw, .int .i64 c.w.id, .int .i64 c.w.ch, .int .i64 c.w.qu, .int .i64 c.w.sl, .int .i64 c.w.pp, .slice c.da c.dn c.dc, .slice c.ua c.un c.uc] : Array Value)[i]? := bc
                  have bu2 : w7.drew.cell? ⟨pb, po + 8, none⟩ = some (.int .i64 B) := bu
                  have HD := bs_next H ((Below.refl _ _).drew)
                  have KL := Lib.hid HD.out.box.lt
                  have CU := Lib.hid (ls_used HD.out.ls 0 u HU)
                  unfold mx at hI2
                  by_cases g3 : 0 < B
                  · rw [if_pos g3] at hI2
                    have hw1 : IntKind.i64.wrap (B + one) = B + one := IntWalk.i64_in _ (by omega)
                    have hw2 : decide (B + one < u) = false := by simpa using hI2
                    have W1 := Lib.hid hw1
                    clear hw1
                    go_wp2_with fail
                    have hw1 := W1.out
                    go_region_held3 (fun w' => (∀ i, w'.cell? ⟨w.heap.size, i, none⟩ = (#[.slice (some ⟨pb, po, none⟩) c.pn c.pc, .slice c.ca c.cn c.cc, .slice c.ma c.mn c.mc, .slice c.w.la c.w.ln c.w.lc, .slice c.w.na c.w.nn c.w.nc, .int .i64 c.w.sw, .int .i64 c.w.id, .int .i64 c.w.ch, .int .i64 c.w.qu, .int .i64 c.w.sl, .int .i64 c.w.pp, .slice c.da c.dn c.dc, .slice c.ua c.un c.uc] : Array Value)[i]?) ∧ w'.cell? ⟨pb, po + 8, none⟩ = some (.int .i64 B))
                      (first
                        | exact ⟨bd, bu2⟩
                        | exact r5)
                      (first
                        | (go_at_call 31; refine CU.out.mono ?_; rintro e1 w8 ⟨rfl, k8⟩; have r5 := And.intro (keepc k8 KL.out bd) (keep' k8 bu2); have H8 := bs_next HD k8; clear k8))
                    all_goals
                      clear bd bu2 r5 bc bu hw1
                      go_wp2_with fail
                      go_roundw
                      case rel => exact ⟨k + 1, cy', by omega, by omega, by go_num, HI, H8⟩
                      case measure => simp [intOf]; omega
                  · rw [if_neg g3] at hI2
                    have g6 : (if 0 < B then B else 0) = 0 := if_neg g3
                    have g3 : B ≤ 0 := by omega
                    have hw1 : IntKind.i64.wrap (0 + one) = one := by rw [Int.zero_add]; exact IntWalk.i64_in _ (by omega)
                    have hw3 : IntKind.i64.wrap one = one := IntWalk.i64_in _ (by omega)
                    have hw2 : decide (one < u) = false := by simp; omega
                    have W1 := Lib.hid hw1
                    have W3 := Lib.hid hw3
                    clear hw1 hw3
                    go_wp2_with fail
                    have hw1 := W1.out
                    have hw3 := W3.out
                    go_region_held3 (fun w' => (∀ i, w'.cell? ⟨w.heap.size, i, none⟩ = (#[.slice (some ⟨pb, po, none⟩) c.pn c.pc, .slice c.ca c.cn c.cc, .slice c.ma c.mn c.mc, .slice c.w.la c.w.ln c.w.lc, .slice c.w.na c.w.nn c.w.nc, .int .i64 c.w.sw, .int .i64 c.w.id, .int .i64 c.w.ch, .int .i64 c.w.qu, .int .i64 c.w.sl, .int .i64 c.w.pp, .slice c.da c.dn c.dc, .slice c.ua c.un c.uc] : Array Value)[i]?) ∧ w'.cell? ⟨pb, po + 8, none⟩ = some (.int .i64 B))
                      (first
                        | exact ⟨bd, bu2⟩
                        | exact r5)
                      (first
                        | (go_at_call 31; refine CU.out.mono ?_; rintro e1 w8 ⟨rfl, k8⟩; have r5 := And.intro (keepc k8 KL.out bd) (keep' k8 bu2); have H8 := bs_next HD k8; clear k8))
                    all_goals
                      clear bd bu2 r5 bc bu hw1
                      go_wp2_with fail
                      go_roundw
                      case rel => exact ⟨k + 1, cy', by omega, by omega, by go_num, HI, H8⟩
                      case measure => simp [intOf]; omega
                · have g4 : decide (one < 2305843009213693952) = false := by simpa using g2
                  go_wp2_with fail
                  go_quiet (fail)
                  have H := bs_next H (show Below w7.heap.size w7 (w7.drewN nq) from ⟨rfl, rfl, rfl, Nat.le_refl _, fun _ _ => rfl⟩)
                  clear bc bu g4
                  go_wp2_with fail
                  go_roundw
                  case rel => exact ⟨k + 1, cy', by omega, by omega, by go_num, HI, H⟩
                  case measure => simp [intOf]; omega
              · have g4 : decide (B < 2305843009213693952) = false := by simpa using g1
                go_wp2_with fail
                go_quiet (fail)
                have H := bs_next H (show Below w7.heap.size w7 (w7.drewN nq) from ⟨rfl, rfl, rfl, Nat.le_refl _, fun _ _ => rfl⟩)
                clear bc bu g4
                go_wp2_with fail
                go_roundw
                case rel => exact ⟨k + 1, cy', by omega, by omega, by go_num, HI, H⟩
                case measure => simp [intOf]; omega
            · go_wp2_with fail
              refine (LedW.works_any _).mono ?_
              rintro e1 w3 ⟨rfl, hb3⟩
              go_wp2_with fail
              go_ret
              exact ⟨rfl, below_next H.out.ls.out.bel hb3⟩
        · have ways : (k < an ∧ k = 60) ∨ k = an := by omega
          clear hlt
          rcases ways with ⟨hlt, rfl⟩ | rfl
          all_goals
            go_wp2_with fail
            refine (LedW.works_any _).mono ?_
            rintro e1 w3 ⟨rfl, hb3⟩
            go_wp2_with fail
            go_ret
            exact ⟨rfl, below_next H.out.ls.out.bel hb3⟩
    · have hez' : (er != 0) = true := by simpa using hez
      clear hez
      go_wp2_with fail
      refine (LedW.works_any _).mono ?_
      rintro e1 w3 ⟨rfl, hb3⟩
      go_wp2_with fail
      go_ret
      exact ⟨rfl, below_next S.out.bel hb3⟩
  · have hqm : qm c = c.w.qu := by unfold qm; split <;> omega
    have hq : 1 ≤ c.w.qu := by omega
    rw [hqm] at HC
    have HQ := Lib.hid hqm
    clear hqm
    have C1 := Lib.hid (fun w h => costr_any c.w.la c.w.ln c.w.lc c.w.lf (.slice c.w.na c.w.nn c.w.nc) c.w.sw (.int .i64 c.w.id) (.int .i64 c.w.ch) (.int .i64 c.w.qu) (.int .i64 c.w.sl) (.int .i64 c.w.pp) c.w.qu one er w h ⟨by omega, by omega⟩ HC)
    go_wp2_with fail
    refine (C1.out _ (Lib.hid (rows_below OK.out.pow.lev.out S.out.bel (Nat.le_refl _)))).mono ?_
    rintro e1 w4 ⟨rfl, hb4⟩
    have S := cst_next S hb4
    clear hb4 bc C1
    by_cases hez : er = 0
    · subst hez
      have bc := S.out.box.cell
      go_wp2_with fail
      refine (newL_any w _ c (Lib.hid S.out.bel) OK HS).mono ?_
      rintro e1 w5 ⟨l, v, a, rfl, LL, hb5⟩
      have H := Lib.hid (show Bs w w5 c l v a _ from ⟨LL, S.out.box.next hb5⟩)
      have HI := Lib.hid (inv_start (c := c) (by omega) HC.out)
      clear LL hb5 S bc
      go_wp2_with fail
      go_loopw [9] (fun i wr => ∃ (k : Nat) (cy : Nat → Int), k ≤ an ∧ k ≤ 60 ∧ i = .int .i64 k ∧ Hid (Inv c one cy) ∧ Hid (Bs w wr c l v a cy)) (fun i _ => 60 - (intOf i).toNat)
      case atStart => exact ⟨0, _, by omega, by omega, rfl, HI, H⟩
      case round =>
        clear HI H
        obtain ⟨k, cy, hk, hk6, rfl, HI, H⟩ := hrel
        by_cases hlt : k < an ∧ k < 60
        · obtain ⟨hlt, h6⟩ := hlt
          obtain ⟨b, off, rfl, hbl, c0, i0⟩ := rows_at1 h k hlt
          have c0' := Lib.hid (fun w1 (hb : Below w.heap.size w w1) => keep hb c0 hbl)
          have c0 := c0'.out _ H.out.ls.out.bel
          obtain ⟨want, hwt⟩ : ∃ x, f k = x := ⟨_, rfl⟩
          rw [hwt] at c0 c0' i0
          clear hwt
          obtain ⟨n, y, cy', e1, n0, n1, n2, e2, hy⟩ := round_plain (want := want) hp1 HQ.out HC.out (H.out.ls.out.cyb 0 (by omega)).1 HI.out
          have E1 := Lib.hid e1; have E2 := Lib.hid e2
          have i1 : want ≤ 9223372036854775807 := i0.2
          clear e1 e2
          go_wp2_with fail
          refine (ls_piece H.out.ls 0 want i0 n E1).mono ?_
          rintro e1 w6 ⟨rfl, hb6⟩
          have H := bs_next H hb6
          have c0 := c0'.out _ H.out.ls.out.bel
          clear hb6
          have q1 : decide (n < 0) = false := by simp; omega
          have q2 : decide (c.w.qu < n) = false := by simp; omega
          by_cases hw : want < n
          · obtain rfl : n = 0 := by omega
            clear n2
            go_wp2_with fail
            refine (bs_spend H 0 _ ⟨by omega, by omega⟩ y cy' E2).mono ?_
            rintro e1 w7 ⟨rfl, H⟩
            clear c0
            rcases hy with ⟨rfl, hI⟩ | rfl
            · have HI := Lib.hid hI
              clear hI
              obtain ⟨pb, po, ep, lp, bu, bi⟩ := (show ∃ pb po, c.pa = some ⟨pb, po, none⟩ ∧ pb < w.heap.size ∧ w7.cell? ⟨pb, po + 0 * 11 + 8, none⟩ = some (.int .i64 (c.p 0).bud) ∧ I64 (c.p 0).bud by
                obtain ⟨pb, po, ep, lp, hpc⟩ := part_at OK.out.parts 0 (by omega)
                obtain ⟨p0, p1, p2, p3, p4, p5, p6, p7, p8, p9, p10⟩ := pc_next (show PC w pb (po + 0 * 11) (c.p 0) from hpc) H.out.ls.out.bel lp
                exact ⟨pb, po, ep, lp, p8, (OK.out.part 0 (by omega)).bud⟩)
              rw [show po + 0 * 11 + 8 = po + 8 by omega] at bu
              obtain ⟨B, hB⟩ : ∃ x, (c.p 0).bud = x := ⟨_, rfl⟩
              obtain ⟨u, hu⟩ : ∃ x, (cst c.w (cy' 0)).1 = x := ⟨_, rfl⟩
              have hI2 := HI.out.2
              rw [hu, hB] at hI2
              rw [hB] at bu bi
              have HU : Hid (usedP c.w c.pn cy' 0 = u) := Lib.hid (by unfold usedP; rw [if_pos ⟨by omega, by omega⟩]; exact hu)
              have u0 : 0 ≤ u := by have := (cst_bd c.w (cy' 0)).1; omega
              obtain ⟨bi0, bi1⟩ := bi
              clear hB hu
              have bc : ∀ i, w7.cell? ⟨w.heap.size, i, none⟩ = (#[.slice (some ⟨pb, po, none⟩) c.pn c.pc, .slice c.ca c.cn c.cc, .slice c.ma c.mn c.mc, .slice c.w.la c.w.ln c.w.lc, .slice c.w.na c.w.nn c.w.nc, .int .i64 c.w.sw, .int .i64 c.w.id, .int .i64 c.w.ch, .int .i64 c.w.qu, .int .i64 c.w.sl, .int .i64 c.w.pp, .slice c.da c.dn c.dc, .slice c.ua c.un c.uc] : Array Value)[i]? := by have bc := H.out.box.cell; rw [ep] at bc; exact bc
              clear ep
              by_cases g1 : B < 2305843009213693952
              · by_cases g2 : one < 2305843009213693952
                · have bd : ∀ i, w7.drew.cell? ⟨w.heap.size, i, none⟩ = (#[.slice (some ⟨pb, po, none⟩) c.pn c.pc, .slice c.ca c.cn c.cc, .slice c.ma c.mn c.mc, .slice c.w.la c.w.ln c.w.lc, .slice c.w.na c.w.nn c.w.nc, .int .i64 c.w.sw, .int .i64 c.w.id, .int .i64 c.w.ch, .int .i64 c.w.qu, .int .i64 c.w.sl, .int .i64 c.w.pp, .slice c.da c.dn c.dc, .slice c.ua c.un c.uc] : Array Value)[i]? := bc
                  have bu2 : w7.drew.cell? ⟨pb, po + 8, none⟩ = some (.int .i64 B) := bu
                  have HD := bs_next H ((Below.refl _ _).drew)
                  have KL := Lib.hid HD.out.box.lt
                  have CU := Lib.hid (ls_used HD.out.ls 0 u HU)
                  unfold mx at hI2
                  by_cases g3 : 0 < B
                  · rw [if_pos g3] at hI2
                    have hw1 : IntKind.i64.wrap (B + one) = B + one := IntWalk.i64_in _ (by omega)
                    have hw2 : decide (B + one < u) = false := by simpa using hI2
                    have W1 := Lib.hid hw1
                    clear hw1
                    go_wp2_with fail
                    have hw1 := W1.out
                    go_region_held3 (fun w' => (∀ i, w'.cell? ⟨w.heap.size, i, none⟩ = (#[.slice (some ⟨pb, po, none⟩) c.pn c.pc, .slice c.ca c.cn c.cc, .slice c.ma c.mn c.mc, .slice c.w.la c.w.ln c.w.lc, .slice c.w.na c.w.nn c.w.nc, .int .i64 c.w.sw, .int .i64 c.w.id, .int .i64 c.w.ch, .int .i64 c.w.qu, .int .i64 c.w.sl, .int .i64 c.w.pp, .slice c.da c.dn c.dc, .slice c.ua c.un c.uc] : Array Value)[i]?) ∧ w'.cell? ⟨pb, po + 8, none⟩ = some (.int .i64 B))
                      (first
                        | exact ⟨bd, bu2⟩
                        | exact r5)
                      (first
                        | (go_at_call 31; refine CU.out.mono ?_; rintro e1 w8 ⟨rfl, k8⟩; have r5 := And.intro (keepc k8 KL.out bd) (keep' k8 bu2); have H8 := bs_next HD k8; clear k8))
                    all_goals
                      clear bd bu2 r5 bc bu hw1
                      go_wp2_with fail
                      go_roundw
                      case rel => exact ⟨k + 1, cy', by omega, by omega, by go_num, HI, H8⟩
                      case measure => simp [intOf]; omega
                  · rw [if_neg g3] at hI2
                    have g6 : (if 0 < B then B else 0) = 0 := if_neg g3
                    have g3 : B ≤ 0 := by omega
                    have hw1 : IntKind.i64.wrap (0 + one) = one := by rw [Int.zero_add]; exact IntWalk.i64_in _ (by omega)
                    have hw3 : IntKind.i64.wrap one = one := IntWalk.i64_in _ (by omega)
                    have hw2 : decide (one < u) = false := by simp; omega
                    have W1 := Lib.hid hw1
                    have W3 := Lib.hid hw3
                    clear hw1 hw3
                    go_wp2_with fail
                    have hw1 := W1.out
                    have hw3 := W3.out
                    go_region_held3 (fun w' => (∀ i, w'.cell? ⟨w.heap.size, i, none⟩ = (#[.slice (some ⟨pb, po, none⟩) c.pn c.pc, .slice c.ca c.cn c.cc, .slice c.ma c.mn c.mc, .slice c.w.la c.w.ln c.w.lc, .slice c.w.na c.w.nn c.w.nc, .int .i64 c.w.sw, .int .i64 c.w.id, .int .i64 c.w.ch, .int .i64 c.w.qu, .int .i64 c.w.sl, .int .i64 c.w.pp, .slice c.da c.dn c.dc, .slice c.ua c.un c.uc] : Array Value)[i]?) ∧ w'.cell? ⟨pb, po + 8, none⟩ = some (.int .i64 B))
                      (first
                        | exact ⟨bd, bu2⟩
                        | exact r5)
                      (first
                        | (go_at_call 31; refine CU.out.mono ?_; rintro e1 w8 ⟨rfl, k8⟩; have r5 := And.intro (keepc k8 KL.out bd) (keep' k8 bu2); have H8 := bs_next HD k8; clear k8))
                    all_goals
                      clear bd bu2 r5 bc bu hw1
                      go_wp2_with fail
                      go_roundw
                      case rel => exact ⟨k + 1, cy', by omega, by omega, by go_num, HI, H8⟩
                      case measure => simp [intOf]; omega
                · have g4 : decide (one < 2305843009213693952) = false := by simpa using g2
                  go_wp2_with fail
                  go_quiet (fail)
                  have H := bs_next H (show Below w7.heap.size w7 (w7.drewN nq) from ⟨rfl, rfl, rfl, Nat.le_refl _, fun _ _ => rfl⟩)
                  clear bc bu g4
                  go_wp2_with fail
                  go_roundw
                  case rel => exact ⟨k + 1, cy', by omega, by omega, by go_num, HI, H⟩
                  case measure => simp [intOf]; omega
              · have g4 : decide (B < 2305843009213693952) = false := by simpa using g1
                go_wp2_with fail
                go_quiet (fail)
                have H := bs_next H (show Below w7.heap.size w7 (w7.drewN nq) from ⟨rfl, rfl, rfl, Nat.le_refl _, fun _ _ => rfl⟩)
                clear bc bu g4
                go_wp2_with fail
                go_roundw
                case rel => exact ⟨k + 1, cy', by omega, by omega, by go_num, HI, H⟩
                case measure => simp [intOf]; omega
            · go_wp2_with fail
              refine (LedW.works_any _).mono ?_
              rintro e1 w3 ⟨rfl, hb3⟩
              go_wp2_with fail
              go_ret
              exact ⟨rfl, below_next H.out.ls.out.bel hb3⟩
          · have hw : n ≤ want := by omega
            clear n2
            go_wp2_with fail
            refine (bs_spend H 0 _ ⟨by omega, by omega⟩ y cy' E2).mono ?_
            rintro e1 w7 ⟨rfl, H⟩
            clear c0
            rcases hy with ⟨rfl, hI⟩ | rfl
            · have HI := Lib.hid hI
              clear hI
              obtain ⟨pb, po, ep, lp, bu, bi⟩ := (show ∃ pb po, c.pa = some ⟨pb, po, none⟩ ∧ pb < w.heap.size ∧ w7.cell? ⟨pb, po + 0 * 11 + 8, none⟩ = some (.int .i64 (c.p 0).bud) ∧ I64 (c.p 0).bud by
                obtain ⟨pb, po, ep, lp, hpc⟩ := part_at OK.out.parts 0 (by omega)
                obtain ⟨p0, p1, p2, p3, p4, p5, p6, p7, p8, p9, p10⟩ := pc_next (show PC w pb (po + 0 * 11) (c.p 0) from hpc) H.out.ls.out.bel lp
                exact ⟨pb, po, ep, lp, p8, (OK.out.part 0 (by omega)).bud⟩)
              rw [show po + 0 * 11 + 8 = po + 8 by omega] at bu
              obtain ⟨B, hB⟩ : ∃ x, (c.p 0).bud = x := ⟨_, rfl⟩
              obtain ⟨u, hu⟩ : ∃ x, (cst c.w (cy' 0)).1 = x := ⟨_, rfl⟩
              have hI2 := HI.out.2
              rw [hu, hB] at hI2
              rw [hB] at bu bi
              have HU : Hid (usedP c.w c.pn cy' 0 = u) := Lib.hid (by unfold usedP; rw [if_pos ⟨by omega, by omega⟩]; exact hu)
              have u0 : 0 ≤ u := by have := (cst_bd c.w (cy' 0)).1; omega
              obtain ⟨bi0, bi1⟩ := bi
              clear hB hu
              have bc : ∀ i, w7.cell? ⟨w.heap.size, i, none⟩ = (#[.slice (some ⟨pb, po, none⟩) c.pn c.pc, .slice c.ca c.cn c.cc, .slice c.ma c.mn c.mc, .slice c.w.la c.w.ln c.w.lc, .slice c.w.na c.w.nn c.w.nc, .int .i64 c.w.sw, .int .i64 c.w.id, .int .i64 c.w.ch, .int .i64 c.w.qu, .int .i64 c.w.sl, .int .i64 c.w.pp, .slice c.da c.dn c.dc, .slice c.ua c.un c.uc] : Array Value)[i]? := by have bc := H.out.box.cell; rw [ep] at bc; exact bc
              clear ep
              by_cases g1 : B < 2305843009213693952
              · by_cases g2 : one < 2305843009213693952
                · have bd : ∀ i, w7.drew.cell? ⟨w.heap.size, i, none⟩ = (#[.slice (some ⟨pb, po, none⟩) c.pn c.pc, .slice c.ca c.cn c.cc, .slice c.ma c.mn c.mc, .slice c.w.la c.w.ln c.w.lc, .slice c.w.na c.w.nn c.w.nc, .int .i64 c.w.sw, .int .i64 c.w.id, .int .i64 c.w.ch, .int .i64 c.w.qu, .int .i64 c.w.sl, .int .i64 c.w.pp, .slice c.da c.dn c.dc, .slice c.ua c.un c.uc] : Array Value)[i]? := bc
                  have bu2 : w7.drew.cell? ⟨pb, po + 8, none⟩ = some (.int .i64 B) := bu
                  have HD := bs_next H ((Below.refl _ _).drew)
                  have KL := Lib.hid HD.out.box.lt
                  have CU := Lib.hid (ls_used HD.out.ls 0 u HU)
                  unfold mx at hI2
                  by_cases g3 : 0 < B
                  · rw [if_pos g3] at hI2
                    have hw1 : IntKind.i64.wrap (B + one) = B + one := IntWalk.i64_in _ (by omega)
                    have hw2 : decide (B + one < u) = false := by simpa using hI2
                    have W1 := Lib.hid hw1
                    clear hw1
                    go_wp2_with fail
                    have hw1 := W1.out
                    go_region_held3 (fun w' => (∀ i, w'.cell? ⟨w.heap.size, i, none⟩ = (#[.slice (some ⟨pb, po, none⟩) c.pn c.pc, .slice c.ca c.cn c.cc, .slice c.ma c.mn c.mc, .slice c.w.la c.w.ln c.w.lc, .slice c.w.na c.w.nn c.w.nc, .int .i64 c.w.sw, .int .i64 c.w.id, .int .i64 c.w.ch, .int .i64 c.w.qu, .int .i64 c.w.sl, .int .i64 c.w.pp, .slice c.da c.dn c.dc, .slice c.ua c.un c.uc] : Array Value)[i]?) ∧ w'.cell? ⟨pb, po + 8, none⟩ = some (.int .i64 B))
                      (first
                        | exact ⟨bd, bu2⟩
                        | exact r5)
                      (first
                        | (go_at_call 31; refine CU.out.mono ?_; rintro e1 w8 ⟨rfl, k8⟩; have r5 := And.intro (keepc k8 KL.out bd) (keep' k8 bu2); have H8 := bs_next HD k8; clear k8))
                    all_goals
                      clear bd bu2 r5 bc bu hw1
                      go_wp2_with fail
                      go_roundw
                      case rel => exact ⟨k + 1, cy', by omega, by omega, by go_num, HI, H8⟩
                      case measure => simp [intOf]; omega
                  · rw [if_neg g3] at hI2
                    have g6 : (if 0 < B then B else 0) = 0 := if_neg g3
                    have g3 : B ≤ 0 := by omega
                    have hw1 : IntKind.i64.wrap (0 + one) = one := by rw [Int.zero_add]; exact IntWalk.i64_in _ (by omega)
                    have hw3 : IntKind.i64.wrap one = one := IntWalk.i64_in _ (by omega)
                    have hw2 : decide (one < u) = false := by simp; omega
                    have W1 := Lib.hid hw1
                    have W3 := Lib.hid hw3
                    clear hw1 hw3
                    go_wp2_with fail
                    have hw1 := W1.out
                    have hw3 := W3.out
                    go_region_held3 (fun w' => (∀ i, w'.cell? ⟨w.heap.size, i, none⟩ = (#[.slice (some ⟨pb, po, none⟩) c.pn c.pc, .slice c.ca c.cn c.cc, .slice c.ma c.mn c.mc, .slice c.w.la c.w.ln c.w.lc, .slice c.w.na c.w.nn c.w.nc, .int .i64 c.w.sw, .int .i64 c.w.id, .int .i64 c.w.ch, .int .i64 c.w.qu, .int .i64 c.w.sl, .int .i64 c.w.pp, .slice c.da c.dn c.dc, .slice c.ua c.un c.uc] : Array Value)[i]?) ∧ w'.cell? ⟨pb, po + 8, none⟩ = some (.int .i64 B))
                      (first
                        | exact ⟨bd, bu2⟩
                        | exact r5)
                      (first
                        | (go_at_call 31; refine CU.out.mono ?_; rintro e1 w8 ⟨rfl, k8⟩; have r5 := And.intro (keepc k8 KL.out bd) (keep' k8 bu2); have H8 := bs_next HD k8; clear k8))
                    all_goals
                      clear bd bu2 r5 bc bu hw1
                      go_wp2_with fail
                      go_roundw
                      case rel => exact ⟨k + 1, cy', by omega, by omega, by go_num, HI, H8⟩
                      case measure => simp [intOf]; omega
                · have g4 : decide (one < 2305843009213693952) = false := by simpa using g2
                  go_wp2_with fail
                  go_quiet (fail)
                  have H := bs_next H (show Below w7.heap.size w7 (w7.drewN nq) from ⟨rfl, rfl, rfl, Nat.le_refl _, fun _ _ => rfl⟩)
                  clear bc bu g4
                  go_wp2_with fail
                  go_roundw
                  case rel => exact ⟨k + 1, cy', by omega, by omega, by go_num, HI, H⟩
                  case measure => simp [intOf]; omega
              · have g4 : decide (B < 2305843009213693952) = false := by simpa using g1
                go_wp2_with fail
                go_quiet (fail)
                have H := bs_next H (show Below w7.heap.size w7 (w7.drewN nq) from ⟨rfl, rfl, rfl, Nat.le_refl _, fun _ _ => rfl⟩)
                clear bc bu g4
                go_wp2_with fail
                go_roundw
                case rel => exact ⟨k + 1, cy', by omega, by omega, by go_num, HI, H⟩
                case measure => simp [intOf]; omega
            · go_wp2_with fail
              refine (LedW.works_any _).mono ?_
              rintro e1 w3 ⟨rfl, hb3⟩
              go_wp2_with fail
              go_ret
              exact ⟨rfl, below_next H.out.ls.out.bel hb3⟩
        · have ways : (k < an ∧ k = 60) ∨ k = an := by omega
          clear hlt
          rcases ways with ⟨hlt, rfl⟩ | rfl
          all_goals
            go_wp2_with fail
            refine (LedW.works_any _).mono ?_
            rintro e1 w3 ⟨rfl, hb3⟩
            go_wp2_with fail
            go_ret
            exact ⟨rfl, below_next H.out.ls.out.bel hb3⟩
    · have hez' : (er != 0) = true := by simpa using hez
      clear hez
      go_wp2_with fail
      refine (LedW.works_any _).mono ?_
      rintro e1 w3 ⟨rfl, hb3⟩
      go_wp2_with fail
      go_ret
      exact ⟨rfl, below_next S.out.bel hb3⟩
end Go.Proofs.Yteikliciijfmmaa.LedY

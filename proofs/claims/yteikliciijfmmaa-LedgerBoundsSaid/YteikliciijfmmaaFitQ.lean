/- Walks of fit: Covered, and its reference; the law FitParts. -/
import Derived.Test.YteikliciijfmmaaFitP
import Derived.Test.YteikliciijfmmaaFitL
namespace Go.Proofs.Yteikliciijfmmaa.FitQ
open Go.RowKit Base Kit WideA WideB Plain FitA FitB FitC FitP Conf Conf2 Alt RefA Own Short
set_option linter.unusedVariables false
set_option linter.unusedSimpArgs false

def acc (one : Int) (f : Nat → Nat → Int) (p : Int) : Nat → Int
  | 0 => 0
  | k + 1 => if f k 0 = p then acc one f p k + one else acc one f p k
theorem acc_eq (one : Int) (f : Nat → Nat → Int) (p : Int) : ∀ k, acc one f p k = one * (cnt f p k : Int)
  | 0 => by simp [acc, cnt]
  | k + 1 => by
    rw [acc, cnt, acc_eq one f p k]
    split
    · rw [Int.natCast_add, Int.mul_add]; simp
    · rfl
theorem acc_mono {one : Int} (h : 0 ≤ one) (f : Nat → Nat → Int) (p : Int) {k : Nat} : ∀ {n : Nat}, k ≤ n → acc one f p k ≤ acc one f p n
  | 0, hk => by rw [show k = 0 from by omega]; exact Int.le_refl _
  | n + 1, hk => by
    by_cases e : k = n + 1
    · subst e; exact Int.le_refl _
    · have := acc_mono h f p (k := k) (n := n) (by omega)
      rw [acc]; split <;> omega
theorem acc_nonneg {one : Int} (h : 0 ≤ one) (f : Nat → Nat → Int) (p : Int) (n : Nat) : 0 ≤ acc one f p n := acc_mono h f p (k := 0) (by omega)
/-- a budget is enough -/
structure Cov (c : ConfC) (part mode : Int) : Prop where
  p0 : 0 ≤ part
  p1 : part < (c.pn : Int)
  m0 : 0 ≤ mode
  m1 : mode < (c.mn : Int)
  e : (cs (top c.w.ln c.w.lf 0) (top c.w.ln c.w.lf 1) (c.p part.toNat).cap).2 = 0
  lt : acc (cs (top c.w.ln c.w.lf 0) (top c.w.ln c.w.lf 1) (c.p part.toNat).cap).1 (c.m mode.toNat).wf part (c.m mode.toNat).wn < (c.p part.toNat).bud
def IsCov (b : Bool) (c : ConfC) (part mode : Int) : Prop := b = true ↔ Cov c part mode
def CovPost (c : ConfC) (part mode : Int) (w : World) (e : Ending) (w' : World) : Prop := ∃ b : Bool, (b = true ↔ Cov c part mode) ∧ e = .returned (.bool b) ∧ Below w.heap.size w w'

set_option maxRecDepth 100000 in
set_option maxHeartbeats 2000000 in
theorem cov_bad (c : ConfC) (part mode : Int) (w : World) (hm : c.pn ≤ 100 ∧ c.mn ≤ 100) (h : ¬ (0 ≤ part ∧ part < (c.pn : Int) ∧ 0 ≤ mode ∧ mode < (c.mn : Int))) :
    Calls Try.prog 53 #[.agg #[.slice c.pa c.pn c.pc, .slice c.ca c.cn c.cc, .slice c.ma c.mn c.mc, .slice c.w.la c.w.ln c.w.lc, .slice c.w.na c.w.nn c.w.nc, .int .i64 c.w.sw, .int .i64 c.w.id, .int .i64 c.w.ch, .int .i64 c.w.qu, .int .i64 c.w.sl, .int .i64 c.w.pp, .slice c.da c.dn c.dc, .slice c.ua c.un c.uc], .int .i64 part, .int .i64 mode] w (CovPost c part mode w) := by
  have HN : Hid (¬ Cov c part mode) := Lib.hid (fun q => h ⟨q.p0, q.p1, q.m0, q.m1⟩)
  have ways : part < 0 ∨ (0 ≤ part ∧ (c.pn : Int) ≤ part) ∨ (0 ≤ part ∧ part < (c.pn : Int) ∧ mode < 0) ∨ (0 ≤ part ∧ part < (c.pn : Int) ∧ 0 ≤ mode ∧ (c.mn : Int) ≤ mode) := by omega
  obtain ⟨h1, h2⟩ := hm
  clear h
  rcases ways with k1 | ⟨k1, k2⟩ | ⟨k1, k2, k3⟩ | ⟨k1, k2, k3, k4⟩
  all_goals
    go_enter Try.func53, Try.ntmps53
    go_wp2_with fail
    go_ret
    exact ⟨false, no_iff HN.out, rfl, (Below.refl _ _).alloc (Nat.le_refl _) _⟩
set_option maxRecDepth 100000 in
set_option maxHeartbeats 2000000 in
theorem covr_bad (c : ConfC) (part mode : Int) (w : World) (hm : c.pn ≤ 100 ∧ c.mn ≤ 100) (h : ¬ (0 ≤ part ∧ part < (c.pn : Int) ∧ 0 ≤ mode ∧ mode < (c.mn : Int))) :
    Calls Try.prog 54 #[.agg #[.slice c.pa c.pn c.pc, .slice c.ca c.cn c.cc, .slice c.ma c.mn c.mc, .slice c.w.la c.w.ln c.w.lc, .slice c.w.na c.w.nn c.w.nc, .int .i64 c.w.sw, .int .i64 c.w.id, .int .i64 c.w.ch, .int .i64 c.w.qu, .int .i64 c.w.sl, .int .i64 c.w.pp, .slice c.da c.dn c.dc, .slice c.ua c.un c.uc], .int .i64 part, .int .i64 mode] w (CovPost c part mode w) := by
  have HN : Hid (¬ Cov c part mode) := Lib.hid (fun q => h ⟨q.p0, q.p1, q.m0, q.m1⟩)
  have ways : part < 0 ∨ (0 ≤ part ∧ (c.pn : Int) ≤ part) ∨ (0 ≤ part ∧ part < (c.pn : Int) ∧ mode < 0) ∨ (0 ≤ part ∧ part < (c.pn : Int) ∧ 0 ≤ mode ∧ (c.mn : Int) ≤ mode) := by omega
  obtain ⟨h1, h2⟩ := hm
  clear h
  rcases ways with k1 | ⟨k1, k2⟩ | ⟨k1, k2, k3⟩ | ⟨k1, k2, k3, k4⟩
  all_goals
    go_enter Try.func54, Try.ntmps54
    go_wp2_with fail
    go_ret
    exact ⟨false, no_iff HN.out, rfl, (Below.refl _ _).alloc (Nat.le_refl _) _⟩

set_option maxRecDepth 100000 in
set_option maxHeartbeats 4000000 in
theorem cov_good (c : ConfC) (P M : Nat) (w : World) (h : c.Ok w) (hs : Sh c) (hP : P < c.pn) (hM : M < c.mn) :
    Calls Try.prog 53 #[.agg #[.slice c.pa c.pn c.pc, .slice c.ca c.cn c.cc, .slice c.ma c.mn c.mc, .slice c.w.la c.w.ln c.w.lc, .slice c.w.na c.w.nn c.w.nc, .int .i64 c.w.sw, .int .i64 c.w.id, .int .i64 c.w.ch, .int .i64 c.w.qu, .int .i64 c.w.sl, .int .i64 c.w.pp, .slice c.da c.dn c.dc, .slice c.ua c.un c.uc], .int .i64 P, .int .i64 M] w (CovPost c P M w) := by
  have W1 := h.pow
  have hp := h.parts.out.1
  have hm := h.modes.out.1
  obtain ⟨pb, po, ep, lp, p0, p1, p2, p3, p4, p5, p6, p7, p8, p9, p10⟩ := part_at h.parts P hP
  obtain ⟨mb, mo, em, lm, m0, m1⟩ := mode_at h.modes M hM
  have hwn := hs.2.2 M hM
  have WI := (h.mode M hM).win
  have i7 := (h.part P hP).cap
  have i8 := (h.part P hP).bud
  have hcov : ∀ b : Bool, (b = true ↔ ((cs (top c.w.ln c.w.lf 0) (top c.w.ln c.w.lf 1) (c.p P).cap).2 = 0 ∧ acc (cs (top c.w.ln c.w.lf 0) (top c.w.ln c.w.lf 1) (c.p P).cap).1 (c.m M).wf P (c.m M).wn < (c.p P).bud)) → (b = true ↔ Cov c P M) := fun b hb => by
    rw [hb]
    exact ⟨fun q => ⟨by omega, by omega, by omega, by omega, q.1, q.2⟩, fun q => ⟨q.e, q.lt⟩⟩
  obtain ⟨one, e1⟩ : ∃ x, (cs (top c.w.ln c.w.lf 0) (top c.w.ln c.w.lf 1) (c.p P).cap).1 = x := ⟨_, rfl⟩
  obtain ⟨er, e2⟩ : ∃ x, (cs (top c.w.ln c.w.lf 0) (top c.w.ln c.w.lf 1) (c.p P).cap).2 = x := ⟨_, rfl⟩
  have C1 := Lib.hid (fun w h => cost_any c.w.la c.w.ln c.w.lc c.w.lf (.slice c.w.na c.w.nn c.w.nc) c.w.sw (.int .i64 c.w.id) (.int .i64 c.w.ch) (.int .i64 c.w.qu) (.int .i64 c.w.sl) (.int .i64 c.w.pp) (c.p P).cap one er w h i7 (Lib.hid (Prod.ext e1 e2)))
  rw [e1, e2, acc_eq] at hcov
  have C2 := Lib.hid (fun w h => windows_any (c.m M) P w h hwn)
  have hcn := cnt_le (c.m M).wf P (c.m M).wn
  generalize cnt (c.m M).wf P (c.m M).wn = n at *
  have hone : 0 ≤ one ∧ one ≤ 9223372036854775807 := by
    have : 0 ≤ (cs (top c.w.ln c.w.lf 0) (top c.w.ln c.w.lf 1) (c.p P).cap).1 ∧ (cs (top c.w.ln c.w.lf 0) (top c.w.ln c.w.lf 1) (c.p P).cap).1 ≤ 9223372036854775807 := by
      unfold cs; split
      · simp
      · split
        · simp
        · exact ⟨(md_bd _ _ _ _ (fun _ _ _ => trivial)).1, (md_bd _ _ _ _ (fun _ _ _ => trivial)).2.1⟩
    rw [e1] at this; exact this
  have L := Lib.hid W1.lev
  have HC := Lib.hid hcov
  have p0 := alloc_keep (o := .cells #[.slice c.pa c.pn c.pc, .slice c.ca c.cn c.cc, .slice c.ma c.mn c.mc, .slice c.w.la c.w.ln c.w.lc, .slice c.w.na c.w.nn c.w.nc, .int .i64 c.w.sw, .int .i64 c.w.id, .int .i64 c.w.ch, .int .i64 c.w.qu, .int .i64 c.w.sl, .int .i64 c.w.pp, .slice c.da c.dn c.dc, .slice c.ua c.un c.uc] 45) p0
  have p1 := alloc_keep (o := .cells #[.slice c.pa c.pn c.pc, .slice c.ca c.cn c.cc, .slice c.ma c.mn c.mc, .slice c.w.la c.w.ln c.w.lc, .slice c.w.na c.w.nn c.w.nc, .int .i64 c.w.sw, .int .i64 c.w.id, .int .i64 c.w.ch, .int .i64 c.w.qu, .int .i64 c.w.sl, .int .i64 c.w.pp, .slice c.da c.dn c.dc, .slice c.ua c.un c.uc] 45) p1
  have p2 := alloc_keep (o := .cells #[.slice c.pa c.pn c.pc, .slice c.ca c.cn c.cc, .slice c.ma c.mn c.mc, .slice c.w.la c.w.ln c.w.lc, .slice c.w.na c.w.nn c.w.nc, .int .i64 c.w.sw, .int .i64 c.w.id, .int .i64 c.w.ch, .int .i64 c.w.qu, .int .i64 c.w.sl, .int .i64 c.w.pp, .slice c.da c.dn c.dc, .slice c.ua c.un c.uc] 45) p2
  have p3 := alloc_keep (o := .cells #[.slice c.pa c.pn c.pc, .slice c.ca c.cn c.cc, .slice c.ma c.mn c.mc, .slice c.w.la c.w.ln c.w.lc, .slice c.w.na c.w.nn c.w.nc, .int .i64 c.w.sw, .int .i64 c.w.id, .int .i64 c.w.ch, .int .i64 c.w.qu, .int .i64 c.w.sl, .int .i64 c.w.pp, .slice c.da c.dn c.dc, .slice c.ua c.un c.uc] 45) p3
  have p4 := alloc_keep (o := .cells #[.slice c.pa c.pn c.pc, .slice c.ca c.cn c.cc, .slice c.ma c.mn c.mc, .slice c.w.la c.w.ln c.w.lc, .slice c.w.na c.w.nn c.w.nc, .int .i64 c.w.sw, .int .i64 c.w.id, .int .i64 c.w.ch, .int .i64 c.w.qu, .int .i64 c.w.sl, .int .i64 c.w.pp, .slice c.da c.dn c.dc, .slice c.ua c.un c.uc] 45) p4
  have p5 := alloc_keep (o := .cells #[.slice c.pa c.pn c.pc, .slice c.ca c.cn c.cc, .slice c.ma c.mn c.mc, .slice c.w.la c.w.ln c.w.lc, .slice c.w.na c.w.nn c.w.nc, .int .i64 c.w.sw, .int .i64 c.w.id, .int .i64 c.w.ch, .int .i64 c.w.qu, .int .i64 c.w.sl, .int .i64 c.w.pp, .slice c.da c.dn c.dc, .slice c.ua c.un c.uc] 45) p5
  have p6 := alloc_keep (o := .cells #[.slice c.pa c.pn c.pc, .slice c.ca c.cn c.cc, .slice c.ma c.mn c.mc, .slice c.w.la c.w.ln c.w.lc, .slice c.w.na c.w.nn c.w.nc, .int .i64 c.w.sw, .int .i64 c.w.id, .int .i64 c.w.ch, .int .i64 c.w.qu, .int .i64 c.w.sl, .int .i64 c.w.pp, .slice c.da c.dn c.dc, .slice c.ua c.un c.uc] 45) p6
  have p7 := alloc_keep (o := .cells #[.slice c.pa c.pn c.pc, .slice c.ca c.cn c.cc, .slice c.ma c.mn c.mc, .slice c.w.la c.w.ln c.w.lc, .slice c.w.na c.w.nn c.w.nc, .int .i64 c.w.sw, .int .i64 c.w.id, .int .i64 c.w.ch, .int .i64 c.w.qu, .int .i64 c.w.sl, .int .i64 c.w.pp, .slice c.da c.dn c.dc, .slice c.ua c.un c.uc] 45) p7
  have p8 := alloc_keep (o := .cells #[.slice c.pa c.pn c.pc, .slice c.ca c.cn c.cc, .slice c.ma c.mn c.mc, .slice c.w.la c.w.ln c.w.lc, .slice c.w.na c.w.nn c.w.nc, .int .i64 c.w.sw, .int .i64 c.w.id, .int .i64 c.w.ch, .int .i64 c.w.qu, .int .i64 c.w.sl, .int .i64 c.w.pp, .slice c.da c.dn c.dc, .slice c.ua c.un c.uc] 45) p8
  have p9 := alloc_keep (o := .cells #[.slice c.pa c.pn c.pc, .slice c.ca c.cn c.cc, .slice c.ma c.mn c.mc, .slice c.w.la c.w.ln c.w.lc, .slice c.w.na c.w.nn c.w.nc, .int .i64 c.w.sw, .int .i64 c.w.id, .int .i64 c.w.ch, .int .i64 c.w.qu, .int .i64 c.w.sl, .int .i64 c.w.pp, .slice c.da c.dn c.dc, .slice c.ua c.un c.uc] 45) p9
  have p10 := alloc_keep (o := .cells #[.slice c.pa c.pn c.pc, .slice c.ca c.cn c.cc, .slice c.ma c.mn c.mc, .slice c.w.la c.w.ln c.w.lc, .slice c.w.na c.w.nn c.w.nc, .int .i64 c.w.sw, .int .i64 c.w.id, .int .i64 c.w.ch, .int .i64 c.w.qu, .int .i64 c.w.sl, .int .i64 c.w.pp, .slice c.da c.dn c.dc, .slice c.ua c.un c.uc] 45) p10
  have M0 := Lib.hid (And.intro m0 m1)
  have R := rows_alloc (rows_alloc L.out (.cells #[.slice c.pa c.pn c.pc, .slice c.ca c.cn c.cc, .slice c.ma c.mn c.mc, .slice c.w.la c.w.ln c.w.lc, .slice c.w.na c.w.nn c.w.nc, .int .i64 c.w.sw, .int .i64 c.w.id, .int .i64 c.w.ch, .int .i64 c.w.qu, .int .i64 c.w.sl, .int .i64 c.w.pp, .slice c.da c.dn c.dc, .slice c.ua c.un c.uc] 45))
  have RW := fun o => rows_alloc (rows_alloc WI (.cells #[.slice c.pa c.pn c.pc, .slice c.ca c.cn c.cc, .slice c.ma c.mn c.mc, .slice c.w.la c.w.ln c.w.lc, .slice c.w.na c.w.nn c.w.nc, .int .i64 c.w.sw, .int .i64 c.w.id, .int .i64 c.w.ch, .int .i64 c.w.qu, .int .i64 c.w.sl, .int .i64 c.w.pp, .slice c.da c.dn c.dc, .slice c.ua c.un c.uc] 45)) o
  generalize c.p P = q at *
  have b0 := (Box.new w #[.slice c.pa c.pn c.pc, .slice c.ca c.cn c.cc, .slice c.ma c.mn c.mc, .slice c.w.la c.w.ln c.w.lc, .slice c.w.na c.w.nn c.w.nc, .int .i64 c.w.sw, .int .i64 c.w.id, .int .i64 c.w.ch, .int .i64 c.w.qu, .int .i64 c.w.sl, .int .i64 c.w.pp, .slice c.da c.dn c.dc, .slice c.ua c.un c.uc] 45).alloc (.cells #[.slice q.ra q.rn q.rc, .slice q.pa q.pn q.pc, .slice q.oa q.on q.oc, .slice q.sa q.sn q.sc, .int .i64 q.fl, .slice q.qa q.qn q.qc, .slice q.ta q.tn q.tc, .int .i64 q.cap, .int .i64 q.bud, .int .i64 q.lad, .slice q.ca q.cn q.cc] 57)
  have b1 := Box.new (w.alloc (.cells #[.slice c.pa c.pn c.pc, .slice c.ca c.cn c.cc, .slice c.ma c.mn c.mc, .slice c.w.la c.w.ln c.w.lc, .slice c.w.na c.w.nn c.w.nc, .int .i64 c.w.sw, .int .i64 c.w.id, .int .i64 c.w.ch, .int .i64 c.w.qu, .int .i64 c.w.sl, .int .i64 c.w.pp, .slice c.da c.dn c.dc, .slice c.ua c.un c.uc] 45)) #[.slice q.ra q.rn q.rc, .slice q.pa q.pn q.pc, .slice q.oa q.on q.oc, .slice q.sa q.sn q.sc, .int .i64 q.fl, .slice q.qa q.qn q.qc, .slice q.ta q.tn q.tc, .int .i64 q.cap, .int .i64 q.bud, .int .i64 q.lad, .slice q.ca q.cn q.cc] 57
  rw [World.size_alloc] at b1
  have R := R (.cells #[.slice q.ra q.rn q.rc, .slice q.pa q.pn q.pc, .slice q.oa q.on q.oc, .slice q.sa q.sn q.sc, .int .i64 q.fl, .slice q.qa q.qn q.qc, .slice q.ta q.tn q.tc, .int .i64 q.cap, .int .i64 q.bud, .int .i64 q.lad, .slice q.ca q.cn q.cc] 57)
  have RW := RW (.cells #[.slice q.ra q.rn q.rc, .slice q.pa q.pn q.pc, .slice q.oa q.on q.oc, .slice q.sa q.sn q.sc, .int .i64 q.fl, .slice q.qa q.qn q.qc, .slice q.ta q.tn q.tc, .int .i64 q.cap, .int .i64 q.bud, .int .i64 q.lad, .slice q.ca q.cn q.cc] 57)
  have hb : Below w.heap.size w ((w.alloc (.cells #[.slice c.pa c.pn c.pc, .slice c.ca c.cn c.cc, .slice c.ma c.mn c.mc, .slice c.w.la c.w.ln c.w.lc, .slice c.w.na c.w.nn c.w.nc, .int .i64 c.w.sw, .int .i64 c.w.id, .int .i64 c.w.ch, .int .i64 c.w.qu, .int .i64 c.w.sl, .int .i64 c.w.pp, .slice c.da c.dn c.dc, .slice c.ua c.un c.uc] 45)).alloc (.cells #[.slice q.ra q.rn q.rc, .slice q.pa q.pn q.pc, .slice q.oa q.on q.oc, .slice q.sa q.sn q.sc, .int .i64 q.fl, .slice q.qa q.qn q.qc, .slice q.ta q.tn q.tc, .int .i64 q.cap, .int .i64 q.bud, .int .i64 q.lad, .slice q.ca q.cn q.cc] 57)) := ((Below.refl _ _).alloc (Nat.le_refl _) _).alloc (by simp) _
  simp only [ep, em] at b0 b1 hb R RW
  have B0 := Lib.hid b0; have B1 := Lib.hid b1; have HB := Lib.hid hb
  clear b0 b1 hb m0 m1 W1 h hs L
  obtain ⟨s1, s2⟩ := hone
  have P0 : (0 : Int) ≤ (P : Int) := by omega
  have P1 : (P : Int) < (c.pn : Int) := by omega
  have Q0 : (0 : Int) ≤ (M : Int) := by omega
  have Q1 : (M : Int) < (c.mn : Int) := by omega
  have K := Lib.hid (fun (w2 : World) (hk : Below w.heap.size w w2) => (⟨keep hk M0.out.1 lm, keep hk M0.out.2 lm⟩ : w2.cell? ⟨mb, mo + M * 2, none⟩ = some (.int .i64 (c.m M).fr) ∧ w2.cell? ⟨mb, mo + M * 2 + 1, none⟩ = some (.slice (c.m M).wa (c.m M).wn (c.m M).wc)))
  by_cases hez : er = 0
  · subst hez
    have C3 := fun w => mul_any one n w (by omega) s2 (by omega) (by omega)
    have hmd : md one n 1 false = if one * (n : Int) ≤ 9223372036854775807 then (one * (n : Int), 0) else (0, 6) := by
      unfold md mdQ
      rw [if_neg (by omega)]
      simp
    rw [hmd] at C3
    generalize one * (n : Int) = al at C3 HC
    have hfin : ∃ (b : Bool) (r1 r2 : Int), (if al ≤ 9223372036854775807 then (al, (0 : Int)) else (0, 6)) = (r1, r2) ∧ (b = true ↔ Cov c P M) ∧ ((r2 = 6 ∧ b = false) ∨ (r2 = 0 ∧ r1 < q.bud ∧ b = true) ∨ (r2 = 0 ∧ q.bud ≤ r1 ∧ b = false)) := by
      by_cases h1 : al ≤ 9223372036854775807
      · by_cases h2 : al < q.bud
        · exact ⟨true, al, 0, by rw [if_pos h1], HC.out true ⟨fun _ => ⟨rfl, h2⟩, fun _ => rfl⟩, .inr (.inl ⟨rfl, h2, rfl⟩)⟩
        · exact ⟨false, al, 0, by rw [if_pos h1], HC.out false (no_iff (fun h => h2 h.2)), .inr (.inr ⟨rfl, by omega, rfl⟩)⟩
      · exact ⟨false, 0, 6, by rw [if_neg h1], HC.out false (no_iff (fun h => by have := i8.2; omega)), .inl ⟨rfl, rfl⟩⟩
    obtain ⟨b, r1, r2, h1, h2, h3⟩ := hfin
    rw [h1] at C3
    have C3 := Lib.hid C3
    have H2 : Hid (IsCov b c P M) := Lib.hid h2
    clear h1 h2 hmd
    go_enter Try.func53, Try.ntmps53
    go_wp2_with fail
    generalize (w.alloc _).alloc _ = w1 at R RW B0 B1 HB ⊢
    refine (C1.out _ R).mono ?_
    rintro e1 w2 ⟨rfl, hb2⟩
    have HB := below_hid HB hb2
    have B0 := Lib.hid (B0.out.next hb2)
    have B1 := Lib.hid (B1.out.next hb2)
    have RW := rows_next RW hb2
    have bc := B0.out.cell
    have bd := B1.out.cell
    obtain ⟨m0, m1⟩ := K.out _ HB.out
    clear hb2
    go_wp2_with fail
    refine (C2.out _ RW).mono ?_
    rintro e1 w3 ⟨rfl, hb3⟩
    have HB := below_hid HB hb3
    have B1 := Lib.hid (B1.out.next hb3)
    clear hb3 bc bd
    go_wp2_with fail
    refine (C3.out _).mono ?_
    rintro e1 w4 ⟨rfl, hb4⟩
    have HB := below_hid HB hb4
    have B1 := Lib.hid (B1.out.next hb4)
    have bd := B1.out.cell
    clear hb4
    rcases h3 with ⟨rfl, rfl⟩ | ⟨rfl, k, rfl⟩ | ⟨rfl, k, rfl⟩
    all_goals
      go_wp2_with fail
      go_ret
      refine ⟨_, H2.out, ?_, HB.out⟩
      first | rfl | exact ret_bool (by simp; omega)
  · have hez' : (er != 0) = true := by simpa using hez
    have HN : Hid (¬ Cov c P M) := Lib.hid (fun hc => by
      have h9 := (HC.out false (no_iff (fun h => hez h.1))).2 hc
      cases h9)
    clear hez
    go_enter Try.func53, Try.ntmps53
    go_wp2_with fail
    generalize (w.alloc _).alloc _ = w1 at R RW B0 B1 HB ⊢
    refine (C1.out _ R).mono ?_
    rintro e1 w2 ⟨rfl, hb2⟩
    have HB := below_hid HB hb2
    have B0 := Lib.hid (B0.out.next hb2)
    have B1 := Lib.hid (B1.out.next hb2)
    have RW := rows_next RW hb2
    have bc := B0.out.cell
    have bd := B1.out.cell
    obtain ⟨m0, m1⟩ := K.out _ HB.out
    clear hb2
    go_wp2_with fail
    go_ret
    exact ⟨false, no_iff HN.out, rfl, HB.out⟩

set_option maxRecDepth 100000 in
set_option maxHeartbeats 4000000 in
theorem covr_good (c : ConfC) (P M : Nat) (w : World) (h : c.Ok w) (hs : Sh c) (hP : P < c.pn) (hM : M < c.mn) :
    Calls Try.prog 54 #[.agg #[.slice c.pa c.pn c.pc, .slice c.ca c.cn c.cc, .slice c.ma c.mn c.mc, .slice c.w.la c.w.ln c.w.lc, .slice c.w.na c.w.nn c.w.nc, .int .i64 c.w.sw, .int .i64 c.w.id, .int .i64 c.w.ch, .int .i64 c.w.qu, .int .i64 c.w.sl, .int .i64 c.w.pp, .slice c.da c.dn c.dc, .slice c.ua c.un c.uc], .int .i64 P, .int .i64 M] w (CovPost c P M w) := by
  have hacc := acc_eq (cs (top c.w.ln c.w.lf 0) (top c.w.ln c.w.lf 1) (c.p P).cap).1 (c.m M).wf P (c.m M).wn
  have W1 := h.pow
  have hp := h.parts.out.1
  have hm := h.modes.out.1
  obtain ⟨pb, po, ep, lp, p0, p1, p2, p3, p4, p5, p6, p7, p8, p9, p10⟩ := part_at h.parts P hP
  obtain ⟨mb, mo, em, lm, m0, m1⟩ := mode_at h.modes M hM
  have hwn := hs.2.2 M hM
  have WI := (h.mode M hM).win
  have i7 := (h.part P hP).cap
  have i8 := (h.part P hP).bud
  have hcov : ∀ b : Bool, (b = true ↔ ((cs (top c.w.ln c.w.lf 0) (top c.w.ln c.w.lf 1) (c.p P).cap).2 = 0 ∧ acc (cs (top c.w.ln c.w.lf 0) (top c.w.ln c.w.lf 1) (c.p P).cap).1 (c.m M).wf P (c.m M).wn < (c.p P).bud)) → (b = true ↔ Cov c P M) := fun b hb => by
    rw [hb]
    exact ⟨fun q => ⟨by omega, by omega, by omega, by omega, q.1, q.2⟩, fun q => ⟨q.e, q.lt⟩⟩
  obtain ⟨one, e1⟩ : ∃ x, (cs (top c.w.ln c.w.lf 0) (top c.w.ln c.w.lf 1) (c.p P).cap).1 = x := ⟨_, rfl⟩
  obtain ⟨er, e2⟩ : ∃ x, (cs (top c.w.ln c.w.lf 0) (top c.w.ln c.w.lf 1) (c.p P).cap).2 = x := ⟨_, rfl⟩
  have C1 := Lib.hid (fun w h => costr_any c.w.la c.w.ln c.w.lc c.w.lf (.slice c.w.na c.w.nn c.w.nc) c.w.sw (.int .i64 c.w.id) (.int .i64 c.w.ch) (.int .i64 c.w.qu) (.int .i64 c.w.sl) (.int .i64 c.w.pp) (c.p P).cap one er w h i7 (Lib.hid (Prod.ext e1 e2)))
  rw [e1, e2, acc_eq] at hcov
  have C2 := Lib.hid (fun w h => windows_any (c.m M) P w h hwn)
  have hcn := cnt_le (c.m M).wf P (c.m M).wn
  generalize cnt (c.m M).wf P (c.m M).wn = n at *
  have hone : 0 ≤ one ∧ one ≤ 9223372036854775807 := by
    have : 0 ≤ (cs (top c.w.ln c.w.lf 0) (top c.w.ln c.w.lf 1) (c.p P).cap).1 ∧ (cs (top c.w.ln c.w.lf 0) (top c.w.ln c.w.lf 1) (c.p P).cap).1 ≤ 9223372036854775807 := by
      unfold cs; split
      · simp
      · split
        · simp
        · exact ⟨(md_bd _ _ _ _ (fun _ _ _ => trivial)).1, (md_bd _ _ _ _ (fun _ _ _ => trivial)).2.1⟩
    rw [e1] at this; exact this
  have L := Lib.hid W1.lev
  have HC := Lib.hid hcov
  rw [e1] at hacc
  rw [← hacc] at HC
  have R := rows_alloc L.out (.cells #[.slice c.pa c.pn c.pc, .slice c.ca c.cn c.cc, .slice c.ma c.mn c.mc, .slice c.w.la c.w.ln c.w.lc, .slice c.w.na c.w.nn c.w.nc, .int .i64 c.w.sw, .int .i64 c.w.id, .int .i64 c.w.ch, .int .i64 c.w.qu, .int .i64 c.w.sl, .int .i64 c.w.pp, .slice c.da c.dn c.dc, .slice c.ua c.un c.uc] 45)
  have hb : Below w.heap.size w (w.alloc (.cells #[.slice c.pa c.pn c.pc, .slice c.ca c.cn c.cc, .slice c.ma c.mn c.mc, .slice c.w.la c.w.ln c.w.lc, .slice c.w.na c.w.nn c.w.nc, .int .i64 c.w.sw, .int .i64 c.w.id, .int .i64 c.w.ch, .int .i64 c.w.qu, .int .i64 c.w.sl, .int .i64 c.w.pp, .slice c.da c.dn c.dc, .slice c.ua c.un c.uc] 45)) := (Below.refl _ _).alloc (Nat.le_refl _) _
  have b0 := Box.new w #[.slice c.pa c.pn c.pc, .slice c.ca c.cn c.cc, .slice c.ma c.mn c.mc, .slice c.w.la c.w.ln c.w.lc, .slice c.w.na c.w.nn c.w.nc, .int .i64 c.w.sw, .int .i64 c.w.id, .int .i64 c.w.ch, .int .i64 c.w.qu, .int .i64 c.w.sl, .int .i64 c.w.pp, .slice c.da c.dn c.dc, .slice c.ua c.un c.uc] 45
  have K := Lib.hid (fun (w2 : World) (hk : Below w.heap.size w w2) => (⟨keep hk m0 lm, keep hk m1 lm, keep hk p7 lp, keep hk p8 lp, Lib.hid (rows_below WI.out hk (Nat.le_refl _))⟩ : w2.cell? ⟨mb, mo + M * 2, none⟩ = some (.int .i64 (c.m M).fr) ∧ w2.cell? ⟨mb, mo + M * 2 + 1, none⟩ = some (.slice (c.m M).wa (c.m M).wn (c.m M).wc) ∧ w2.cell? ⟨pb, po + P * 11 + 7, none⟩ = some (.int .i64 (c.p P).cap) ∧ w2.cell? ⟨pb, po + P * 11 + 8, none⟩ = some (.int .i64 (c.p P).bud) ∧ Hid (Open.RowsIn w2 (c.m M).wa (c.m M).wn 3 (c.m M).wf)))
  generalize c.p P = q at *
  simp only [ep, em] at b0 hb R
  have B0 := Lib.hid b0; have HB := Lib.hid hb
  have hca : 0 ≤ one := hone.1
  have AN := Lib.hid (fun k => acc_nonneg hca (c.m M).wf P k)
  have AM := Lib.hid (fun k (hk : k ≤ (c.m M).wn) => acc_mono hca (c.m M).wf P hk)
  obtain ⟨s1, s2⟩ := hone
  clear b0 hb W1 h hs L C2 hacc p0 p1 p2 p3 p4 p5 p6 p7 p8 p9 p10 m0 m1 hcov hcn n
  have P0 : (0 : Int) ≤ (P : Int) := by omega
  have P1 : (P : Int) < (c.pn : Int) := by omega
  have Q0 : (0 : Int) ≤ (M : Int) := by omega
  have Q1 : (M : Int) < (c.mn : Int) := by omega
  by_cases hez : er = 0
  · subst hez
    go_enter Try.func54, Try.ntmps54
    go_wp2_with fail
    generalize w.alloc _ = w1 at R B0 HB ⊢
    have B0 : Hid (Box w1.drew _ _ _) := Lib.hid B0.out.drew
    have HB := below_drew HB
    have R := rows_drew R
    have bc := B0.out.cell
    have kc := (K.out _ HB.out).2.2.1
    go_region_held3 (fun w' => (∀ i, w'.cell? ⟨w.heap.size, i, none⟩ = (#[.slice (some ⟨pb, po, none⟩) c.pn c.pc, .slice c.ca c.cn c.cc, .slice (some ⟨mb, mo, none⟩) c.mn c.mc, .slice c.w.la c.w.ln c.w.lc, .slice c.w.na c.w.nn c.w.nc, .int .i64 c.w.sw, .int .i64 c.w.id, .int .i64 c.w.ch, .int .i64 c.w.qu, .int .i64 c.w.sl, .int .i64 c.w.pp, .slice c.da c.dn c.dc, .slice c.ua c.un c.uc] : Array Value)[i]?) ∧ w'.cell? ⟨pb, po + P * 11 + 7, none⟩ = some (.int .i64 q.cap))
      (first
        | exact ⟨bc, kc⟩
        | exact ⟨r5, (K.out _ HB5.out).2.2.1⟩)
      (first
        | (go_at_call 21; refine (C1.out _ (by exact R)).mono ?_; rintro e1 w5 ⟨rfl, hb5⟩; have B5 := Lib.hid (B0.out.next hb5); have r5 := B5.out.cell; have HB5 := below_hid HB hb5; clear hb5))
    clear bc kc
    obtain ⟨m0, m1, k7, k8, WR⟩ := K.out _ HB5.out
    have bc := B5.out.cell
    clear r5
    go_wp2_with fail
    clear bc m0 m1 k7 k8 R K B0 B5 C1
    obtain ⟨b0, b1⟩ := i8
    have hmw := WR.out.1
    go_loop [9, 11] (fun v i => ∃ k : Nat, k ≤ (c.m M).wn ∧ i = .int .i64 k ∧ v = .int .i64 (q.bud - acc one (c.m M).wf P k) ∧ (acc one (c.m M).wf P k = 0 ∨ 0 ≤ q.bud - acc one (c.m M).wf P k)) (fun _ i => (c.m M).wn - (intOf i).toNat)
    case atStart => exact ⟨0, by omega, rfl, by simp [acc], .inl rfl⟩
    case round =>
      obtain ⟨k, hk, rfl, rfl, hv⟩ := hrel
      have a0 := AN.out k
      have am := AM.out k hk
      by_cases hlt : k < (c.m M).wn
      · obtain ⟨wb, wo, ew, lw, d0, d1, d2, j0, j1, j2⟩ := rows_at3 WR k hlt
        have am1 := AM.out (k + 1) (by omega)
        by_cases hp : (c.m M).wf k 0 = (P : Int)
        · have e := show acc one (c.m M).wf P (k + 1) = acc one (c.m M).wf P k + one by rw [acc, if_pos hp]
          rw [e] at am1
          rw [hp] at d0
          have E := Lib.hid e
          obtain ⟨a, ha⟩ : ∃ a, acc one (c.m M).wf P k = a := ⟨_, rfl⟩
          rw [ha] at am1 am a0 hv E ⊢
          have HA := Lib.hid ha
          clear hp e ha
          by_cases hbig : q.bud - a < one
          · have HN : Hid (¬ Cov c P M) := Lib.hid (fun hc => by
              have h9 := (HC.out false (no_iff (fun h => by have := h.2; omega))).2 hc
              cases h9)
            clear am1 am
            go_wp2_with fail
            go_ret
            exact ⟨false, no_iff HN.out, rfl, HB5.out⟩
          · have hsm : one ≤ q.bud - a := by omega
            clear am1 am hbig
            go_wp2_with fail
            go_round
            case rel => exact ⟨k + 1, by omega, by go_num, by rw [E.out]; go_num, by rw [E.out]; right; omega⟩
            case measure => simp [intOf]; omega
        · have e := show acc one (c.m M).wf P (k + 1) = acc one (c.m M).wf P k by rw [acc, if_neg hp]
          have E := Lib.hid e
          have hp' : ((c.m M).wf k 0 != (P : Int)) = true := by simpa using hp
          obtain ⟨a, ha⟩ : ∃ a, acc one (c.m M).wf P k = a := ⟨_, rfl⟩
          rw [ha] at a0 hv E ⊢
          have HA := Lib.hid ha
          clear hp e ha am am1
          go_wp2_with fail
          go_round
          case rel => exact ⟨k + 1, by omega, by go_num, by rw [E.out], by rw [E.out]; exact hv⟩
          case measure => simp [intOf]; omega
      · obtain ek : k = (c.m M).wn := by omega
        subst ek
        obtain ⟨a, ha⟩ : ∃ a, acc one (c.m M).wf P (c.m M).wn = a := ⟨_, rfl⟩
        rw [ha] at HC
        rw [ha] at a0 hv ⊢
        clear ha am AM AN
        by_cases hfin : a < q.bud
        · have HY : Hid (IsCov true c P M) := Lib.hid (HC.out true ⟨fun _ => ⟨by trivial, hfin⟩, fun _ => rfl⟩)
          have hp0 : 0 < q.bud - a := by omega
          go_wp2_with fail
          go_ret
          exact ⟨true, HY.out, rfl, HB5.out⟩
        · have HY : Hid (IsCov false c P M) := Lib.hid (HC.out false (no_iff (fun h => hfin h.2)))
          have hp0 : q.bud - a ≤ 0 := by omega
          clear hfin
          go_wp2_with fail
          go_ret
          refine ⟨false, HY.out, ?_, HB5.out⟩
          first | rfl | exact ret_bool (by simp; omega)
  · have hez' : (er != 0) = true := by simpa using hez
    have HN : Hid (¬ Cov c P M) := Lib.hid (fun hc => by
      have h9 := (HC.out false (no_iff (fun h => hez h.1))).2 hc
      cases h9)
    clear hez
    go_enter Try.func54, Try.ntmps54
    go_wp2_with fail
    generalize w.alloc _ = w1 at R B0 HB ⊢
    have B0 : Hid (Box w1.drew _ _ _) := Lib.hid B0.out.drew
    have HB := below_drew HB
    have R := rows_drew R
    have bc := B0.out.cell
    have kc := (K.out _ HB.out).2.2.1
    go_region_held3 (fun w' => (∀ i, w'.cell? ⟨w.heap.size, i, none⟩ = (#[.slice (some ⟨pb, po, none⟩) c.pn c.pc, .slice c.ca c.cn c.cc, .slice (some ⟨mb, mo, none⟩) c.mn c.mc, .slice c.w.la c.w.ln c.w.lc, .slice c.w.na c.w.nn c.w.nc, .int .i64 c.w.sw, .int .i64 c.w.id, .int .i64 c.w.ch, .int .i64 c.w.qu, .int .i64 c.w.sl, .int .i64 c.w.pp, .slice c.da c.dn c.dc, .slice c.ua c.un c.uc] : Array Value)[i]?) ∧ w'.cell? ⟨pb, po + P * 11 + 7, none⟩ = some (.int .i64 q.cap))
      (first
        | exact ⟨bc, kc⟩
        | exact ⟨r5, (K.out _ HB5.out).2.2.1⟩)
      (first
        | (go_at_call 21; refine (C1.out _ (by exact R)).mono ?_; rintro e1 w5 ⟨rfl, hb5⟩; have B5 := Lib.hid (B0.out.next hb5); have r5 := B5.out.cell; have HB5 := below_hid HB hb5; clear hb5))
    clear bc kc
    go_wp2_with fail
    go_ret
    exact ⟨false, no_iff HN.out, rfl, HB5.out⟩

theorem cov_any (c : ConfC) (part mode : Int) (w : World) (h : c.Ok w) (hs : Sh c) :
    (Calls Try.prog 53 #[.agg #[.slice c.pa c.pn c.pc, .slice c.ca c.cn c.cc, .slice c.ma c.mn c.mc, .slice c.w.la c.w.ln c.w.lc, .slice c.w.na c.w.nn c.w.nc, .int .i64 c.w.sw, .int .i64 c.w.id, .int .i64 c.w.ch, .int .i64 c.w.qu, .int .i64 c.w.sl, .int .i64 c.w.pp, .slice c.da c.dn c.dc, .slice c.ua c.un c.uc], .int .i64 part, .int .i64 mode] w (CovPost c part mode w)) ∧ (Calls Try.prog 54 #[.agg #[.slice c.pa c.pn c.pc, .slice c.ca c.cn c.cc, .slice c.ma c.mn c.mc, .slice c.w.la c.w.ln c.w.lc, .slice c.w.na c.w.nn c.w.nc, .int .i64 c.w.sw, .int .i64 c.w.id, .int .i64 c.w.ch, .int .i64 c.w.qu, .int .i64 c.w.sl, .int .i64 c.w.pp, .slice c.da c.dn c.dc, .slice c.ua c.un c.uc], .int .i64 part, .int .i64 mode] w (CovPost c part mode w)) := by
  by_cases hg : 0 ≤ part ∧ part < (c.pn : Int) ∧ 0 ≤ mode ∧ mode < (c.mn : Int)
  · obtain ⟨P, rfl⟩ := Int.eq_ofNat_of_zero_le hg.1
    obtain ⟨M, rfl⟩ := Int.eq_ofNat_of_zero_le hg.2.2.1
    exact ⟨cov_good c P M w h hs (by omega) (by omega), covr_good c P M w h hs (by omega) (by omega)⟩
  · exact ⟨cov_bad c part mode w ⟨hs.1.1, hs.1.2.2.1⟩ hg, covr_bad c part mode w ⟨hs.1.1, hs.1.2.2.1⟩ hg⟩
end Go.Proofs.Yteikliciijfmmaa.FitQ

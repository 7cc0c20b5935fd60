import Derived.Deep.RegionLaw
import Derived.Deep.AppendLies
import Derived.Deep.DrawnRows
import Derived.Test.YtlafeijkpnpdeaaGreatMg29
import Derived.Test.YtlafeijkpnpdeaaGreatMg24
import Derived.Test.YtlafeijkpnpdeaaGreatMg26

/- The reference of slots: need, May; plain. -/
namespace Go.Proofs.YtlafeijkpnpdeaaGreat.Soi
open Go.RowKit Base Kit RefA WideA WideB RefC Plain Conf Conf2 PowA PowB Vfa Vfb Val Vld Vpa Vpb Vpr Vsh Short Vcf Vch Vci Vnu Vmo Vck Vrp Vl4 FitA FitB FitC NapG Soa Sob Soc Sod Soe Sof Alt Cls Sog Soh
set_option linter.unusedVariables false
set_option linter.unusedSimpArgs false
theorem May_any (c : ConfC) (w : World) (r : Bool) (ok : c.Ok w) (hr : Hid (decide ((CheckR c).1 = 0) = r)) :
    Calls Tryz.prog 15 #[.agg #[.slice c.pa c.pn c.pc, .slice c.ca c.cn c.cc, .slice c.ma c.mn c.mc, .slice c.w.la c.w.ln c.w.lc, .slice c.w.na c.w.nn c.w.nc, .int .i64 c.w.sw, .int .i64 c.w.id, .int .i64 c.w.ch, .int .i64 c.w.qu, .int .i64 c.w.sl, .int .i64 c.w.pp, .slice c.da c.dn c.dc, .slice c.ua c.un c.uc]] w fun e w' => e = .returned (.bool r) ∧ Below w.heap.size w w' := by
  have OK := Lib.hid (fun w' (h : Below w.heap.size w w') => ok.below h (Nat.le_refl _))
  obtain ⟨⟨q0, t0⟩, g0⟩ : ∃ z, CheckR c = z := ⟨_, rfl⟩
  have CK := Lib.hid (fun w' (h : c.Ok w') => Vkr.Checkr_any c q0 t0 w' h (Lib.hid g0))
  have hr := hr.out
  rw [g0] at hr
  have S := cs_in w c
  have bc := S.out.box.cell
  clear g0
  by_cases h : q0 = 0
  · obtain rfl : r = true := by rw [← hr]; simp [h]
    subst h
    clear hr
    go_enter Tryz.func15, Tryz.ntmps15
    go_wp2_with fail
    refine (CK.out _ (OK.out _ S.out.bel)).mono ?_
    rintro e1 w5 ⟨rfl, k5⟩
    have S := cs_next S k5
    go_wp2_with fail
    go_ret
    exact ⟨rfl, S.out.bel⟩
  · obtain rfl : r = false := by rw [← hr]; simp [h]
    have h' : (q0 == 0) = false := by simpa using h
    clear hr h
    go_enter Tryz.func15, Tryz.ntmps15
    go_wp2_with fail
    refine (CK.out _ (OK.out _ S.out.bel)).mono ?_
    rintro e1 w5 ⟨rfl, k5⟩
    have S := cs_next S k5
    go_wp2_with fail
    go_ret
    exact ⟨rfl, S.out.bel⟩

/-- how long a Cap takes at a level, with a change -/
def nR (c : ConfC) (x0 : Int) (j : Nat) : Int := (md 1000 (capP c x0) (c.w.lf j 0) true).1 + c.w.sw
theorem md_comm (a b f : Int) (u : Bool) : md a b f u = md b a f u := by
  unfold md mdQ
  rw [Int.mul_comm a b]
  have e : (a < 0 ∨ b < 0 ∨ f < 1) = (b < 0 ∨ a < 0 ∨ f < 1) := propext ⟨fun h => by omega, fun h => by omega⟩
  simp only [e]
theorem md_cap {cap fq : Int} (c0 : 0 ≤ cap) (c1 : cap ≤ 1000000000) (f0 : 1 ≤ fq) : md cap 1000 fq true = ((cap * 1000 + (fq - 1)) / fq, 0) ∧ 0 ≤ (cap * 1000 + (fq - 1)) / fq ∧ (cap * 1000 + (fq - 1)) / fq ≤ cap * 1000 := by
  have hq : (cap * 1000 + (fq - 1)) / fq ≤ cap * 1000 := by rw [ceil_le _ _ _ f0]; have := Int.mul_le_mul_of_nonneg_left f0 (show 0 ≤ cap * 1000 by omega); omega
  have hq0 : 0 ≤ (cap * 1000 + (fq - 1)) / fq := Int.ediv_nonneg (by omega) (by omega)
  refine ⟨?_, hq0, hq⟩
  unfold md mdQ
  rw [if_neg (by omega)]
  simp only [if_true]
  rw [if_pos (by omega)]
theorem nd_cap {cap fq sw : Int} (c0 : 0 ≤ cap) (c1 : cap ≤ 1000000000) (f0 : 1 ≤ fq) (s0 : 0 ≤ sw) (s1 : sw ≤ 100000000) : nd fq sw cap = ((md 1000 cap fq true).1 + sw, 0) := by
  obtain ⟨h1, h2, h3⟩ := md_cap c0 c1 f0
  rw [md_comm, h1]
  unfold nd
  rw [if_neg (by omega), h1]
  simp only [ne_eq, not_true_eq_false, if_false]
  rw [if_neg (by omega), Int.add_comm]
/-- what a configuration that may be has of levels -/
structure Gl (c : ConfC) : Prop where
  ln : 1 ≤ c.w.ln ∧ c.w.ln ≤ 6
  fq : ∀ j, j < c.w.ln → 1 ≤ c.w.lf j 0 ∧ c.w.lf j 0 ≤ 10000
  sw : 0 ≤ c.w.sw ∧ c.w.sw ≤ 100000000
theorem gl_of {c : ConfC} (h : (CheckR c).1 = 0) : Gl c := by
  unfold CheckR at h
  split at h
  · obtain ⟨a1, h⟩ := thn_ok h
    obtain ⟨a2, h⟩ := thn_ok h
    unfold powR at a2
    have hle := fb_le (lev c.w.lf) c.w.ln
    split at a2
    · cases a2
    rename_i h1
    split at a2
    · cases a2
    rename_i h2
    split at a2
    · rename_i h3
      unfold rest at h3
      simp only [Bool.and_eq_true] at h3
      have hs : inB c.w.sw 0 100000000 = true := by first | exact h3.1.1.1.1.1.2 | exact h3.2.1 | exact h3.1.1.1.1.2
      have hl := fb_iff.1 (show fb (lev c.w.lf) c.w.ln = c.w.ln by omega)
      refine ⟨by omega, fun j hj => ?_, inB_iff.1 hs⟩
      have h5 := hl j hj
      unfold lev at h5
      have h6 := lvB_bd h5
      have h7 := (ah_bd j (fun i hi => hl i (by omega))).1
      omega
    · cases a2
  · cases h
theorem cap_bd {c : ConfC} (h : (CheckR c).1 = 0) {x0 : Int} (h0 : 0 ≤ x0) (h1 : x0 < (c.pn : Int)) : 1 ≤ capP c x0 ∧ capP c x0 ≤ 1000000000 := (check_good h).cap x0.toNat (by omega)
theorem fit_nR {c : ConfC} (h : (CheckR c).1 = 0) {x0 x2 : Int} (h0 : 0 ≤ x0) (h1 : x0 < (c.pn : Int)) {j : Nat} (hj : j < c.w.ln) : fitL c x0 x2 j = decide (nR c x0 j ≤ x2) := by
  have g := gl_of h
  have k := cap_bd h h0 h1
  unfold fitL ft nR
  rw [nd_cap (by omega) k.2 (g.fq j hj).1 g.sw.1 g.sw.2]
  simp
theorem nR_bd {c : ConfC} (h : (CheckR c).1 = 0) {x0 : Int} (h0 : 0 ≤ x0) (h1 : x0 < (c.pn : Int)) {j : Nat} (hj : j < c.w.ln) : 0 ≤ nR c x0 j ∧ nR c x0 j ≤ 1000100000000 := by
  have g := gl_of h
  have k := cap_bd h h0 h1
  obtain ⟨m1, m2, m3⟩ := md_cap (show 0 ≤ capP c x0 by omega) k.2 (g.fq j hj).1
  unfold nR
  rw [md_comm, m1]
  have := g.sw
  simp only
  omega
theorem spare_nR {c : ConfC} (h : (CheckR c).1 = 0) {x0 x2 : Int} (h0 : 0 ≤ x0) (h1 : x0 < (c.pn : Int)) : spareP c x0 x2 = x2 - nR c x0 (c.w.ln - 1) := by
  have g := gl_of h
  have k := cap_bd h h0 h1
  have e : top c.w.ln c.w.lf 0 = c.w.lf (c.w.ln - 1) 0 := by unfold top; rw [if_neg (by have := g.ln; omega)]
  unfold spareP nR
  rw [e, nd_cap (by omega) k.2 (g.fq (c.w.ln - 1) (by have := g.ln; omega)).1 g.sw.1 g.sw.2]
/-- the least of those that fit, looked for from above -/
def dn (P : Nat → Bool) (n : Nat) : Nat → Int
  | 0 => -1
  | t + 1 => if P (n - 1 - t) = true then ((n - 1 - t : Nat) : Int) else dn P n t
theorem dn_spec {P : Nat → Bool} {n : Nat} : ∀ t, t ≤ n → (dn P n t = -1 ∧ ∀ j, n - t ≤ j → j < n → P j = false) ∨ ∃ q : Nat, dn P n t = q ∧ n - t ≤ q ∧ q < n ∧ P q = true ∧ ∀ j, n - t ≤ j → j < q → P j = false
  | 0, _ => .inl ⟨rfl, fun j h1 h2 => by omega⟩
  | t + 1, ht => by
    unfold dn
    cases hp : P (n - 1 - t)
    · rw [if_neg (by decide)]
      rcases dn_spec (P := P) (n := n) t (by omega) with ⟨e, h⟩ | ⟨q, e, h1, h2, h3, h4⟩
      · refine .inl ⟨e, fun j a b => ?_⟩
        by_cases hj : j = n - 1 - t
        · rw [hj]; exact hp
        · exact h j (by omega) b
      · refine .inr ⟨q, e, by omega, h2, h3, fun j a b => ?_⟩
        by_cases hj : j = n - 1 - t
        · rw [hj]; exact hp
        · exact h4 j (by omega) b
    · rw [if_pos rfl]
      exact .inr ⟨n - 1 - t, rfl, by omega, by omega, hp, fun j a b => by omega⟩
theorem dn_low {c : ConfC} {x0 x2 : Int} : dn (fitL c x0 x2) c.w.ln c.w.ln = lowP c x0 x2 := by
  rcases dn_spec (P := fitL c x0 x2) (n := c.w.ln) c.w.ln (Nat.le_refl _) with ⟨e, h⟩ | ⟨q, e, h1, h2, h3, h4⟩
  · rw [e, lowP_none (fun j hj => h j (by omega) hj)]
  · rw [e, lowP_hit (fun j hj => h4 j (by omega) hj) h3 h2]
/-- a configuration's box, and two cells -/
structure Nw (w0 w : World) (c : ConfC) (b off d o j : Nat) (x0 cap fq : Int) : Prop where
  S : Hid (Cs w0 w w0.heap.size c)
  hb : b < w0.heap.size
  hd : d < w0.heap.size
  cap : w0.cell? ⟨b, off + x0.toNat * 11 + 7, none⟩ = some (.int .i64 cap)
  fq : w0.cell? ⟨d, o + j * 2, none⟩ = some (.int .i64 fq)
set_option maxRecDepth 100000 in
set_option maxHeartbeats 1000000 in
theorem needr_any (c : ConfC) (x0 : Int) (j : Nat) (r : Int) (w : World) (ok : c.Ok w) (hv : Hid ((CheckR c).1 = 0)) (h0 : 0 ≤ x0) (h1 : x0 < (c.pn : Int)) (hj : j < c.w.ln) (hr : Hid (nR c x0 j = r)) :
    Calls Tryz.prog 22 #[.agg #[.slice c.pa c.pn c.pc, .slice c.ca c.cn c.cc, .slice c.ma c.mn c.mc, .slice c.w.la c.w.ln c.w.lc, .slice c.w.na c.w.nn c.w.nc, .int .i64 c.w.sw, .int .i64 c.w.id, .int .i64 c.w.ch, .int .i64 c.w.qu, .int .i64 c.w.sl, .int .i64 c.w.pp, .slice c.da c.dn c.dc, .slice c.ua c.un c.uc], .int .i64 x0, .int .i64 j] w fun e w' => e = .returned (.int .i64 r) ∧ Below w.heap.size w w' := by
  have hpn := ok.parts.out.1
  have hln := ok.pow.lev.out.1
  obtain ⟨b, off, ea, hlt, u7⟩ := cap_at ok h0 h1
  obtain ⟨d, o, el, hl2, q0, q1, i0, i1⟩ := rows_at2 ok.pow.lev j hj
  have icap : I64 (capP c x0) := (ok.part x0.toNat (by omega)).cap
  have bd := nR_bd hv.out h0 h1 hj
  have hr := hr.out
  rw [hr] at bd
  unfold nR at hr
  have g := (gl_of hv.out).sw
  obtain ⟨cap, hc⟩ : ∃ cap, capP c x0 = cap := ⟨_, rfl⟩
  obtain ⟨fq, hf⟩ : ∃ cap, c.w.lf j 0 = cap := ⟨_, rfl⟩
  rw [hc] at u7 icap hr
  rw [hf] at q0 i0 hr
  have EA := Lib.hid ea
  have EL := Lib.hid el
  have S : Hid (Nw w (w.alloc (.cells #[.slice c.pa c.pn c.pc, .slice c.ca c.cn c.cc, .slice c.ma c.mn c.mc, .slice c.w.la c.w.ln c.w.lc, .slice c.w.na c.w.nn c.w.nc, .int .i64 c.w.sw, .int .i64 c.w.id, .int .i64 c.w.ch, .int .i64 c.w.qu, .int .i64 c.w.sl, .int .i64 c.w.pp, .slice c.da c.dn c.dc, .slice c.ua c.un c.uc] 33)) c b off d o j x0 cap fq) := Lib.hid ⟨cs_in w c, hlt, hl2, u7, q0⟩
  have nb := md_bd 1000 cap fq true (fun _ _ _ => trivial)
  have CF := Lib.hid (fun w' (h : Hid (Nw w w' c b off d o j x0 cap fq)) => (mdr_any 1000 cap fq true w' (by omega) (by omega) icap.1 icap.2 i0.1 i0.2).mono (R' := fun e w'' => e = .returned (.tuple #[.int .i64 (md 1000 cap fq true).1, .int .i64 (md 1000 cap fq true).2]) ∧ Hid (Nw w w'' c b off d o j x0 cap fq)) fun e w2 hh => ⟨hh.1, Lib.hid ⟨cs_next h.out.S hh.2, h.out.hb, h.out.hd, h.out.cap, h.out.fq⟩⟩)
  obtain ⟨n1, hn1⟩ : ∃ x, (md 1000 cap fq true).1 = x := ⟨_, rfl⟩
  obtain ⟨n2, hn2⟩ : ∃ x, (md 1000 cap fq true).2 = x := ⟨_, rfl⟩
  rw [hn1] at hr nb CF
  rw [hn2] at CF nb
  subst hr
  clear hc ea u7 hn1 hn2 hf el q0 q1
  go_enter Tryz.func22, Tryz.ntmps22
  go_wp2_with fail
  generalize w.alloc (.cells #[.slice c.pa c.pn c.pc, .slice c.ca c.cn c.cc, .slice c.ma c.mn c.mc, .slice c.w.la c.w.ln c.w.lc, .slice c.w.na c.w.nn c.w.nc, .int .i64 c.w.sw, .int .i64 c.w.id, .int .i64 c.w.ch, .int .i64 c.w.qu, .int .i64 c.w.sl, .int .i64 c.w.pp, .slice c.da c.dn c.dc, .slice c.ua c.un c.uc] 33) = W at *
  have S : Hid (Nw w W.drew c b off d o j x0 cap fq) := Lib.hid ⟨cs_next S.out.S (Below.refl _ _).drew, S.out.hb, S.out.hd, S.out.cap, S.out.fq⟩
  refine cls_region (fun w' => Hid (Nw w w' c b off d o j x0 cap fq)) (by kernel_rfl) (by kernel_rfl) S ?_
  repeat
    (first
      | (refine Cls.cls_take (v := ?_) (by rfl) (fun w' hC => ?_) ?_
         rotate_left
         · (have r1 : ∀ i, w'.cell? ⟨w.heap.size, i, none⟩ = (#[.slice (some ⟨b, off, none⟩) c.pn c.pc, .slice c.ca c.cn c.cc, .slice c.ma c.mn c.mc, .slice (some ⟨d, o, none⟩) c.w.ln c.w.lc, .slice c.w.na c.w.nn c.w.nc, .int .i64 c.w.sw, .int .i64 c.w.id, .int .i64 c.w.ch, .int .i64 c.w.qu, .int .i64 c.w.sl, .int .i64 c.w.pp, .slice c.da c.dn c.dc, .slice c.ua c.un c.uc] : Array Value)[i]? := fun i => (hC.out.S.out.box.cell i).trans (by rw [EA.out, EL.out]); have r2 := keep hC.out.S.out.bel hC.out.cap hC.out.hb; have r3 := keep hC.out.S.out.bel hC.out.fq hC.out.hd
            (go_simp)
            try (first
              | done
              | (with_reducible rfl)
              | (exact CF.out _ hC))))
      | refine Cls.cls_skip (by rfl) ?_)
    try simp only [Act.put, List.setIfInBounds_toArray, List.set_cons_zero, List.set_cons_succ, List.getElem_toArray, List.getElem_cons_succ, List.getElem_cons_zero]
  refine wpQuiet_nil ?_
  clear S CF
  intro w6 S
  have r2 := S.out.S.out.box.cell
  go_wp2_with fail
  go_ret
  exact ⟨rfl, S.out.S.out.bel⟩
end Go.Proofs.YtlafeijkpnpdeaaGreat.Soi

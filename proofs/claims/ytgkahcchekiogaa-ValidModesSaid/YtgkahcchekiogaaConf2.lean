/- What a configuration's reading gives a walk: channels, modes, the whole. -/
import Derived.Test.YtgkahcchekiogaaConf
import Derived.Test.YtgkahcchekiogaaPart
namespace Go.Proofs.Ytgkahcchekiogaa.Conf2
open Go.ChangeShapes Go.WideShapes Go.ChangeAt Go.RowKit Go.Deep Base Go.Joins Kit Conf
set_option linter.unusedVariables false
set_option linter.unusedSimpArgs false

section
variable {H : Type} {enc : TypeId × Value → H} {w : World} {held : Bool}
theorem parts_in {fuel : Nat} {v : Value} {x : DataW H × List MemPlace} (h : DataW.trod enc Try.prog w 0 (fun _ => true) held fuel 52 [v] = some x) :
    ∃ (a : Option Addr) (n c : Nat) (p : Nat → PartC), v = .slice a n c ∧ RowsV w a n 11 (fun i j => (p i).vals.getD j undef) ∧ ∀ i, i < n → (p i).Ok w := by
  obtain ⟨a, n, c, el, e, _, _, hr, hel⟩ := rowsV_in Try.underlying52 (sz := 11) (by kernel_rfl) (by decide) h
  have each : ∀ i, i < n → ∃ q : PartC, el i = q.vals ∧ q.Ok w := fun i hi => by
    obtain ⟨_, m, y, hy⟩ := hel i hi
    exact part_in hy
  obtain ⟨q, hq⟩ := choose_lt' each
  exact ⟨a, n, c, q, by simpa using e, rowsV_congr hr fun i hi j hj => by rw [(hq i hi).1], fun i hi => (hq i hi).2⟩

/-- a channel's four numbers -/
theorem end_in {fuel : Nat} {cs : List Value} {x : DataW H × List MemPlace} (h : DataW.trod enc Try.prog w 0 (fun _ => true) held fuel 151 cs = some x) : ∃ (a b : Int), cs = [.int .i64 a, .int .i64 b] ∧ I64 a ∧ I64 b := by
  have hl := struct_len Try.underlying151 h
  rw [show Try.prog.cellsOf 151 = 2 from by kernel_rfl] at hl
  match cs, hl with
  | [v0, v1], _ =>
    obtain ⟨m0, y0, h0⟩ := struct_at Try.underlying151 h 0 rfl (o := 0) rfl rfl (k := 1) (by kernel_rfl)
    obtain ⟨m1, y1, h1⟩ := struct_at Try.underlying151 h 1 rfl (o := 1) rfl rfl (k := 1) (by kernel_rfl)
    simp only [List.drop, List.take] at h0 h1
    obtain ⟨a, rfl, r0⟩ := int_at Try.underlying3 h0
    obtain ⟨b, rfl, r1⟩ := int_at Try.underlying3 h1
    exact ⟨a, b, rfl, r0, r1⟩

theorem chan_in {fuel : Nat} {cs : List Value} {x : DataW H × List MemPlace} (h : DataW.trod enc Try.prog w 0 (fun _ => true) held fuel 153 cs = some x) : ∃ (f : Nat → Int), cs = [.int .i64 (f 0), .int .i64 (f 1), .int .i64 (f 2), .int .i64 (f 3)] ∧ ∀ j, I64 (f j) := by
  have hl := struct_len Try.underlying153 h
  rw [show Try.prog.cellsOf 153 = 4 from by kernel_rfl] at hl
  match cs, hl with
  | [v0, v1, v2, v3], _ =>
    obtain ⟨m0, y0, h0⟩ := struct_at Try.underlying153 h 0 rfl (o := 0) rfl rfl (k := 2) (by kernel_rfl)
    obtain ⟨m1, y1, h1⟩ := struct_at Try.underlying153 h 1 rfl (o := 2) rfl rfl (k := 2) (by kernel_rfl)
    simp only [List.drop, List.take] at h0 h1
    obtain ⟨a, b, e0, r0, r1⟩ := end_in h0
    obtain ⟨c, d, e1, r2, r3⟩ := end_in h1
    refine ⟨fun j => match j with | 0 => a | 1 => b | 2 => c | _ => d, ?_, fun j => ?_⟩
    · simp only [List.cons.injEq, and_true] at e0 e1
      obtain ⟨rfl, rfl⟩ := e0; obtain ⟨rfl, rfl⟩ := e1; rfl
    · match j with
      | 0 => exact r0
      | 1 => exact r1
      | 2 => exact r2
      | j + 3 => exact r3

theorem chans_in {fuel : Nat} {v : Value} {x : DataW H × List MemPlace} (h : DataW.trod enc Try.prog w 0 (fun _ => true) held fuel 53 [v] = some x) :
    ∃ (a : Option Addr) (n c : Nat) (f : Nat → Nat → Int), v = .slice a n c ∧ n ≤ c ∧ Open.RowsIn w a n 4 f := by
  obtain ⟨a, n, c, el, e, hcap, _, hr, hel⟩ := rowsV_in Try.underlying53 (sz := 4) (by kernel_rfl) (by decide) h
  have each : ∀ i, i < n → ∃ q : Nat → Int, el i = [.int .i64 (q 0), .int .i64 (q 1), .int .i64 (q 2), .int .i64 (q 3)] ∧ ∀ j, I64 (q j) := fun i hi => by
    obtain ⟨_, m, y, hy⟩ := hel i hi
    exact chan_in hy
  obtain ⟨q, hq⟩ := choose_lt each
  obtain ⟨hn, hr⟩ := hr
  refine ⟨a, n, c, q, by simpa using e, hcap, hn, ?_, fun i hi j _ => (hq i hi).2 j⟩
  rcases hr with h0 | ⟨b, off, e1, hlt, hc⟩
  · exact .inl h0
  · refine .inr ⟨b, off, e1, hlt, fun i hi j hj => ?_⟩
    rw [hc i hi j hj]
    show some ((el i).getD j undef) = _
    rw [(hq i hi).1]
    match j, hj with
    | 0, _ => rfl
    | 1, _ => rfl
    | 2, _ => rfl
    | 3, _ => rfl

/-- a mode: its frame, and its windows -/
structure ModeC where
  (fr : Int) (wa : Option Addr) (wn wc : Nat) (wf : Nat → Nat → Int)
def ModeC.vals (m : ModeC) : List Value := [.int .i64 m.fr, .slice m.wa m.wn m.wc]
instance : Nonempty ModeC := ⟨⟨0, none, 0, 0, fun _ _ => 0⟩⟩
structure ModeC.Ok (w : World) (m : ModeC) : Prop where
  fr : I64 m.fr
  win : Hid (Open.RowsIn w m.wa m.wn 3 m.wf)
theorem ModeC.Ok.below {w w1 : World} {B : Nat} {m : ModeC} (h : m.Ok w) (hb : Below B w w1) (hB : w.heap.size ≤ B) : m.Ok w1 := ⟨h.fr, Lib.hid (rows_below h.win.out hb hB)⟩
theorem mode_in {fuel : Nat} {cs : List Value} {x : DataW H × List MemPlace} (h : DataW.trod enc Try.prog w 0 (fun _ => true) held fuel 83 cs = some x) : ∃ m : ModeC, cs = m.vals ∧ m.Ok w := by
  have hl := struct_len Try.underlying83 h
  rw [show Try.prog.cellsOf 83 = 2 from by kernel_rfl] at hl
  match cs, hl with
  | [v0, v1], _ =>
    obtain ⟨m0, y0, h0⟩ := struct_at Try.underlying83 h 0 rfl (o := 0) rfl rfl (k := 1) (by kernel_rfl)
    obtain ⟨m1, y1, h1⟩ := struct_at Try.underlying83 h 1 rfl (o := 1) rfl rfl (k := 1) (by kernel_rfl)
    simp only [List.drop, List.take] at h0 h1
    obtain ⟨fr, rfl, rfr⟩ := int_at Try.underlying3 h0
    obtain ⟨wa, wn, wc, wf, rfl, r1⟩ := rows_at_ Try.underlying81 Try.underlying85 (by kernel_rfl) (by kernel_rfl) (by decide) (sz := 3) rfl h1
    exact ⟨⟨fr, wa, wn, wc, wf⟩, rfl, ⟨rfr, Lib.hid r1⟩⟩

theorem modes_in {fuel : Nat} {v : Value} {x : DataW H × List MemPlace} (h : DataW.trod enc Try.prog w 0 (fun _ => true) held fuel 54 [v] = some x) :
    ∃ (a : Option Addr) (n c : Nat) (m : Nat → ModeC), v = .slice a n c ∧ RowsV w a n 2 (fun i j => (m i).vals.getD j undef) ∧ ∀ i, i < n → (m i).Ok w := by
  obtain ⟨a, n, c, el, e, _, _, hr, hel⟩ := rowsV_in Try.underlying54 (sz := 2) (by kernel_rfl) (by decide) h
  have each : ∀ i, i < n → ∃ q : ModeC, el i = q.vals ∧ q.Ok w := fun i hi => by
    obtain ⟨_, m, y, hy⟩ := hel i hi
    exact mode_in hy
  obtain ⟨q, hq⟩ := choose_lt' each
  exact ⟨a, n, c, q, by simpa using e, rowsV_congr hr fun i hi j hj => by rw [(hq i hi).1], fun i hi => (hq i hi).2⟩

/-- a configuration -/
structure ConfC where
  (pa : Option Addr) (pn pc : Nat) (p : Nat → PartC)
  (ca : Option Addr) (cn cc : Nat) (cf : Nat → Nat → Int)
  (ma : Option Addr) (mn mc : Nat) (m : Nat → ModeC)
  (w : PowC)
  (da : Option Addr) (dn dc : Nat) (df : Nat → Int)
  (ua : Option Addr) (un uc : Nat) (uf : Nat → Int)
def ConfC.vals (c : ConfC) : List Value := [.slice c.pa c.pn c.pc, .slice c.ca c.cn c.cc, .slice c.ma c.mn c.mc, .slice c.w.la c.w.ln c.w.lc, .slice c.w.na c.w.nn c.w.nc, .int .i64 c.w.sw, .int .i64 c.w.id, .int .i64 c.w.ch, .int .i64 c.w.qu, .int .i64 c.w.sl, .int .i64 c.w.pp, .slice c.da c.dn c.dc, .slice c.ua c.un c.uc]
structure ConfC.Ok (w : World) (c : ConfC) : Prop where
  parts : Hid (RowsV w c.pa c.pn 11 (fun i j => (c.p i).vals.getD j undef))
  part : ∀ i, i < c.pn → (c.p i).Ok w
  chans : Hid (Open.RowsIn w c.ca c.cn 4 c.cf)
  modes : Hid (RowsV w c.ma c.mn 2 (fun i j => (c.m i).vals.getD j undef))
  mode : ∀ i, i < c.mn → (c.m i).Ok w
  pow : c.w.Ok w
  down : Hid (Open.RowsIn w c.da c.dn 1 (fun i _ => c.df i))
  up : Hid (Open.RowsIn w c.ua c.un 1 (fun i _ => c.uf i))
  cap : c.cn ≤ c.cc
theorem ConfC.Ok.below {w w1 : World} {B : Nat} {c : ConfC} (h : c.Ok w) (hb : Below B w w1) (hB : w.heap.size ≤ B) : c.Ok w1 :=
  ⟨Lib.hid (rowsV_below h.parts.out hb hB), fun i hi => (h.part i hi).below hb hB, Lib.hid (rows_below h.chans.out hb hB), Lib.hid (rowsV_below h.modes.out hb hB), fun i hi => (h.mode i hi).below hb hB, h.pow.below hb hB, Lib.hid (rows_below h.down.out hb hB), Lib.hid (rows_below h.up.out hb hB), h.cap⟩
theorem shed_in {fuel : Nat} {cs : List Value} {x : DataW H × List MemPlace} (h : DataW.trod enc Try.prog w 0 (fun _ => true) held fuel 57 cs = some x) : ∃ (a : Option Addr) (n c : Nat) (f : Nat → Int) (b : Option Addr) (m d : Nat) (g : Nat → Int), cs = [.slice a n c, .slice b m d] ∧ Open.RowsIn w a n 1 (fun i _ => f i) ∧ Open.RowsIn w b m 1 (fun i _ => g i) := by
  have hl := struct_len Try.underlying57 h
  rw [show Try.prog.cellsOf 57 = 2 from by kernel_rfl] at hl
  match cs, hl with
  | [v0, v1], _ =>
    obtain ⟨m0, y0, h0⟩ := struct_at Try.underlying57 h 0 rfl (o := 0) rfl rfl (k := 1) (by kernel_rfl)
    obtain ⟨m1, y1, h1⟩ := struct_at Try.underlying57 h 1 rfl (o := 1) rfl rfl (k := 1) (by kernel_rfl)
    simp only [List.drop, List.take] at h0 h1
    obtain ⟨da, dn, dc, df, rfl, rd⟩ := ints_at_ Try.underlying55 Try.underlying3 (by kernel_rfl) h0
    obtain ⟨ua, un, uc, uf, rfl, ru⟩ := ints_at_ Try.underlying55 Try.underlying3 (by kernel_rfl) h1
    exact ⟨da, dn, dc, df, ua, un, uc, uf, rfl, rd, ru⟩

theorem conf_in {fuel : Nat} {cs : List Value} {x : DataW H × List MemPlace} (h : DataW.trod enc Try.prog w 0 (fun _ => true) held fuel 59 cs = some x) : ∃ c : ConfC, cs = c.vals ∧ c.Ok w := by
  have hl := struct_len Try.underlying59 h
  rw [show Try.prog.cellsOf 59 = 13 from by kernel_rfl] at hl
  match cs, hl with
  | [v0, v1, v2, v3, v4, v5, v6, v7, v8, v9, v10, v11, v12], _ =>
    obtain ⟨m0, y0, h0⟩ := struct_at Try.underlying59 h 0 rfl (o := 0) rfl rfl (k := 1) (by kernel_rfl)
    obtain ⟨m1, y1, h1⟩ := struct_at Try.underlying59 h 1 rfl (o := 1) rfl rfl (k := 1) (by kernel_rfl)
    obtain ⟨m2, y2, h2⟩ := struct_at Try.underlying59 h 2 rfl (o := 2) rfl rfl (k := 1) (by kernel_rfl)
    obtain ⟨m3, y3, h3⟩ := struct_at Try.underlying59 h 3 rfl (o := 3) rfl rfl (k := 8) (by kernel_rfl)
    obtain ⟨m4, y4, h4⟩ := struct_at Try.underlying59 h 4 rfl (o := 11) rfl rfl (k := 2) (by kernel_rfl)
    simp only [List.drop, List.take] at h0 h1 h2 h3 h4
    obtain ⟨pa, pn, pc, p, rfl, r0, r1⟩ := parts_in h0
    obtain ⟨ca, cn, cc, cf, rfl, r8, r2⟩ := chans_in h1
    obtain ⟨ma, mn, mc, m, rfl, r3, r4⟩ := modes_in h2
    obtain ⟨pw, e, r5⟩ := pow_in h3
    obtain ⟨da, dn, dc, df, ua, un, uc, uf, e2, r6, r7⟩ := shed_in h4
    unfold PowC.vals at e
    simp only [List.cons.injEq, and_true] at e e2
    obtain ⟨rfl, rfl, rfl, rfl, rfl, rfl, rfl, rfl⟩ := e
    obtain ⟨rfl, rfl⟩ := e2
    exact ⟨⟨pa, pn, pc, p, ca, cn, cc, cf, ma, mn, mc, m, pw, da, dn, dc, df, ua, un, uc, uf⟩, rfl, ⟨Lib.hid r0, r1, Lib.hid r2, Lib.hid r3, r4, r5, Lib.hid r6, Lib.hid r7, r8⟩⟩
end
end Go.Proofs.Ytgkahcchekiogaa.Conf2

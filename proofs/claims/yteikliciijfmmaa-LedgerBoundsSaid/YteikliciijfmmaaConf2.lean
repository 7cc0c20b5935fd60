/- What a configuration's reading gives a walk: partitions, channels, modes, the whole. -/
import Derived.Test.YteikliciijfmmaaConf
namespace Go.Proofs.Yteikliciijfmmaa.Conf2
open Go.ChangeShapes Go.WideShapes Go.ChangeAt Go.RowKit Go.Deep Base Go.Joins Kit Conf
set_option linter.unusedVariables false
set_option linter.unusedSimpArgs false

/-- a partition's configuration -/
structure PartC where
  (ra : Option Addr) (rn rc : Nat) (rb rs : Nat → Int) (rw : Nat → Bool)
  (pa : Option Addr) (pn pc : Nat) (pf : Nat → Nat → Int)
  (oa : Option Addr) (on oc : Nat) (oq oi : Nat → Bool) (os od : Nat → Int)
  (sa : Option Addr) (sn sc : Nat) (sf : Nat → Nat → Int)
  (fl : Int)
  (qa : Option Addr) (qn qc : Nat) (qf : Nat → Nat → Int)
  (ta : Option Addr) (tn tc : Nat) (tf : Nat → Int)
  (cap bud lad : Int)
  (ca : Option Addr) (cn cc : Nat) (cf : Nat → Int)
def PartC.vals (p : PartC) : List Value := [.slice p.ra p.rn p.rc, .slice p.pa p.pn p.pc, .slice p.oa p.on p.oc, .slice p.sa p.sn p.sc, .int .i64 p.fl, .slice p.qa p.qn p.qc, .slice p.ta p.tn p.tc, .int .i64 p.cap, .int .i64 p.bud, .int .i64 p.lad, .slice p.ca p.cn p.cc]
def regV (b s : Nat → Int) (w : Nat → Bool) (i j : Nat) : Value := match j with | 0 => .int .i64 (b i) | 1 => .int .i64 (s i) | _ => .bool (w i)
def portV (q n : Nat → Bool) (s d : Nat → Int) (i j : Nat) : Value := match j with | 0 => .bool (q i) | 1 => .bool (n i) | 2 => .int .i64 (s i) | _ => .int .i64 (d i)
structure PartC.Ok (w : World) (p : PartC) : Prop where
  reg : Hid (RowsV w p.ra p.rn 3 (regV p.rb p.rs p.rw))
  regI : ∀ i, i < p.rn → I64 (p.rb i) ∧ I64 (p.rs i)
  proc : Hid (Open.RowsIn w p.pa p.pn 3 p.pf)
  port : Hid (RowsV w p.oa p.on 4 (portV p.oq p.oi p.os p.od))
  portI : ∀ i, i < p.on → I64 (p.os i) ∧ I64 (p.od i)
  sem : Hid (Open.RowsIn w p.sa p.sn 2 p.sf)
  fl : I64 p.fl
  pool : Hid (Open.RowsIn w p.qa p.qn 2 p.qf)
  slate : Hid (Open.RowsIn w p.ta p.tn 1 (fun i _ => p.tf i))
  cap : I64 p.cap
  bud : I64 p.bud
  lad : I64 p.lad
  act : Hid (Open.RowsIn w p.ca p.cn 1 (fun i _ => p.cf i))
theorem PartC.Ok.below {w w1 : World} {B : Nat} {p : PartC} (h : p.Ok w) (hb : Below B w w1) (hB : w.heap.size ≤ B) : p.Ok w1 :=
  ⟨Lib.hid (rowsV_below h.reg.out hb hB), h.regI, Lib.hid (rows_below h.proc.out hb hB), Lib.hid (rowsV_below h.port.out hb hB), h.portI, Lib.hid (rows_below h.sem.out hb hB), h.fl, Lib.hid (rows_below h.pool.out hb hB), Lib.hid (rows_below h.slate.out hb hB), h.cap, h.bud, h.lad, Lib.hid (rows_below h.act.out hb hB)⟩

theorem choose_lt' {α : Type} [Nonempty α] {n : Nat} {p : Nat → α → Prop} (h : ∀ i, i < n → ∃ x, p i x) : ∃ f : Nat → α, ∀ i, i < n → p i (f i) :=
  ⟨fun i => if hi : i < n then Classical.choose (h i hi) else Classical.choice inferInstance, fun i hi => by simp only [hi, dif_pos]; exact Classical.choose_spec (h i hi)⟩
instance : Nonempty PartC := ⟨⟨none, 0, 0, fun _ => 0, fun _ => 0, fun _ => false, none, 0, 0, fun _ _ => 0, none, 0, 0, fun _ => false, fun _ => false, fun _ => 0, fun _ => 0, none, 0, 0, fun _ _ => 0, 0, none, 0, 0, fun _ _ => 0, none, 0, 0, fun _ => 0, 0, 0, 0, none, 0, 0, fun _ => 0⟩⟩
section
variable {H : Type} {enc : TypeId × Value → H} {w : World} {held : Bool}

theorem reg_in {fuel : Nat} {cs : List Value} {x : DataW H × List MemPlace} (h : DataW.trod enc Try.prog w 0 (fun _ => true) held fuel 178 cs = some x) : ∃ (a b : Int) (c : Bool), cs = [.int .i64 a, .int .i64 b, .bool c] ∧ I64 a ∧ I64 b := by
  have hl := struct_len Try.underlying178 h
  rw [show Try.prog.cellsOf 178 = 3 from by kernel_rfl] at hl
  match cs, hl with
  | [v0, v1, v2], _ =>
    obtain ⟨m0, y0, h0⟩ := struct_at Try.underlying178 h 0 rfl (o := 0) rfl rfl (k := 1) (by kernel_rfl)
    obtain ⟨m1, y1, h1⟩ := struct_at Try.underlying178 h 1 rfl (o := 1) rfl rfl (k := 1) (by kernel_rfl)
    obtain ⟨m2, y2, h2⟩ := struct_at Try.underlying178 h 2 rfl (o := 2) rfl rfl (k := 1) (by kernel_rfl)
    simp only [List.drop, List.take] at h0 h1 h2
    obtain ⟨a, rfl, r0⟩ := int_at Try.underlying3 h0
    obtain ⟨b, rfl, r1⟩ := int_at Try.underlying3 h1
    obtain ⟨c, rfl⟩ := bool_at Try.underlying4 h2
    exact ⟨a, b, c, rfl, r0, r1⟩

theorem port_in {fuel : Nat} {cs : List Value} {x : DataW H × List MemPlace} (h : DataW.trod enc Try.prog w 0 (fun _ => true) held fuel 180 cs = some x) : ∃ (q n : Bool) (s d : Int), cs = [.bool q, .bool n, .int .i64 s, .int .i64 d] ∧ I64 s ∧ I64 d := by
  have hl := struct_len Try.underlying180 h
  rw [show Try.prog.cellsOf 180 = 4 from by kernel_rfl] at hl
  match cs, hl with
  | [v0, v1, v2, v3], _ =>
    obtain ⟨m0, y0, h0⟩ := struct_at Try.underlying180 h 0 rfl (o := 0) rfl rfl (k := 1) (by kernel_rfl)
    obtain ⟨m1, y1, h1⟩ := struct_at Try.underlying180 h 1 rfl (o := 1) rfl rfl (k := 1) (by kernel_rfl)
    obtain ⟨m2, y2, h2⟩ := struct_at Try.underlying180 h 2 rfl (o := 2) rfl rfl (k := 1) (by kernel_rfl)
    obtain ⟨m3, y3, h3⟩ := struct_at Try.underlying180 h 3 rfl (o := 3) rfl rfl (k := 1) (by kernel_rfl)
    simp only [List.drop, List.take] at h0 h1 h2 h3
    obtain ⟨q, rfl⟩ := bool_at Try.underlying4 h0
    obtain ⟨n, rfl⟩ := bool_at Try.underlying4 h1
    obtain ⟨s, rfl, r0⟩ := int_at Try.underlying3 h2
    obtain ⟨d, rfl, r1⟩ := int_at Try.underlying3 h3
    exact ⟨q, n, s, d, rfl, r0, r1⟩

theorem regs_in {fuel : Nat} {v : Value} {x : DataW H × List MemPlace} (h : DataW.trod enc Try.prog w 0 (fun _ => true) held fuel 51 [v] = some x) :
    ∃ (a : Option Addr) (n c : Nat) (b s : Nat → Int) (r : Nat → Bool), v = .slice a n c ∧ RowsV w a n 3 (regV b s r) ∧ ∀ i, i < n → I64 (b i) ∧ I64 (s i) := by
  obtain ⟨a, n, c, el, e, _, _, hr, hel⟩ := rowsV_in Try.underlying51 (sz := 3) (by kernel_rfl) (by decide) h
  have each : ∀ i, i < n → ∃ q : Int × Int × Bool, el i = [.int .i64 q.1, .int .i64 q.2.1, .bool q.2.2] ∧ I64 q.1 ∧ I64 q.2.1 := fun i hi => by
    obtain ⟨_, m, y, hy⟩ := hel i hi
    obtain ⟨b, s, r, e, r0, r1⟩ := reg_in hy
    exact ⟨(b, s, r), e, r0, r1⟩
  obtain ⟨q, hq⟩ := choose_lt each
  refine ⟨a, n, c, fun i => (q i).1, fun i => (q i).2.1, fun i => (q i).2.2, by simpa using e, rowsV_congr hr fun i hi j hj => ?_, fun i hi => (hq i hi).2⟩
  rw [(hq i hi).1]
  match j, hj with
  | 0, _ => rfl
  | 1, _ => rfl
  | 2, _ => rfl
theorem ports_in {fuel : Nat} {v : Value} {x : DataW H × List MemPlace} (h : DataW.trod enc Try.prog w 0 (fun _ => true) held fuel 53 [v] = some x) :
    ∃ (a : Option Addr) (n c : Nat) (q p : Nat → Bool) (s d : Nat → Int), v = .slice a n c ∧ RowsV w a n 4 (portV q p s d) ∧ ∀ i, i < n → I64 (s i) ∧ I64 (d i) := by
  obtain ⟨a, n, c, el, e, _, _, hr, hel⟩ := rowsV_in Try.underlying53 (sz := 4) (by kernel_rfl) (by decide) h
  have each : ∀ i, i < n → ∃ q : Bool × Bool × Int × Int, el i = [.bool q.1, .bool q.2.1, .int .i64 q.2.2.1, .int .i64 q.2.2.2] ∧ I64 q.2.2.1 ∧ I64 q.2.2.2 := fun i hi => by
    obtain ⟨_, m, y, hy⟩ := hel i hi
    obtain ⟨b, s, r, d, e, r0, r1⟩ := port_in hy
    exact ⟨(b, s, r, d), e, r0, r1⟩
  obtain ⟨q, hq⟩ := choose_lt each
  refine ⟨a, n, c, fun i => (q i).1, fun i => (q i).2.1, fun i => (q i).2.2.1, fun i => (q i).2.2.2, by simpa using e, rowsV_congr hr fun i hi j hj => ?_, fun i hi => (hq i hi).2⟩
  rw [(hq i hi).1]
  match j, hj with
  | 0, _ => rfl
  | 1, _ => rfl
  | 2, _ => rfl
  | 3, _ => rfl

theorem part_in {fuel : Nat} {cs : List Value} {x : DataW H × List MemPlace} (h : DataW.trod enc Try.prog w 0 (fun _ => true) held fuel 57 cs = some x) : ∃ p : PartC, cs = p.vals ∧ p.Ok w := by
  have hl := struct_len Try.underlying57 h
  rw [show Try.prog.cellsOf 57 = 11 from by kernel_rfl] at hl
  match cs, hl with
  | [v0, v1, v2, v3, v4, v5, v6, v7, v8, v9, v10], _ =>
    obtain ⟨m0, y0, h0⟩ := struct_at Try.underlying57 h 0 rfl (o := 0) rfl rfl (k := 1) (by kernel_rfl)
    obtain ⟨m1, y1, h1⟩ := struct_at Try.underlying57 h 1 rfl (o := 1) rfl rfl (k := 1) (by kernel_rfl)
    obtain ⟨m2, y2, h2⟩ := struct_at Try.underlying57 h 2 rfl (o := 2) rfl rfl (k := 1) (by kernel_rfl)
    obtain ⟨m3, y3, h3⟩ := struct_at Try.underlying57 h 3 rfl (o := 3) rfl rfl (k := 1) (by kernel_rfl)
    obtain ⟨m4, y4, h4⟩ := struct_at Try.underlying57 h 4 rfl (o := 4) rfl rfl (k := 1) (by kernel_rfl)
    obtain ⟨m5, y5, h5⟩ := struct_at Try.underlying57 h 5 rfl (o := 5) rfl rfl (k := 1) (by kernel_rfl)
    obtain ⟨m6, y6, h6⟩ := struct_at Try.underlying57 h 6 rfl (o := 6) rfl rfl (k := 1) (by kernel_rfl)
    obtain ⟨m7, y7, h7⟩ := struct_at Try.underlying57 h 7 rfl (o := 7) rfl rfl (k := 1) (by kernel_rfl)
    obtain ⟨m8, y8, h8⟩ := struct_at Try.underlying57 h 8 rfl (o := 8) rfl rfl (k := 1) (by kernel_rfl)
    obtain ⟨m9, y9, h9⟩ := struct_at Try.underlying57 h 9 rfl (o := 9) rfl rfl (k := 1) (by kernel_rfl)
    obtain ⟨m10, y10, h10⟩ := struct_at Try.underlying57 h 10 rfl (o := 10) rfl rfl (k := 1) (by kernel_rfl)
    simp only [List.drop, List.take] at h0 h1 h2 h3 h4 h5 h6 h7 h8 h9 h10
    obtain ⟨ra, rn, rc, rb, rs, rw, rfl, rr, rrI⟩ := regs_in h0
    obtain ⟨pa, pn, pc, pf, rfl, rp⟩ := rows_at_ Try.underlying52 Try.underlying131 (by kernel_rfl) (by kernel_rfl) (by decide) (sz := 3) rfl h1
    obtain ⟨oa, on, oc, oq, oi, os, od, rfl, ro, roI⟩ := ports_in h2
    obtain ⟨sa, sn, sc, sf, rfl, rs1⟩ := rows_at_ Try.underlying54 Try.underlying182 (by kernel_rfl) (by kernel_rfl) (by decide) (sz := 2) rfl h3
    obtain ⟨fl, rfl, rfl1⟩ := int_at Try.underlying3 h4
    obtain ⟨qa, qn, qc, qf, rfl, rq⟩ := rows_at_ Try.underlying55 Try.underlying184 (by kernel_rfl) (by kernel_rfl) (by decide) (sz := 2) rfl h5
    obtain ⟨ta, tn, tc, tf, rfl, rt⟩ := ints_at_ Try.underlying41 Try.underlying3 (by kernel_rfl) h6
    obtain ⟨cap, rfl, rcap⟩ := int_at Try.underlying3 h7
    obtain ⟨bud, rfl, rbud⟩ := int_at Try.underlying3 h8
    obtain ⟨lad, rfl, rlad⟩ := int_at Try.underlying3 h9
    obtain ⟨ca, cn, cc, cf, rfl, rc1⟩ := ints_at_ Try.underlying41 Try.underlying3 (by kernel_rfl) h10
    exact ⟨⟨ra, rn, rc, rb, rs, rw, pa, pn, pc, pf, oa, on, oc, oq, oi, os, od, sa, sn, sc, sf, fl, qa, qn, qc, qf, ta, tn, tc, tf, cap, bud, lad, ca, cn, cc, cf⟩, rfl, ⟨Lib.hid rr, rrI, Lib.hid rp, Lib.hid ro, roI, Lib.hid rs1, rfl1, Lib.hid rq, Lib.hid rt, rcap, rbud, rlad, Lib.hid rc1⟩⟩

theorem parts_in {fuel : Nat} {v : Value} {x : DataW H × List MemPlace} (h : DataW.trod enc Try.prog w 0 (fun _ => true) held fuel 38 [v] = some x) :
    ∃ (a : Option Addr) (n c : Nat) (p : Nat → PartC), v = .slice a n c ∧ RowsV w a n 11 (fun i j => (p i).vals.getD j undef) ∧ ∀ i, i < n → (p i).Ok w := by
  obtain ⟨a, n, c, el, e, _, _, hr, hel⟩ := rowsV_in Try.underlying38 (sz := 11) (by kernel_rfl) (by decide) h
  have each : ∀ i, i < n → ∃ q : PartC, el i = q.vals ∧ q.Ok w := fun i hi => by
    obtain ⟨_, m, y, hy⟩ := hel i hi
    exact part_in hy
  obtain ⟨q, hq⟩ := choose_lt' each
  exact ⟨a, n, c, q, by simpa using e, rowsV_congr hr fun i hi j hj => by rw [(hq i hi).1], fun i hi => (hq i hi).2⟩

/-- a channel's four numbers -/
theorem end_in {fuel : Nat} {cs : List Value} {x : DataW H × List MemPlace} (h : DataW.trod enc Try.prog w 0 (fun _ => true) held fuel 174 cs = some x) : ∃ (a b : Int), cs = [.int .i64 a, .int .i64 b] ∧ I64 a ∧ I64 b := by
  have hl := struct_len Try.underlying174 h
  rw [show Try.prog.cellsOf 174 = 2 from by kernel_rfl] at hl
  match cs, hl with
  | [v0, v1], _ =>
    obtain ⟨m0, y0, h0⟩ := struct_at Try.underlying174 h 0 rfl (o := 0) rfl rfl (k := 1) (by kernel_rfl)
    obtain ⟨m1, y1, h1⟩ := struct_at Try.underlying174 h 1 rfl (o := 1) rfl rfl (k := 1) (by kernel_rfl)
    simp only [List.drop, List.take] at h0 h1
    obtain ⟨a, rfl, r0⟩ := int_at Try.underlying3 h0
    obtain ⟨b, rfl, r1⟩ := int_at Try.underlying3 h1
    exact ⟨a, b, rfl, r0, r1⟩

theorem chan_in {fuel : Nat} {cs : List Value} {x : DataW H × List MemPlace} (h : DataW.trod enc Try.prog w 0 (fun _ => true) held fuel 176 cs = some x) : ∃ (f : Nat → Int), cs = [.int .i64 (f 0), .int .i64 (f 1), .int .i64 (f 2), .int .i64 (f 3)] ∧ ∀ j, I64 (f j) := by
  have hl := struct_len Try.underlying176 h
  rw [show Try.prog.cellsOf 176 = 4 from by kernel_rfl] at hl
  match cs, hl with
  | [v0, v1, v2, v3], _ =>
    obtain ⟨m0, y0, h0⟩ := struct_at Try.underlying176 h 0 rfl (o := 0) rfl rfl (k := 2) (by kernel_rfl)
    obtain ⟨m1, y1, h1⟩ := struct_at Try.underlying176 h 1 rfl (o := 2) rfl rfl (k := 2) (by kernel_rfl)
    simp only [List.drop, List.take] at h0 h1
    obtain ⟨a, b, e0, r0, r1⟩ := end_in h0
    obtain ⟨c, d, e1, r2, r3⟩ := end_in h1
    refine ⟨fun j => match j with | 0 => a | 1 => b | 2 => c | _ => d, ?_, fun j => ?_⟩
    · simp only [List.cons.injEq, and_true] at e0 e1
      obtain ⟨rfl, rfl⟩ := e0; obtain ⟨rfl, rfl⟩ := e1; rfl
    · match j with
      | 0 => exact r0
      | 1 => exact r1
      | 2 => exact r2
      | j + 3 => exact r3

theorem chans_in {fuel : Nat} {v : Value} {x : DataW H × List MemPlace} (h : DataW.trod enc Try.prog w 0 (fun _ => true) held fuel 39 [v] = some x) :
    ∃ (a : Option Addr) (n c : Nat) (f : Nat → Nat → Int), v = .slice a n c ∧ Open.RowsIn w a n 4 f := by
  obtain ⟨a, n, c, el, e, _, _, hr, hel⟩ := rowsV_in Try.underlying39 (sz := 4) (by kernel_rfl) (by decide) h
  have each : ∀ i, i < n → ∃ q : Nat → Int, el i = [.int .i64 (q 0), .int .i64 (q 1), .int .i64 (q 2), .int .i64 (q 3)] ∧ ∀ j, I64 (q j) := fun i hi => by
    obtain ⟨_, m, y, hy⟩ := hel i hi
    exact chan_in hy
  obtain ⟨q, hq⟩ := choose_lt each
  obtain ⟨hn, hr⟩ := hr
  refine ⟨a, n, c, q, by simpa using e, hn, ?_, fun i hi j _ => (hq i hi).2 j⟩
  rcases hr with h0 | ⟨b, off, e1, hlt, hc⟩
  · exact .inl h0
  · refine .inr ⟨b, off, e1, hlt, fun i hi j hj => ?_⟩
    rw [hc i hi j hj]
    show some ((el i).getD j undef) = _
    rw [(hq i hi).1]
    match j, hj with
    | 0, _ => rfl
    | 1, _ => rfl
    | 2, _ => rfl
    | 3, _ => rfl

/-- a mode: its frame, and its windows -/
structure ModeC where
  (fr : Int) (wa : Option Addr) (wn wc : Nat) (wf : Nat → Nat → Int)
def ModeC.vals (m : ModeC) : List Value := [.int .i64 m.fr, .slice m.wa m.wn m.wc]
instance : Nonempty ModeC := ⟨⟨0, none, 0, 0, fun _ _ => 0⟩⟩
structure ModeC.Ok (w : World) (m : ModeC) : Prop where
  fr : I64 m.fr
  win : Hid (Open.RowsIn w m.wa m.wn 3 m.wf)
theorem ModeC.Ok.below {w w1 : World} {B : Nat} {m : ModeC} (h : m.Ok w) (hb : Below B w w1) (hB : w.heap.size ≤ B) : m.Ok w1 := ⟨h.fr, Lib.hid (rows_below h.win.out hb hB)⟩
theorem mode_in {fuel : Nat} {cs : List Value} {x : DataW H × List MemPlace} (h : DataW.trod enc Try.prog w 0 (fun _ => true) held fuel 118 cs = some x) : ∃ m : ModeC, cs = m.vals ∧ m.Ok w := by
  have hl := struct_len Try.underlying118 h
  rw [show Try.prog.cellsOf 118 = 2 from by kernel_rfl] at hl
  match cs, hl with
  | [v0, v1], _ =>
    obtain ⟨m0, y0, h0⟩ := struct_at Try.underlying118 h 0 rfl (o := 0) rfl rfl (k := 1) (by kernel_rfl)
    obtain ⟨m1, y1, h1⟩ := struct_at Try.underlying118 h 1 rfl (o := 1) rfl rfl (k := 1) (by kernel_rfl)
    simp only [List.drop, List.take] at h0 h1
    obtain ⟨fr, rfl, rfr⟩ := int_at Try.underlying3 h0
    obtain ⟨wa, wn, wc, wf, rfl, r1⟩ := rows_at_ Try.underlying116 Try.underlying134 (by kernel_rfl) (by kernel_rfl) (by decide) (sz := 3) rfl h1
    exact ⟨⟨fr, wa, wn, wc, wf⟩, rfl, ⟨rfr, Lib.hid r1⟩⟩

theorem modes_in {fuel : Nat} {v : Value} {x : DataW H × List MemPlace} (h : DataW.trod enc Try.prog w 0 (fun _ => true) held fuel 40 [v] = some x) :
    ∃ (a : Option Addr) (n c : Nat) (m : Nat → ModeC), v = .slice a n c ∧ RowsV w a n 2 (fun i j => (m i).vals.getD j undef) ∧ ∀ i, i < n → (m i).Ok w := by
  obtain ⟨a, n, c, el, e, _, _, hr, hel⟩ := rowsV_in Try.underlying40 (sz := 2) (by kernel_rfl) (by decide) h
  have each : ∀ i, i < n → ∃ q : ModeC, el i = q.vals ∧ q.Ok w := fun i hi => by
    obtain ⟨_, m, y, hy⟩ := hel i hi
    exact mode_in hy
  obtain ⟨q, hq⟩ := choose_lt' each
  exact ⟨a, n, c, q, by simpa using e, rowsV_congr hr fun i hi j hj => by rw [(hq i hi).1], fun i hi => (hq i hi).2⟩

/-- a configuration -/
structure ConfC where
  (pa : Option Addr) (pn pc : Nat) (p : Nat → PartC)
  (ca : Option Addr) (cn cc : Nat) (cf : Nat → Nat → Int)
  (ma : Option Addr) (mn mc : Nat) (m : Nat → ModeC)
  (w : PowC)
  (da : Option Addr) (dn dc : Nat) (df : Nat → Int)
  (ua : Option Addr) (un uc : Nat) (uf : Nat → Int)
def ConfC.vals (c : ConfC) : List Value := [.slice c.pa c.pn c.pc, .slice c.ca c.cn c.cc, .slice c.ma c.mn c.mc, .slice c.w.la c.w.ln c.w.lc, .slice c.w.na c.w.nn c.w.nc, .int .i64 c.w.sw, .int .i64 c.w.id, .int .i64 c.w.ch, .int .i64 c.w.qu, .int .i64 c.w.sl, .int .i64 c.w.pp, .slice c.da c.dn c.dc, .slice c.ua c.un c.uc]
structure ConfC.Ok (w : World) (c : ConfC) : Prop where
  parts : Hid (RowsV w c.pa c.pn 11 (fun i j => (c.p i).vals.getD j undef))
  part : ∀ i, i < c.pn → (c.p i).Ok w
  chans : Hid (Open.RowsIn w c.ca c.cn 4 c.cf)
  modes : Hid (RowsV w c.ma c.mn 2 (fun i j => (c.m i).vals.getD j undef))
  mode : ∀ i, i < c.mn → (c.m i).Ok w
  pow : c.w.Ok w
  down : Hid (Open.RowsIn w c.da c.dn 1 (fun i _ => c.df i))
  up : Hid (Open.RowsIn w c.ua c.un 1 (fun i _ => c.uf i))
theorem ConfC.Ok.below {w w1 : World} {B : Nat} {c : ConfC} (h : c.Ok w) (hb : Below B w w1) (hB : w.heap.size ≤ B) : c.Ok w1 :=
  ⟨Lib.hid (rowsV_below h.parts.out hb hB), fun i hi => (h.part i hi).below hb hB, Lib.hid (rows_below h.chans.out hb hB), Lib.hid (rowsV_below h.modes.out hb hB), fun i hi => (h.mode i hi).below hb hB, h.pow.below hb hB, Lib.hid (rows_below h.down.out hb hB), Lib.hid (rows_below h.up.out hb hB)⟩
theorem shed_in {fuel : Nat} {cs : List Value} {x : DataW H × List MemPlace} (h : DataW.trod enc Try.prog w 0 (fun _ => true) held fuel 43 cs = some x) : ∃ (a : Option Addr) (n c : Nat) (f : Nat → Int) (b : Option Addr) (m d : Nat) (g : Nat → Int), cs = [.slice a n c, .slice b m d] ∧ Open.RowsIn w a n 1 (fun i _ => f i) ∧ Open.RowsIn w b m 1 (fun i _ => g i) := by
  have hl := struct_len Try.underlying43 h
  rw [show Try.prog.cellsOf 43 = 2 from by kernel_rfl] at hl
  match cs, hl with
  | [v0, v1], _ =>
    obtain ⟨m0, y0, h0⟩ := struct_at Try.underlying43 h 0 rfl (o := 0) rfl rfl (k := 1) (by kernel_rfl)
    obtain ⟨m1, y1, h1⟩ := struct_at Try.underlying43 h 1 rfl (o := 1) rfl rfl (k := 1) (by kernel_rfl)
    simp only [List.drop, List.take] at h0 h1
    obtain ⟨da, dn, dc, df, rfl, rd⟩ := ints_at_ Try.underlying41 Try.underlying3 (by kernel_rfl) h0
    obtain ⟨ua, un, uc, uf, rfl, ru⟩ := ints_at_ Try.underlying41 Try.underlying3 (by kernel_rfl) h1
    exact ⟨da, dn, dc, df, ua, un, uc, uf, rfl, rd, ru⟩

theorem conf_in {fuel : Nat} {cs : List Value} {x : DataW H × List MemPlace} (h : DataW.trod enc Try.prog w 0 (fun _ => true) held fuel 45 cs = some x) : ∃ c : ConfC, cs = c.vals ∧ c.Ok w := by
  have hl := struct_len Try.underlying45 h
  rw [show Try.prog.cellsOf 45 = 13 from by kernel_rfl] at hl
  match cs, hl with
  | [v0, v1, v2, v3, v4, v5, v6, v7, v8, v9, v10, v11, v12], _ =>
    obtain ⟨m0, y0, h0⟩ := struct_at Try.underlying45 h 0 rfl (o := 0) rfl rfl (k := 1) (by kernel_rfl)
    obtain ⟨m1, y1, h1⟩ := struct_at Try.underlying45 h 1 rfl (o := 1) rfl rfl (k := 1) (by kernel_rfl)
    obtain ⟨m2, y2, h2⟩ := struct_at Try.underlying45 h 2 rfl (o := 2) rfl rfl (k := 1) (by kernel_rfl)
    obtain ⟨m3, y3, h3⟩ := struct_at Try.underlying45 h 3 rfl (o := 3) rfl rfl (k := 8) (by kernel_rfl)
    obtain ⟨m4, y4, h4⟩ := struct_at Try.underlying45 h 4 rfl (o := 11) rfl rfl (k := 2) (by kernel_rfl)
    simp only [List.drop, List.take] at h0 h1 h2 h3 h4
    obtain ⟨pa, pn, pc, p, rfl, r0, r1⟩ := parts_in h0
    obtain ⟨ca, cn, cc, cf, rfl, r2⟩ := chans_in h1
    obtain ⟨ma, mn, mc, m, rfl, r3, r4⟩ := modes_in h2
    obtain ⟨pw, e, r5⟩ := pow_in h3
    obtain ⟨da, dn, dc, df, ua, un, uc, uf, e2, r6, r7⟩ := shed_in h4
    unfold PowC.vals at e
    simp only [List.cons.injEq, and_true] at e e2
    obtain ⟨rfl, rfl, rfl, rfl, rfl, rfl, rfl, rfl⟩ := e
    obtain ⟨rfl, rfl⟩ := e2
    exact ⟨⟨pa, pn, pc, p, ca, cn, cc, cf, ma, mn, mc, m, pw, da, dn, dc, df, ua, un, uc, uf⟩, rfl, ⟨Lib.hid r0, r1, Lib.hid r2, Lib.hid r3, r4, r5, Lib.hid r6, Lib.hid r7⟩⟩
end
end Go.Proofs.Yteikliciijfmmaa.Conf2

/- What a partition's reading gives a walk. -/
import Derived.Test.YtgkahcchekiogaaProg
import Derived.Test.YtgkahcchekiogaaConfG
namespace Go.Proofs.Ytgkahcchekiogaa.Conf2
open Go.ChangeShapes Go.WideShapes Go.ChangeAt Go.RowKit Go.Deep Base Go.Joins Kit Conf
set_option linter.unusedVariables false
set_option linter.unusedSimpArgs false

/-- a partition's configuration -/
structure PartC where
  (ra : Option Addr) (rn rc : Nat) (rb rs : Nat → Int) (rw : Nat → Bool)
  (pa : Option Addr) (pn pc : Nat) (pf : Nat → Nat → Int)
  (oa : Option Addr) (on oc : Nat) (oq oi : Nat → Bool) (os od : Nat → Int)
  (sa : Option Addr) (sn sc : Nat) (sf : Nat → Nat → Int)
  (fl : Int)
  (qa : Option Addr) (qn qc : Nat) (qf : Nat → Nat → Int)
  (ta : Option Addr) (tn tc : Nat) (tf : Nat → Int)
  (cap bud lad : Int)
  (ca : Option Addr) (cn cc : Nat) (cf : Nat → Int)
def PartC.vals (p : PartC) : List Value := [.slice p.ra p.rn p.rc, .slice p.pa p.pn p.pc, .slice p.oa p.on p.oc, .slice p.sa p.sn p.sc, .int .i64 p.fl, .slice p.qa p.qn p.qc, .slice p.ta p.tn p.tc, .int .i64 p.cap, .int .i64 p.bud, .int .i64 p.lad, .slice p.ca p.cn p.cc]
def regV (b s : Nat → Int) (w : Nat → Bool) (i j : Nat) : Value := match j with | 0 => .int .i64 (b i) | 1 => .int .i64 (s i) | _ => .bool (w i)
def portV (q n : Nat → Bool) (s d : Nat → Int) (i j : Nat) : Value := match j with | 0 => .bool (q i) | 1 => .bool (n i) | 2 => .int .i64 (s i) | _ => .int .i64 (d i)
structure PartC.Ok (w : World) (p : PartC) : Prop where
  reg : Hid (RowsV w p.ra p.rn 3 (regV p.rb p.rs p.rw))
  regI : ∀ i, i < p.rn → I64 (p.rb i) ∧ I64 (p.rs i)
  proc : Hid (Open.RowsIn w p.pa p.pn 3 p.pf)
  port : Hid (RowsV w p.oa p.on 4 (portV p.oq p.oi p.os p.od))
  portI : ∀ i, i < p.on → I64 (p.os i) ∧ I64 (p.od i)
  sem : Hid (Open.RowsIn w p.sa p.sn 2 p.sf)
  fl : I64 p.fl
  pool : Hid (Open.RowsIn w p.qa p.qn 2 p.qf)
  slate : Hid (Open.RowsIn w p.ta p.tn 1 (fun i _ => p.tf i))
  cap : I64 p.cap
  bud : I64 p.bud
  lad : I64 p.lad
  act : Hid (Open.RowsIn w p.ca p.cn 1 (fun i _ => p.cf i))
theorem PartC.Ok.below {w w1 : World} {B : Nat} {p : PartC} (h : p.Ok w) (hb : Below B w w1) (hB : w.heap.size ≤ B) : p.Ok w1 :=
  ⟨Lib.hid (rowsV_below h.reg.out hb hB), h.regI, Lib.hid (rows_below h.proc.out hb hB), Lib.hid (rowsV_below h.port.out hb hB), h.portI, Lib.hid (rows_below h.sem.out hb hB), h.fl, Lib.hid (rows_below h.pool.out hb hB), Lib.hid (rows_below h.slate.out hb hB), h.cap, h.bud, h.lad, Lib.hid (rows_below h.act.out hb hB)⟩

theorem choose_lt' {α : Type} [Nonempty α] {n : Nat} {p : Nat → α → Prop} (h : ∀ i, i < n → ∃ x, p i x) : ∃ f : Nat → α, ∀ i, i < n → p i (f i) :=
  ⟨fun i => if hi : i < n then Classical.choose (h i hi) else Classical.choice inferInstance, fun i hi => by simp only [hi, dif_pos]; exact Classical.choose_spec (h i hi)⟩
instance : Nonempty PartC := ⟨⟨none, 0, 0, fun _ => 0, fun _ => 0, fun _ => false, none, 0, 0, fun _ _ => 0, none, 0, 0, fun _ => false, fun _ => false, fun _ => 0, fun _ => 0, none, 0, 0, fun _ _ => 0, 0, none, 0, 0, fun _ _ => 0, none, 0, 0, fun _ => 0, 0, 0, 0, none, 0, 0, fun _ => 0⟩⟩
section
variable {H : Type} {enc : TypeId × Value → H} {w : World} {held : Bool}

theorem reg_in {fuel : Nat} {cs : List Value} {x : DataW H × List MemPlace} (h : DataW.trod enc Try.prog w 0 (fun _ => true) held fuel 145 cs = some x) : ∃ (a b : Int) (c : Bool), cs = [.int .i64 a, .int .i64 b, .bool c] ∧ I64 a ∧ I64 b := by
  have hl := struct_len Try.underlying145 h
  rw [show Try.prog.cellsOf 145 = 3 from by kernel_rfl] at hl
  match cs, hl with
  | [v0, v1, v2], _ =>
    obtain ⟨m0, y0, h0⟩ := struct_at Try.underlying145 h 0 rfl (o := 0) rfl rfl (k := 1) (by kernel_rfl)
    obtain ⟨m1, y1, h1⟩ := struct_at Try.underlying145 h 1 rfl (o := 1) rfl rfl (k := 1) (by kernel_rfl)
    obtain ⟨m2, y2, h2⟩ := struct_at Try.underlying145 h 2 rfl (o := 2) rfl rfl (k := 1) (by kernel_rfl)
    simp only [List.drop, List.take] at h0 h1 h2
    obtain ⟨a, rfl, r0⟩ := int_at Try.underlying3 h0
    obtain ⟨b, rfl, r1⟩ := int_at Try.underlying3 h1
    obtain ⟨c, rfl⟩ := bool_at Try.underlying4 h2
    exact ⟨a, b, c, rfl, r0, r1⟩

theorem port_in {fuel : Nat} {cs : List Value} {x : DataW H × List MemPlace} (h : DataW.trod enc Try.prog w 0 (fun _ => true) held fuel 140 cs = some x) : ∃ (q n : Bool) (s d : Int), cs = [.bool q, .bool n, .int .i64 s, .int .i64 d] ∧ I64 s ∧ I64 d := by
  have hl := struct_len Try.underlying140 h
  rw [show Try.prog.cellsOf 140 = 4 from by kernel_rfl] at hl
  match cs, hl with
  | [v0, v1, v2, v3], _ =>
    obtain ⟨m0, y0, h0⟩ := struct_at Try.underlying140 h 0 rfl (o := 0) rfl rfl (k := 1) (by kernel_rfl)
    obtain ⟨m1, y1, h1⟩ := struct_at Try.underlying140 h 1 rfl (o := 1) rfl rfl (k := 1) (by kernel_rfl)
    obtain ⟨m2, y2, h2⟩ := struct_at Try.underlying140 h 2 rfl (o := 2) rfl rfl (k := 1) (by kernel_rfl)
    obtain ⟨m3, y3, h3⟩ := struct_at Try.underlying140 h 3 rfl (o := 3) rfl rfl (k := 1) (by kernel_rfl)
    simp only [List.drop, List.take] at h0 h1 h2 h3
    obtain ⟨q, rfl⟩ := bool_at Try.underlying4 h0
    obtain ⟨n, rfl⟩ := bool_at Try.underlying4 h1
    obtain ⟨s, rfl, r0⟩ := int_at Try.underlying3 h2
    obtain ⟨d, rfl, r1⟩ := int_at Try.underlying3 h3
    exact ⟨q, n, s, d, rfl, r0, r1⟩

theorem regs_in {fuel : Nat} {v : Value} {x : DataW H × List MemPlace} (h : DataW.trod enc Try.prog w 0 (fun _ => true) held fuel 66 [v] = some x) :
    ∃ (a : Option Addr) (n c : Nat) (b s : Nat → Int) (r : Nat → Bool), v = .slice a n c ∧ RowsV w a n 3 (regV b s r) ∧ ∀ i, i < n → I64 (b i) ∧ I64 (s i) := by
  obtain ⟨a, n, c, el, e, _, _, hr, hel⟩ := rowsV_in Try.underlying66 (sz := 3) (by kernel_rfl) (by decide) h
  have each : ∀ i, i < n → ∃ q : Int × Int × Bool, el i = [.int .i64 q.1, .int .i64 q.2.1, .bool q.2.2] ∧ I64 q.1 ∧ I64 q.2.1 := fun i hi => by
    obtain ⟨_, m, y, hy⟩ := hel i hi
    obtain ⟨b, s, r, e, r0, r1⟩ := reg_in hy
    exact ⟨(b, s, r), e, r0, r1⟩
  obtain ⟨q, hq⟩ := choose_lt each
  refine ⟨a, n, c, fun i => (q i).1, fun i => (q i).2.1, fun i => (q i).2.2, by simpa using e, rowsV_congr hr fun i hi j hj => ?_, fun i hi => (hq i hi).2⟩
  rw [(hq i hi).1]
  match j, hj with
  | 0, _ => rfl
  | 1, _ => rfl
  | 2, _ => rfl
theorem ports_in {fuel : Nat} {v : Value} {x : DataW H × List MemPlace} (h : DataW.trod enc Try.prog w 0 (fun _ => true) held fuel 68 [v] = some x) :
    ∃ (a : Option Addr) (n c : Nat) (q p : Nat → Bool) (s d : Nat → Int), v = .slice a n c ∧ RowsV w a n 4 (portV q p s d) ∧ ∀ i, i < n → I64 (s i) ∧ I64 (d i) := by
  obtain ⟨a, n, c, el, e, _, _, hr, hel⟩ := rowsV_in Try.underlying68 (sz := 4) (by kernel_rfl) (by decide) h
  have each : ∀ i, i < n → ∃ q : Bool × Bool × Int × Int, el i = [.bool q.1, .bool q.2.1, .int .i64 q.2.2.1, .int .i64 q.2.2.2] ∧ I64 q.2.2.1 ∧ I64 q.2.2.2 := fun i hi => by
    obtain ⟨_, m, y, hy⟩ := hel i hi
    obtain ⟨b, s, r, d, e, r0, r1⟩ := port_in hy
    exact ⟨(b, s, r, d), e, r0, r1⟩
  obtain ⟨q, hq⟩ := choose_lt each
  refine ⟨a, n, c, fun i => (q i).1, fun i => (q i).2.1, fun i => (q i).2.2.1, fun i => (q i).2.2.2, by simpa using e, rowsV_congr hr fun i hi j hj => ?_, fun i hi => (hq i hi).2⟩
  rw [(hq i hi).1]
  match j, hj with
  | 0, _ => rfl
  | 1, _ => rfl
  | 2, _ => rfl
  | 3, _ => rfl

theorem part_in {fuel : Nat} {cs : List Value} {x : DataW H × List MemPlace} (h : DataW.trod enc Try.prog w 0 (fun _ => true) held fuel 72 cs = some x) : ∃ p : PartC, cs = p.vals ∧ p.Ok w := by
  have hl := struct_len Try.underlying72 h
  rw [show Try.prog.cellsOf 72 = 11 from by kernel_rfl] at hl
  match cs, hl with
  | [v0, v1, v2, v3, v4, v5, v6, v7, v8, v9, v10], _ =>
    obtain ⟨m0, y0, h0⟩ := struct_at Try.underlying72 h 0 rfl (o := 0) rfl rfl (k := 1) (by kernel_rfl)
    obtain ⟨m1, y1, h1⟩ := struct_at Try.underlying72 h 1 rfl (o := 1) rfl rfl (k := 1) (by kernel_rfl)
    obtain ⟨m2, y2, h2⟩ := struct_at Try.underlying72 h 2 rfl (o := 2) rfl rfl (k := 1) (by kernel_rfl)
    obtain ⟨m3, y3, h3⟩ := struct_at Try.underlying72 h 3 rfl (o := 3) rfl rfl (k := 1) (by kernel_rfl)
    obtain ⟨m4, y4, h4⟩ := struct_at Try.underlying72 h 4 rfl (o := 4) rfl rfl (k := 1) (by kernel_rfl)
    obtain ⟨m5, y5, h5⟩ := struct_at Try.underlying72 h 5 rfl (o := 5) rfl rfl (k := 1) (by kernel_rfl)
    obtain ⟨m6, y6, h6⟩ := struct_at Try.underlying72 h 6 rfl (o := 6) rfl rfl (k := 1) (by kernel_rfl)
    obtain ⟨m7, y7, h7⟩ := struct_at Try.underlying72 h 7 rfl (o := 7) rfl rfl (k := 1) (by kernel_rfl)
    obtain ⟨m8, y8, h8⟩ := struct_at Try.underlying72 h 8 rfl (o := 8) rfl rfl (k := 1) (by kernel_rfl)
    obtain ⟨m9, y9, h9⟩ := struct_at Try.underlying72 h 9 rfl (o := 9) rfl rfl (k := 1) (by kernel_rfl)
    obtain ⟨m10, y10, h10⟩ := struct_at Try.underlying72 h 10 rfl (o := 10) rfl rfl (k := 1) (by kernel_rfl)
    simp only [List.drop, List.take] at h0 h1 h2 h3 h4 h5 h6 h7 h8 h9 h10
    obtain ⟨ra, rn, rc, rb, rs, rw, rfl, rr, rrI⟩ := regs_in h0
    obtain ⟨pa, pn, pc, pf, rfl, rp⟩ := rows_at_ Try.underlying67 Try.underlying102 (by kernel_rfl) (by kernel_rfl) (by decide) (sz := 3) rfl h1
    obtain ⟨oa, on, oc, oq, oi, os, od, rfl, ro, roI⟩ := ports_in h2
    obtain ⟨sa, sn, sc, sf, rfl, rs1⟩ := rows_at_ Try.underlying69 Try.underlying201 (by kernel_rfl) (by kernel_rfl) (by decide) (sz := 2) rfl h3
    obtain ⟨fl, rfl, rfl1⟩ := int_at Try.underlying3 h4
    obtain ⟨qa, qn, qc, qf, rfl, rq⟩ := rows_at_ Try.underlying70 Try.underlying204 (by kernel_rfl) (by kernel_rfl) (by decide) (sz := 2) rfl h5
    obtain ⟨ta, tn, tc, tf, rfl, rt⟩ := ints_at_ Try.underlying55 Try.underlying3 (by kernel_rfl) h6
    obtain ⟨cap, rfl, rcap⟩ := int_at Try.underlying3 h7
    obtain ⟨bud, rfl, rbud⟩ := int_at Try.underlying3 h8
    obtain ⟨lad, rfl, rlad⟩ := int_at Try.underlying3 h9
    obtain ⟨ca, cn, cc, cf, rfl, rc1⟩ := ints_at_ Try.underlying55 Try.underlying3 (by kernel_rfl) h10
    exact ⟨⟨ra, rn, rc, rb, rs, rw, pa, pn, pc, pf, oa, on, oc, oq, oi, os, od, sa, sn, sc, sf, fl, qa, qn, qc, qf, ta, tn, tc, tf, cap, bud, lad, ca, cn, cc, cf⟩, rfl, ⟨Lib.hid rr, rrI, Lib.hid rp, Lib.hid ro, roI, Lib.hid rs1, rfl1, Lib.hid rq, Lib.hid rt, rcap, rbud, rlad, Lib.hid rc1⟩⟩
end
end Go.Proofs.Ytgkahcchekiogaa.Conf2

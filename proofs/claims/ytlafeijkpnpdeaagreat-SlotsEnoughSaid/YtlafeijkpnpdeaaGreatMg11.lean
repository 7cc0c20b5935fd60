import Derived.Test.YtlafeijkpnpdeaaGreatProg
import Derived.Test.YtlafeijkpnpdeaaGreatMg9

/- What reading gives a walk: rows, structs, arrays. -/
namespace Go.Proofs.YtlafeijkpnpdeaaGreat.Conf
open Go.ChangeShapes Go.WideShapes Go.ChangeAt Go.RowKit Go.Deep Base Go.Joins Kit
set_option linter.unusedVariables false
set_option linter.unusedSimpArgs false

/-- a slice of rows of sz values each -/
def RowsV (w : World) (a : Option Addr) (n sz : Nat) (val : Nat → Nat → Value) : Prop :=
  n ≤ 9223372036854775807 ∧ (n = 0 ∨ ∃ b off, a = some ⟨b, off, none⟩ ∧ b < w.heap.size ∧ ∀ i, i < n → ∀ j, j < sz → w.cell? ⟨b, off + (i * sz + j), none⟩ = some (val i j))
theorem rowsV_below {w w1 : World} {B : Nat} {a : Option Addr} {n sz : Nat} {f : Nat → Nat → Value} (h : RowsV w a n sz f) (hb : Below B w w1) (hB : w.heap.size ≤ B) : RowsV w1 a n sz f := by
  obtain ⟨hn, h1⟩ := h
  refine ⟨hn, ?_⟩
  rcases h1 with h1 | ⟨b, off, e, hlt, hc⟩
  · exact .inl h1
  · exact .inr ⟨b, off, e, Nat.lt_of_lt_of_le hlt (hb.mono hB).size, fun i hi j hj => keep hb (hc i hi j hj) (Nat.lt_of_lt_of_le hlt hB)⟩
theorem rowsV_congr {w : World} {a : Option Addr} {n sz : Nat} {f g : Nat → Nat → Value} (h : RowsV w a n sz f) (e : ∀ i, i < n → ∀ j, j < sz → f i j = g i j) : RowsV w a n sz g := by
  obtain ⟨hn, h1⟩ := h
  refine ⟨hn, ?_⟩
  rcases h1 with h1 | ⟨b, off, e1, hlt, hc⟩
  · exact .inl h1
  · exact .inr ⟨b, off, e1, hlt, fun i hi j hj => by rw [← e i hi j hj]; exact hc i hi j hj⟩

section
variable {H : Type} {enc : TypeId × Value → H} {w : World} {held : Bool}

theorem rowsV_in {P : Program} {t e : TypeId} {sz : Nat} {fuel : Nat} {cs : List Value} {x : DataW H × List MemPlace} (ht : P.underlying t = some (.slice e)) (hsz : P.cellsOf e = sz) (hp : 0 < sz)
    (h : DataW.trod enc P w 0 (fun _ => true) held fuel t cs = some x) :
    ∃ (a : Option Addr) (n cap : Nat) (el : Nat → List Value), cs = [.slice a n cap] ∧ n ≤ cap ∧ cap ≤ maxLen ∧ RowsV w a n sz (fun i j => (el i).getD j undef) ∧
      ∀ i, i < n → (el i).length = sz ∧ ∃ m y, DataW.trod enc P w 0 (fun _ => true) held m e (el i) = some y := by
  rcases open_slice ht h with ⟨hcs, hx⟩ | ⟨a, len, cap, m, n, D, Pl, hcs, _, hl, hm, hmm, hx, hel⟩
  · exact ⟨none, 0, 0, fun _ => [], hcs, by omega, by unfold maxLen; omega, ⟨by omega, .inl rfl⟩, fun i hi => by omega⟩
  · simp only [if_true] at hmm
    have each : ∀ i, i < len → ∃ cs' : List Value, (∀ j, j < sz → w.cell? ((a.add (i * sz)).add j) = some (cs'.getD j undef)) ∧ cs'.length = sz ∧ ∃ m y, DataW.trod enc P w 0 (fun _ => true) held m e cs' = some y := by
      intro i hi
      obtain ⟨cs', h1, h2⟩ := hel i (by omega)
      rw [hsz] at h1
      obtain ⟨_, hlen, hcell⟩ := World.cells?_some h1
      refine ⟨cs', fun j hj => ?_, hlen, _, _, h2⟩
      rw [hcell j (by omega), List.getD_eq_getElem?_getD, List.getElem?_eq_getElem (by omega)]; rfl
    obtain ⟨el, hel'⟩ := choose_lt each
    refine ⟨some a, len, cap, el, hcs, hl, hm, ⟨by unfold maxLen at hm; omega, ?_⟩, fun i hi => (hel' i hi).2⟩
    by_cases h0 : len = 0
    · exact .inl h0
    · obtain ⟨b, off, spot⟩ := a
      have hc0 := (hel' 0 (by omega)).1 0 hp
      have hspot : spot = none := by simpa [Addr.add] using World.cell?_spot hc0
      subst hspot
      refine .inr ⟨b, off, rfl, ?_, fun i hi j hj => ?_⟩
      · have h9 := lt_of_cell hc0
        rw [Open.add_none, Open.add_none] at h9; exact h9
      · have h9 := (hel' i hi).1 j hj
        rw [Open.add_none, Open.add_none, Nat.add_assoc] at h9; exact h9

theorem struct_at {P : Program} {e : TypeId} {fs : Array Field} {fuel : Nat} {cs : List Value} {x : DataW H × List MemPlace} (he : P.underlying e = some (.struct fs)) (h : DataW.trod enc P w 0 (fun _ => true) held fuel e cs = some x)
    (i : Nat) {f : Field} (hf : fs[i]? = some f) {o k : Nat} {t : TypeId} (ho : f.offset = o) (ht : f.type = t) (hk : P.cellsOf t = k) :
    ∃ m y, DataW.trod enc P w 0 (fun _ => true) held m t ((cs.drop o).take k) = some y := by
  subst ho ht hk
  obtain ⟨xs, n, rfl, rfl, hl, hxs, hfs⟩ := DataW.trod_struct he h
  have h4 := hfs i f hf
  have hi : i < fs.size := by
    refine Nat.lt_of_not_le fun hle => ?_
    rw [Array.getElem?_eq_none hle] at hf; cases hf
  rw [List.getElem?_eq_getElem (by omega)] at h4
  exact ⟨n, _, h4⟩
theorem struct_len {P : Program} {e : TypeId} {fs : Array Field} {fuel : Nat} {cs : List Value} {x : DataW H × List MemPlace} (he : P.underlying e = some (.struct fs)) (h : DataW.trod enc P w 0 (fun _ => true) held fuel e cs = some x) : cs.length = P.cellsOf e := by
  obtain ⟨xs, n, rfl, rfl, hl, hxs, hfs⟩ := DataW.trod_struct he h
  exact hl
theorem int_at {P : Program} {t : TypeId} {fuel : Nat} {v : Value} {x : DataW H × List MemPlace} (ht : P.underlying t = some (.int .i64)) (h : DataW.trod enc P w 0 (fun _ => true) held fuel t [v] = some x) : ∃ a, v = .int .i64 a ∧ I64 a := by
  obtain ⟨a, e, _, hw⟩ := DataW.trod_int ht h
  exact ⟨a, by simpa using e, Open.wf64 hw⟩
theorem bool_at {P : Program} {t : TypeId} {fuel : Nat} {v : Value} {x : DataW H × List MemPlace} (ht : P.underlying t = some .bool) (h : DataW.trod enc P w 0 (fun _ => true) held fuel t [v] = some x) : ∃ a, v = .bool a := by
  obtain ⟨a, e, _⟩ := DataW.trod_bool ht h
  exact ⟨a, by simpa using e⟩
theorem rows_at_ {P : Program} {t e : TypeId} {fs : Array Field} {fuel : Nat} {v : Value} {x : DataW H × List MemPlace} (ht : P.underlying t = some (.slice e)) (he : P.underlying e = some (.struct fs)) (hf : Open.allIntsB P fs = true) (hc : P.cellsOf e = fs.size) (hsz : 0 < fs.size) {sz : Nat} (hs : fs.size = sz)
    (h : DataW.trod enc P w 0 (fun _ => true) held fuel t [v] = some x) : ∃ a n c f, v = .slice a n c ∧ Open.RowsIn w a n sz f := by
  subst hs
  obtain ⟨a, n, c, f, e, _, _, hr⟩ := Open.rows_in ht he (Open.allInts_of hf) hc hsz h
  exact ⟨a, n, c, f, by simpa using e, hr⟩
theorem ints_at_ {P : Program} {t e : TypeId} {fuel : Nat} {v : Value} {x : DataW H × List MemPlace} (ht : P.underlying t = some (.slice e)) (he : P.underlying e = some (.int .i64)) (hc : P.cellsOf e = 1)
    (h : DataW.trod enc P w 0 (fun _ => true) held fuel t [v] = some x) : ∃ (a : Option Addr) (n c : Nat) (f : Nat → Int), v = .slice a n c ∧ Open.RowsIn w a n 1 (fun i _ => f i) := by
  obtain ⟨a, n, c, f, e, _, _, hr⟩ := Open.ints_in ht he hc h
  exact ⟨a, n, c, f, by simpa using e, hr⟩
end

theorem arr_in {H : Type} {enc : TypeId × Value → H} {w : World} {held : Bool} {P : Program} {t e : TypeId} {n : Nat} (ht : P.underlying t = some (.array n e)) (he : P.underlying e = some (.int .i64)) (hc : P.cellsOf e = 1) (hn : P.cellsOf t = n) {fuel : Nat} {cs : List Value} {x : DataW H × List MemPlace}
    (h : DataW.trod enc P w 0 (fun _ => true) held fuel t cs = some x) : ∃ f : Nat → Int, cs.length = n ∧ ∀ i, i < n → cs[i]? = some (.int .i64 (f i)) ∧ I64 (f i) := by
  obtain ⟨xs, m, rfl, rfl, hl, hxs, hfs⟩ := DataW.trod_array ht h
  have each : ∀ i, i < n → ∃ a : Int, cs[i]? = some (.int .i64 a) ∧ I64 a := fun i hi => by
    have h4 := hfs i hi
    rw [hc, Nat.mul_one, List.getElem?_eq_getElem (by omega)] at h4
    obtain ⟨a, hv, _, hw⟩ := DataW.trod_int he h4
    refine ⟨a, ?_, Open.wf64 hw⟩
    have e1 : ((cs.drop i).take 1)[0]? = some (.int .i64 a) := by rw [hv]; rfl
    rw [List.getElem?_take, if_pos (by omega), List.getElem?_drop] at e1
    exact e1
  obtain ⟨f, hf⟩ := choose_lt each
  exact ⟨f, by omega, hf⟩
theorem okWide_array {P : Program} {w : World} {r : Reach} {base : Nat} {t e : TypeId} {n : Nat} {v : Value} (ht : P.underlying t = some (.array n e)) (h : Value.okWide P w r base t v) : ∃ cs, v = .agg cs ∧ cs.size = P.cellsOf t := by
  simp only [Value.okWide, ht] at h
  obtain ⟨cs, h1, h2, _⟩ := h
  exact ⟨cs, h1, h2⟩
theorem agg_list {cs : Array Value} {l : List Value} (h : (Value.cells (.agg cs)).toList = l) : cs = l.toArray := by
  have h : cs.toList = l := h
  subst h; simp
end Go.Proofs.YtlafeijkpnpdeaaGreat.Conf

/- What a configuration's reading gives a walk. -/
namespace Go.Proofs.YtlafeijkpnpdeaaGreat.Conf
open Go.ChangeShapes Go.WideShapes Go.ChangeAt Go.RowKit Go.Deep Base Go.Joins Kit
set_option linter.unusedVariables false
set_option linter.unusedSimpArgs false

/-- a platform's configuration -/
structure PowC where
  (la : Option Addr) (ln lc : Nat) (lf : Nat → Nat → Int) (na : Option Addr) (nn nc : Nat) (nf : Nat → Nat → Int) (sw id ch qu sl pp : Int)
def PowC.vals (p : PowC) : List Value := [.slice p.la p.ln p.lc, .slice p.na p.nn p.nc, .int .i64 p.sw, .int .i64 p.id, .int .i64 p.ch, .int .i64 p.qu, .int .i64 p.sl, .int .i64 p.pp]
structure PowC.Ok (w : World) (p : PowC) : Prop where
  lev : Hid (Open.RowsIn w p.la p.ln 2 p.lf)
  nap : Hid (Open.RowsIn w p.na p.nn 3 p.nf)
  sw : I64 p.sw
  id : I64 p.id
  ch : I64 p.ch
  qu : I64 p.qu
  sl : I64 p.sl
  pp : I64 p.pp
theorem PowC.Ok.below {w w1 : World} {B : Nat} {p : PowC} (h : p.Ok w) (hb : Below B w w1) (hB : w.heap.size ≤ B) : p.Ok w1 :=
  ⟨Lib.hid (rows_below h.lev.out hb hB), Lib.hid (rows_below h.nap.out hb hB), h.sw, h.id, h.ch, h.qu, h.sl, h.pp⟩

section
variable {H : Type} {enc : TypeId × Value → H} {w : World} {held : Bool}
theorem pow_in {fuel : Nat} {cs : List Value} {x : DataW H × List MemPlace} (h : DataW.trod enc Tryz.prog w 0 (fun _ => true) held fuel 28 cs = some x) : ∃ p : PowC, cs = p.vals ∧ p.Ok w := by
  have hl := struct_len Tryz.underlying28 h
  rw [show Tryz.prog.cellsOf 28 = 8 from by kernel_rfl] at hl
  match cs, hl with
  | [v0, v1, v2, v3, v4, v5, v6, v7], _ =>
    obtain ⟨m0, y0, h0⟩ := struct_at Tryz.underlying28 h 0 rfl (o := 0) rfl rfl (k := 1) (by kernel_rfl)
    obtain ⟨m1, y1, h1⟩ := struct_at Tryz.underlying28 h 1 rfl (o := 1) rfl rfl (k := 1) (by kernel_rfl)
    obtain ⟨m2, y2, h2⟩ := struct_at Tryz.underlying28 h 2 rfl (o := 2) rfl rfl (k := 1) (by kernel_rfl)
    obtain ⟨m3, y3, h3⟩ := struct_at Tryz.underlying28 h 3 rfl (o := 3) rfl rfl (k := 1) (by kernel_rfl)
    obtain ⟨m4, y4, h4⟩ := struct_at Tryz.underlying28 h 4 rfl (o := 4) rfl rfl (k := 1) (by kernel_rfl)
    obtain ⟨m5, y5, h5⟩ := struct_at Tryz.underlying28 h 5 rfl (o := 5) rfl rfl (k := 1) (by kernel_rfl)
    obtain ⟨m6, y6, h6⟩ := struct_at Tryz.underlying28 h 6 rfl (o := 6) rfl rfl (k := 1) (by kernel_rfl)
    obtain ⟨m7, y7, h7⟩ := struct_at Tryz.underlying28 h 7 rfl (o := 7) rfl rfl (k := 1) (by kernel_rfl)
    simp only [List.drop, List.take] at h0 h1 h2 h3 h4 h5 h6 h7
    obtain ⟨la, ln, lc, lf, rfl, r0⟩ := rows_at_ Tryz.underlying25 Tryz.underlying88 (by kernel_rfl) (by kernel_rfl) (by decide) (sz := 2) rfl h0
    obtain ⟨na, nn, nc, nf, rfl, r1⟩ := rows_at_ Tryz.underlying26 Tryz.underlying120 (by kernel_rfl) (by kernel_rfl) (by decide) (sz := 3) rfl h1
    obtain ⟨sw, rfl, r2⟩ := int_at Tryz.underlying3 h2
    obtain ⟨id, rfl, r3⟩ := int_at Tryz.underlying3 h3
    obtain ⟨ch, rfl, r4⟩ := int_at Tryz.underlying3 h4
    obtain ⟨qu, rfl, r5⟩ := int_at Tryz.underlying3 h5
    obtain ⟨sl, rfl, r6⟩ := int_at Tryz.underlying3 h6
    obtain ⟨pp, rfl, r7⟩ := int_at Tryz.underlying3 h7
    exact ⟨⟨la, ln, lc, lf, na, nn, nc, nf, sw, id, ch, qu, sl, pp⟩, rfl, ⟨Lib.hid r0, Lib.hid r1, r2, r3, r4, r5, r6, r7⟩⟩
end
end Go.Proofs.YtlafeijkpnpdeaaGreat.Conf

/- What a partition's reading gives a walk. -/
namespace Go.Proofs.YtlafeijkpnpdeaaGreat.Conf2
open Go.ChangeShapes Go.WideShapes Go.ChangeAt Go.RowKit Go.Deep Base Go.Joins Kit Conf
set_option linter.unusedVariables false
set_option linter.unusedSimpArgs false

/-- a partition's configuration -/
structure PartC where
  (ra : Option Addr) (rn rc : Nat) (rb rs : Nat → Int) (rw : Nat → Bool)
  (pa : Option Addr) (pn pc : Nat) (pf : Nat → Nat → Int)
  (oa : Option Addr) (on oc : Nat) (oq oi : Nat → Bool) (os od : Nat → Int)
  (sa : Option Addr) (sn sc : Nat) (sf : Nat → Nat → Int)
  (fl : Int)
  (qa : Option Addr) (qn qc : Nat) (qf : Nat → Nat → Int)
  (ta : Option Addr) (tn tc : Nat) (tf : Nat → Int)
  (cap bud lad : Int)
  (ca : Option Addr) (cn cc : Nat) (cf : Nat → Int)
def PartC.vals (p : PartC) : List Value := [.slice p.ra p.rn p.rc, .slice p.pa p.pn p.pc, .slice p.oa p.on p.oc, .slice p.sa p.sn p.sc, .int .i64 p.fl, .slice p.qa p.qn p.qc, .slice p.ta p.tn p.tc, .int .i64 p.cap, .int .i64 p.bud, .int .i64 p.lad, .slice p.ca p.cn p.cc]
def regV (b s : Nat → Int) (w : Nat → Bool) (i j : Nat) : Value := match j with | 0 => .int .i64 (b i) | 1 => .int .i64 (s i) | _ => .bool (w i)
def portV (q n : Nat → Bool) (s d : Nat → Int) (i j : Nat) : Value := match j with | 0 => .bool (q i) | 1 => .bool (n i) | 2 => .int .i64 (s i) | _ => .int .i64 (d i)
structure PartC.Ok (w : World) (p : PartC) : Prop where
  reg : Hid (RowsV w p.ra p.rn 3 (regV p.rb p.rs p.rw))
  regI : ∀ i, i < p.rn → I64 (p.rb i) ∧ I64 (p.rs i)
  proc : Hid (Open.RowsIn w p.pa p.pn 3 p.pf)
  port : Hid (RowsV w p.oa p.on 4 (portV p.oq p.oi p.os p.od))
  portI : ∀ i, i < p.on → I64 (p.os i) ∧ I64 (p.od i)
  sem : Hid (Open.RowsIn w p.sa p.sn 2 p.sf)
  fl : I64 p.fl
  pool : Hid (Open.RowsIn w p.qa p.qn 2 p.qf)
  slate : Hid (Open.RowsIn w p.ta p.tn 1 (fun i _ => p.tf i))
  cap : I64 p.cap
  bud : I64 p.bud
  lad : I64 p.lad
  act : Hid (Open.RowsIn w p.ca p.cn 1 (fun i _ => p.cf i))
theorem PartC.Ok.below {w w1 : World} {B : Nat} {p : PartC} (h : p.Ok w) (hb : Below B w w1) (hB : w.heap.size ≤ B) : p.Ok w1 :=
  ⟨Lib.hid (rowsV_below h.reg.out hb hB), h.regI, Lib.hid (rows_below h.proc.out hb hB), Lib.hid (rowsV_below h.port.out hb hB), h.portI, Lib.hid (rows_below h.sem.out hb hB), h.fl, Lib.hid (rows_below h.pool.out hb hB), Lib.hid (rows_below h.slate.out hb hB), h.cap, h.bud, h.lad, Lib.hid (rows_below h.act.out hb hB)⟩

theorem choose_lt' {α : Type} [Nonempty α] {n : Nat} {p : Nat → α → Prop} (h : ∀ i, i < n → ∃ x, p i x) : ∃ f : Nat → α, ∀ i, i < n → p i (f i) :=
  ⟨fun i => if hi : i < n then Classical.choose (h i hi) else Classical.choice inferInstance, fun i hi => by simp only [hi, dif_pos]; exact Classical.choose_spec (h i hi)⟩
instance : Nonempty PartC := ⟨⟨none, 0, 0, fun _ => 0, fun _ => 0, fun _ => false, none, 0, 0, fun _ _ => 0, none, 0, 0, fun _ => false, fun _ => false, fun _ => 0, fun _ => 0, none, 0, 0, fun _ _ => 0, 0, none, 0, 0, fun _ _ => 0, none, 0, 0, fun _ => 0, 0, 0, 0, none, 0, 0, fun _ => 0⟩⟩
section
variable {H : Type} {enc : TypeId × Value → H} {w : World} {held : Bool}

theorem reg_in {fuel : Nat} {cs : List Value} {x : DataW H × List MemPlace} (h : DataW.trod enc Tryz.prog w 0 (fun _ => true) held fuel 84 cs = some x) : ∃ (a b : Int) (c : Bool), cs = [.int .i64 a, .int .i64 b, .bool c] ∧ I64 a ∧ I64 b := by
  have hl := struct_len Tryz.underlying84 h
  rw [show Tryz.prog.cellsOf 84 = 3 from by kernel_rfl] at hl
  match cs, hl with
  | [v0, v1, v2], _ =>
    obtain ⟨m0, y0, h0⟩ := struct_at Tryz.underlying84 h 0 rfl (o := 0) rfl rfl (k := 1) (by kernel_rfl)
    obtain ⟨m1, y1, h1⟩ := struct_at Tryz.underlying84 h 1 rfl (o := 1) rfl rfl (k := 1) (by kernel_rfl)
    obtain ⟨m2, y2, h2⟩ := struct_at Tryz.underlying84 h 2 rfl (o := 2) rfl rfl (k := 1) (by kernel_rfl)
    simp only [List.drop, List.take] at h0 h1 h2
    obtain ⟨a, rfl, r0⟩ := int_at Tryz.underlying3 h0
    obtain ⟨b, rfl, r1⟩ := int_at Tryz.underlying3 h1
    obtain ⟨c, rfl⟩ := bool_at Tryz.underlying4 h2
    exact ⟨a, b, c, rfl, r0, r1⟩

theorem port_in {fuel : Nat} {cs : List Value} {x : DataW H × List MemPlace} (h : DataW.trod enc Tryz.prog w 0 (fun _ => true) held fuel 130 cs = some x) : ∃ (q n : Bool) (s d : Int), cs = [.bool q, .bool n, .int .i64 s, .int .i64 d] ∧ I64 s ∧ I64 d := by
  have hl := struct_len Tryz.underlying130 h
  rw [show Tryz.prog.cellsOf 130 = 4 from by kernel_rfl] at hl
  match cs, hl with
  | [v0, v1, v2, v3], _ =>
    obtain ⟨m0, y0, h0⟩ := struct_at Tryz.underlying130 h 0 rfl (o := 0) rfl rfl (k := 1) (by kernel_rfl)
    obtain ⟨m1, y1, h1⟩ := struct_at Tryz.underlying130 h 1 rfl (o := 1) rfl rfl (k := 1) (by kernel_rfl)
    obtain ⟨m2, y2, h2⟩ := struct_at Tryz.underlying130 h 2 rfl (o := 2) rfl rfl (k := 1) (by kernel_rfl)
    obtain ⟨m3, y3, h3⟩ := struct_at Tryz.underlying130 h 3 rfl (o := 3) rfl rfl (k := 1) (by kernel_rfl)
    simp only [List.drop, List.take] at h0 h1 h2 h3
    obtain ⟨q, rfl⟩ := bool_at Tryz.underlying4 h0
    obtain ⟨n, rfl⟩ := bool_at Tryz.underlying4 h1
    obtain ⟨s, rfl, r0⟩ := int_at Tryz.underlying3 h2
    obtain ⟨d, rfl, r1⟩ := int_at Tryz.underlying3 h3
    exact ⟨q, n, s, d, rfl, r0, r1⟩

theorem regs_in {fuel : Nat} {v : Value} {x : DataW H × List MemPlace} (h : DataW.trod enc Tryz.prog w 0 (fun _ => true) held fuel 55 [v] = some x) :
    ∃ (a : Option Addr) (n c : Nat) (b s : Nat → Int) (r : Nat → Bool), v = .slice a n c ∧ RowsV w a n 3 (regV b s r) ∧ ∀ i, i < n → I64 (b i) ∧ I64 (s i) := by
  obtain ⟨a, n, c, el, e, _, _, hr, hel⟩ := rowsV_in Tryz.underlying55 (sz := 3) (by kernel_rfl) (by decide) h
  have each : ∀ i, i < n → ∃ q : Int × Int × Bool, el i = [.int .i64 q.1, .int .i64 q.2.1, .bool q.2.2] ∧ I64 q.1 ∧ I64 q.2.1 := fun i hi => by
    obtain ⟨_, m, y, hy⟩ := hel i hi
    obtain ⟨b, s, r, e, r0, r1⟩ := reg_in hy
    exact ⟨(b, s, r), e, r0, r1⟩
  obtain ⟨q, hq⟩ := choose_lt each
  refine ⟨a, n, c, fun i => (q i).1, fun i => (q i).2.1, fun i => (q i).2.2, by simpa using e, rowsV_congr hr fun i hi j hj => ?_, fun i hi => (hq i hi).2⟩
  rw [(hq i hi).1]
  match j, hj with
  | 0, _ => rfl
  | 1, _ => rfl
  | 2, _ => rfl
theorem ports_in {fuel : Nat} {v : Value} {x : DataW H × List MemPlace} (h : DataW.trod enc Tryz.prog w 0 (fun _ => true) held fuel 57 [v] = some x) :
    ∃ (a : Option Addr) (n c : Nat) (q p : Nat → Bool) (s d : Nat → Int), v = .slice a n c ∧ RowsV w a n 4 (portV q p s d) ∧ ∀ i, i < n → I64 (s i) ∧ I64 (d i) := by
  obtain ⟨a, n, c, el, e, _, _, hr, hel⟩ := rowsV_in Tryz.underlying57 (sz := 4) (by kernel_rfl) (by decide) h
  have each : ∀ i, i < n → ∃ q : Bool × Bool × Int × Int, el i = [.bool q.1, .bool q.2.1, .int .i64 q.2.2.1, .int .i64 q.2.2.2] ∧ I64 q.2.2.1 ∧ I64 q.2.2.2 := fun i hi => by
    obtain ⟨_, m, y, hy⟩ := hel i hi
    obtain ⟨b, s, r, d, e, r0, r1⟩ := port_in hy
    exact ⟨(b, s, r, d), e, r0, r1⟩
  obtain ⟨q, hq⟩ := choose_lt each
  refine ⟨a, n, c, fun i => (q i).1, fun i => (q i).2.1, fun i => (q i).2.2.1, fun i => (q i).2.2.2, by simpa using e, rowsV_congr hr fun i hi j hj => ?_, fun i hi => (hq i hi).2⟩
  rw [(hq i hi).1]
  match j, hj with
  | 0, _ => rfl
  | 1, _ => rfl
  | 2, _ => rfl
  | 3, _ => rfl

theorem part_in {fuel : Nat} {cs : List Value} {x : DataW H × List MemPlace} (h : DataW.trod enc Tryz.prog w 0 (fun _ => true) held fuel 61 cs = some x) : ∃ p : PartC, cs = p.vals ∧ p.Ok w := by
  have hl := struct_len Tryz.underlying61 h
  rw [show Tryz.prog.cellsOf 61 = 11 from by kernel_rfl] at hl
  match cs, hl with
  | [v0, v1, v2, v3, v4, v5, v6, v7, v8, v9, v10], _ =>
    obtain ⟨m0, y0, h0⟩ := struct_at Tryz.underlying61 h 0 rfl (o := 0) rfl rfl (k := 1) (by kernel_rfl)
    obtain ⟨m1, y1, h1⟩ := struct_at Tryz.underlying61 h 1 rfl (o := 1) rfl rfl (k := 1) (by kernel_rfl)
    obtain ⟨m2, y2, h2⟩ := struct_at Tryz.underlying61 h 2 rfl (o := 2) rfl rfl (k := 1) (by kernel_rfl)
    obtain ⟨m3, y3, h3⟩ := struct_at Tryz.underlying61 h 3 rfl (o := 3) rfl rfl (k := 1) (by kernel_rfl)
    obtain ⟨m4, y4, h4⟩ := struct_at Tryz.underlying61 h 4 rfl (o := 4) rfl rfl (k := 1) (by kernel_rfl)
    obtain ⟨m5, y5, h5⟩ := struct_at Tryz.underlying61 h 5 rfl (o := 5) rfl rfl (k := 1) (by kernel_rfl)
    obtain ⟨m6, y6, h6⟩ := struct_at Tryz.underlying61 h 6 rfl (o := 6) rfl rfl (k := 1) (by kernel_rfl)
    obtain ⟨m7, y7, h7⟩ := struct_at Tryz.underlying61 h 7 rfl (o := 7) rfl rfl (k := 1) (by kernel_rfl)
    obtain ⟨m8, y8, h8⟩ := struct_at Tryz.underlying61 h 8 rfl (o := 8) rfl rfl (k := 1) (by kernel_rfl)
    obtain ⟨m9, y9, h9⟩ := struct_at Tryz.underlying61 h 9 rfl (o := 9) rfl rfl (k := 1) (by kernel_rfl)
    obtain ⟨m10, y10, h10⟩ := struct_at Tryz.underlying61 h 10 rfl (o := 10) rfl rfl (k := 1) (by kernel_rfl)
    simp only [List.drop, List.take] at h0 h1 h2 h3 h4 h5 h6 h7 h8 h9 h10
    obtain ⟨ra, rn, rc, rb, rs, rw, rfl, rr, rrI⟩ := regs_in h0
    obtain ⟨pa, pn, pc, pf, rfl, rp⟩ := rows_at_ Tryz.underlying56 Tryz.underlying86 (by kernel_rfl) (by kernel_rfl) (by decide) (sz := 3) rfl h1
    obtain ⟨oa, on, oc, oq, oi, os, od, rfl, ro, roI⟩ := ports_in h2
    obtain ⟨sa, sn, sc, sf, rfl, rs1⟩ := rows_at_ Tryz.underlying58 Tryz.underlying160 (by kernel_rfl) (by kernel_rfl) (by decide) (sz := 2) rfl h3
    obtain ⟨fl, rfl, rfl1⟩ := int_at Tryz.underlying3 h4
    obtain ⟨qa, qn, qc, qf, rfl, rq⟩ := rows_at_ Tryz.underlying59 Tryz.underlying162 (by kernel_rfl) (by kernel_rfl) (by decide) (sz := 2) rfl h5
    obtain ⟨ta, tn, tc, tf, rfl, rt⟩ := ints_at_ Tryz.underlying29 Tryz.underlying3 (by kernel_rfl) h6
    obtain ⟨cap, rfl, rcap⟩ := int_at Tryz.underlying3 h7
    obtain ⟨bud, rfl, rbud⟩ := int_at Tryz.underlying3 h8
    obtain ⟨lad, rfl, rlad⟩ := int_at Tryz.underlying3 h9
    obtain ⟨ca, cn, cc, cf, rfl, rc1⟩ := ints_at_ Tryz.underlying29 Tryz.underlying3 (by kernel_rfl) h10
    exact ⟨⟨ra, rn, rc, rb, rs, rw, pa, pn, pc, pf, oa, on, oc, oq, oi, os, od, sa, sn, sc, sf, fl, qa, qn, qc, qf, ta, tn, tc, tf, cap, bud, lad, ca, cn, cc, cf⟩, rfl, ⟨Lib.hid rr, rrI, Lib.hid rp, Lib.hid ro, roI, Lib.hid rs1, rfl1, Lib.hid rq, Lib.hid rt, rcap, rbud, rlad, Lib.hid rc1⟩⟩
end
end Go.Proofs.YtlafeijkpnpdeaaGreat.Conf2

/- What a configuration's reading gives a walk: channels, modes, the whole. -/
namespace Go.Proofs.YtlafeijkpnpdeaaGreat.Conf2
open Go.ChangeShapes Go.WideShapes Go.ChangeAt Go.RowKit Go.Deep Base Go.Joins Kit Conf
set_option linter.unusedVariables false
set_option linter.unusedSimpArgs false

section
variable {H : Type} {enc : TypeId × Value → H} {w : World} {held : Bool}
theorem parts_in {fuel : Nat} {v : Value} {x : DataW H × List MemPlace} (h : DataW.trod enc Tryz.prog w 0 (fun _ => true) held fuel 22 [v] = some x) :
    ∃ (a : Option Addr) (n c : Nat) (p : Nat → PartC), v = .slice a n c ∧ RowsV w a n 11 (fun i j => (p i).vals.getD j undef) ∧ ∀ i, i < n → (p i).Ok w := by
  obtain ⟨a, n, c, el, e, _, _, hr, hel⟩ := rowsV_in Tryz.underlying22 (sz := 11) (by kernel_rfl) (by decide) h
  have each : ∀ i, i < n → ∃ q : PartC, el i = q.vals ∧ q.Ok w := fun i hi => by
    obtain ⟨_, m, y, hy⟩ := hel i hi
    exact part_in hy
  obtain ⟨q, hq⟩ := choose_lt' each
  exact ⟨a, n, c, q, by simpa using e, rowsV_congr hr fun i hi j hj => by rw [(hq i hi).1], fun i hi => (hq i hi).2⟩

/-- a channel's four numbers -/
theorem end_in {fuel : Nat} {cs : List Value} {x : DataW H × List MemPlace} (h : DataW.trod enc Tryz.prog w 0 (fun _ => true) held fuel 134 cs = some x) : ∃ (a b : Int), cs = [.int .i64 a, .int .i64 b] ∧ I64 a ∧ I64 b := by
  have hl := struct_len Tryz.underlying134 h
  rw [show Tryz.prog.cellsOf 134 = 2 from by kernel_rfl] at hl
  match cs, hl with
  | [v0, v1], _ =>
    obtain ⟨m0, y0, h0⟩ := struct_at Tryz.underlying134 h 0 rfl (o := 0) rfl rfl (k := 1) (by kernel_rfl)
    obtain ⟨m1, y1, h1⟩ := struct_at Tryz.underlying134 h 1 rfl (o := 1) rfl rfl (k := 1) (by kernel_rfl)
    simp only [List.drop, List.take] at h0 h1
    obtain ⟨a, rfl, r0⟩ := int_at Tryz.underlying3 h0
    obtain ⟨b, rfl, r1⟩ := int_at Tryz.underlying3 h1
    exact ⟨a, b, rfl, r0, r1⟩

theorem chan_in {fuel : Nat} {cs : List Value} {x : DataW H × List MemPlace} (h : DataW.trod enc Tryz.prog w 0 (fun _ => true) held fuel 136 cs = some x) : ∃ (f : Nat → Int), cs = [.int .i64 (f 0), .int .i64 (f 1), .int .i64 (f 2), .int .i64 (f 3)] ∧ ∀ j, I64 (f j) := by
  have hl := struct_len Tryz.underlying136 h
  rw [show Tryz.prog.cellsOf 136 = 4 from by kernel_rfl] at hl
  match cs, hl with
  | [v0, v1, v2, v3], _ =>
    obtain ⟨m0, y0, h0⟩ := struct_at Tryz.underlying136 h 0 rfl (o := 0) rfl rfl (k := 2) (by kernel_rfl)
    obtain ⟨m1, y1, h1⟩ := struct_at Tryz.underlying136 h 1 rfl (o := 2) rfl rfl (k := 2) (by kernel_rfl)
    simp only [List.drop, List.take] at h0 h1
    obtain ⟨a, b, e0, r0, r1⟩ := end_in h0
    obtain ⟨c, d, e1, r2, r3⟩ := end_in h1
    refine ⟨fun j => match j with | 0 => a | 1 => b | 2 => c | _ => d, ?_, fun j => ?_⟩
    · simp only [List.cons.injEq, and_true] at e0 e1
      obtain ⟨rfl, rfl⟩ := e0; obtain ⟨rfl, rfl⟩ := e1; rfl
    · match j with
      | 0 => exact r0
      | 1 => exact r1
      | 2 => exact r2
      | j + 3 => exact r3

theorem chans_in {fuel : Nat} {v : Value} {x : DataW H × List MemPlace} (h : DataW.trod enc Tryz.prog w 0 (fun _ => true) held fuel 23 [v] = some x) :
    ∃ (a : Option Addr) (n c : Nat) (f : Nat → Nat → Int), v = .slice a n c ∧ n ≤ c ∧ Open.RowsIn w a n 4 f := by
  obtain ⟨a, n, c, el, e, hcap, _, hr, hel⟩ := rowsV_in Tryz.underlying23 (sz := 4) (by kernel_rfl) (by decide) h
  have each : ∀ i, i < n → ∃ q : Nat → Int, el i = [.int .i64 (q 0), .int .i64 (q 1), .int .i64 (q 2), .int .i64 (q 3)] ∧ ∀ j, I64 (q j) := fun i hi => by
    obtain ⟨_, m, y, hy⟩ := hel i hi
    exact chan_in hy
  obtain ⟨q, hq⟩ := choose_lt each
  obtain ⟨hn, hr⟩ := hr
  refine ⟨a, n, c, q, by simpa using e, hcap, hn, ?_, fun i hi j _ => (hq i hi).2 j⟩
  rcases hr with h0 | ⟨b, off, e1, hlt, hc⟩
  · exact .inl h0
  · refine .inr ⟨b, off, e1, hlt, fun i hi j hj => ?_⟩
    rw [hc i hi j hj]
    show some ((el i).getD j undef) = _
    rw [(hq i hi).1]
    match j, hj with
    | 0, _ => rfl
    | 1, _ => rfl
    | 2, _ => rfl
    | 3, _ => rfl

/-- a mode: its frame, and its windows -/
structure ModeC where
  (fr : Int) (wa : Option Addr) (wn wc : Nat) (wf : Nat → Nat → Int)
def ModeC.vals (m : ModeC) : List Value := [.int .i64 m.fr, .slice m.wa m.wn m.wc]
instance : Nonempty ModeC := ⟨⟨0, none, 0, 0, fun _ _ => 0⟩⟩
structure ModeC.Ok (w : World) (m : ModeC) : Prop where
  fr : I64 m.fr
  win : Hid (Open.RowsIn w m.wa m.wn 3 m.wf)
theorem ModeC.Ok.below {w w1 : World} {B : Nat} {m : ModeC} (h : m.Ok w) (hb : Below B w w1) (hB : w.heap.size ≤ B) : m.Ok w1 := ⟨h.fr, Lib.hid (rows_below h.win.out hb hB)⟩
theorem mode_in {fuel : Nat} {cs : List Value} {x : DataW H × List MemPlace} (h : DataW.trod enc Tryz.prog w 0 (fun _ => true) held fuel 52 cs = some x) : ∃ m : ModeC, cs = m.vals ∧ m.Ok w := by
  have hl := struct_len Tryz.underlying52 h
  rw [show Tryz.prog.cellsOf 52 = 2 from by kernel_rfl] at hl
  match cs, hl with
  | [v0, v1], _ =>
    obtain ⟨m0, y0, h0⟩ := struct_at Tryz.underlying52 h 0 rfl (o := 0) rfl rfl (k := 1) (by kernel_rfl)
    obtain ⟨m1, y1, h1⟩ := struct_at Tryz.underlying52 h 1 rfl (o := 1) rfl rfl (k := 1) (by kernel_rfl)
    simp only [List.drop, List.take] at h0 h1
    obtain ⟨fr, rfl, rfr⟩ := int_at Tryz.underlying3 h0
    obtain ⟨wa, wn, wc, wf, rfl, r1⟩ := rows_at_ Tryz.underlying50 Tryz.underlying54 (by kernel_rfl) (by kernel_rfl) (by decide) (sz := 3) rfl h1
    exact ⟨⟨fr, wa, wn, wc, wf⟩, rfl, ⟨rfr, Lib.hid r1⟩⟩

theorem modes_in {fuel : Nat} {v : Value} {x : DataW H × List MemPlace} (h : DataW.trod enc Tryz.prog w 0 (fun _ => true) held fuel 24 [v] = some x) :
    ∃ (a : Option Addr) (n c : Nat) (m : Nat → ModeC), v = .slice a n c ∧ RowsV w a n 2 (fun i j => (m i).vals.getD j undef) ∧ ∀ i, i < n → (m i).Ok w := by
  obtain ⟨a, n, c, el, e, _, _, hr, hel⟩ := rowsV_in Tryz.underlying24 (sz := 2) (by kernel_rfl) (by decide) h
  have each : ∀ i, i < n → ∃ q : ModeC, el i = q.vals ∧ q.Ok w := fun i hi => by
    obtain ⟨_, m, y, hy⟩ := hel i hi
    exact mode_in hy
  obtain ⟨q, hq⟩ := choose_lt' each
  exact ⟨a, n, c, q, by simpa using e, rowsV_congr hr fun i hi j hj => by rw [(hq i hi).1], fun i hi => (hq i hi).2⟩

/-- a configuration -/
structure ConfC where
  (pa : Option Addr) (pn pc : Nat) (p : Nat → PartC)
  (ca : Option Addr) (cn cc : Nat) (cf : Nat → Nat → Int)
  (ma : Option Addr) (mn mc : Nat) (m : Nat → ModeC)
  (w : PowC)
  (da : Option Addr) (dn dc : Nat) (df : Nat → Int)
  (ua : Option Addr) (un uc : Nat) (uf : Nat → Int)
def ConfC.vals (c : ConfC) : List Value := [.slice c.pa c.pn c.pc, .slice c.ca c.cn c.cc, .slice c.ma c.mn c.mc, .slice c.w.la c.w.ln c.w.lc, .slice c.w.na c.w.nn c.w.nc, .int .i64 c.w.sw, .int .i64 c.w.id, .int .i64 c.w.ch, .int .i64 c.w.qu, .int .i64 c.w.sl, .int .i64 c.w.pp, .slice c.da c.dn c.dc, .slice c.ua c.un c.uc]
structure ConfC.Ok (w : World) (c : ConfC) : Prop where
  parts : Hid (RowsV w c.pa c.pn 11 (fun i j => (c.p i).vals.getD j undef))
  part : ∀ i, i < c.pn → (c.p i).Ok w
  chans : Hid (Open.RowsIn w c.ca c.cn 4 c.cf)
  modes : Hid (RowsV w c.ma c.mn 2 (fun i j => (c.m i).vals.getD j undef))
  mode : ∀ i, i < c.mn → (c.m i).Ok w
  pow : c.w.Ok w
  down : Hid (Open.RowsIn w c.da c.dn 1 (fun i _ => c.df i))
  up : Hid (Open.RowsIn w c.ua c.un 1 (fun i _ => c.uf i))
  cap : c.cn ≤ c.cc
theorem ConfC.Ok.below {w w1 : World} {B : Nat} {c : ConfC} (h : c.Ok w) (hb : Below B w w1) (hB : w.heap.size ≤ B) : c.Ok w1 :=
  ⟨Lib.hid (rowsV_below h.parts.out hb hB), fun i hi => (h.part i hi).below hb hB, Lib.hid (rows_below h.chans.out hb hB), Lib.hid (rowsV_below h.modes.out hb hB), fun i hi => (h.mode i hi).below hb hB, h.pow.below hb hB, Lib.hid (rows_below h.down.out hb hB), Lib.hid (rows_below h.up.out hb hB), h.cap⟩
theorem shed_in {fuel : Nat} {cs : List Value} {x : DataW H × List MemPlace} (h : DataW.trod enc Tryz.prog w 0 (fun _ => true) held fuel 31 cs = some x) : ∃ (a : Option Addr) (n c : Nat) (f : Nat → Int) (b : Option Addr) (m d : Nat) (g : Nat → Int), cs = [.slice a n c, .slice b m d] ∧ Open.RowsIn w a n 1 (fun i _ => f i) ∧ Open.RowsIn w b m 1 (fun i _ => g i) := by
  have hl := struct_len Tryz.underlying31 h
  rw [show Tryz.prog.cellsOf 31 = 2 from by kernel_rfl] at hl
  match cs, hl with
  | [v0, v1], _ =>
    obtain ⟨m0, y0, h0⟩ := struct_at Tryz.underlying31 h 0 rfl (o := 0) rfl rfl (k := 1) (by kernel_rfl)
    obtain ⟨m1, y1, h1⟩ := struct_at Tryz.underlying31 h 1 rfl (o := 1) rfl rfl (k := 1) (by kernel_rfl)
    simp only [List.drop, List.take] at h0 h1
    obtain ⟨da, dn, dc, df, rfl, rd⟩ := ints_at_ Tryz.underlying29 Tryz.underlying3 (by kernel_rfl) h0
    obtain ⟨ua, un, uc, uf, rfl, ru⟩ := ints_at_ Tryz.underlying29 Tryz.underlying3 (by kernel_rfl) h1
    exact ⟨da, dn, dc, df, ua, un, uc, uf, rfl, rd, ru⟩

theorem conf_in {fuel : Nat} {cs : List Value} {x : DataW H × List MemPlace} (h : DataW.trod enc Tryz.prog w 0 (fun _ => true) held fuel 33 cs = some x) : ∃ c : ConfC, cs = c.vals ∧ c.Ok w := by
  have hl := struct_len Tryz.underlying33 h
  rw [show Tryz.prog.cellsOf 33 = 13 from by kernel_rfl] at hl
  match cs, hl with
  | [v0, v1, v2, v3, v4, v5, v6, v7, v8, v9, v10, v11, v12], _ =>
    obtain ⟨m0, y0, h0⟩ := struct_at Tryz.underlying33 h 0 rfl (o := 0) rfl rfl (k := 1) (by kernel_rfl)
    obtain ⟨m1, y1, h1⟩ := struct_at Tryz.underlying33 h 1 rfl (o := 1) rfl rfl (k := 1) (by kernel_rfl)
    obtain ⟨m2, y2, h2⟩ := struct_at Tryz.underlying33 h 2 rfl (o := 2) rfl rfl (k := 1) (by kernel_rfl)
    obtain ⟨m3, y3, h3⟩ := struct_at Tryz.underlying33 h 3 rfl (o := 3) rfl rfl (k := 8) (by kernel_rfl)
    obtain ⟨m4, y4, h4⟩ := struct_at Tryz.underlying33 h 4 rfl (o := 11) rfl rfl (k := 2) (by kernel_rfl)
    simp only [List.drop, List.take] at h0 h1 h2 h3 h4
    obtain ⟨pa, pn, pc, p, rfl, r0, r1⟩ := parts_in h0
    obtain ⟨ca, cn, cc, cf, rfl, r8, r2⟩ := chans_in h1
    obtain ⟨ma, mn, mc, m, rfl, r3, r4⟩ := modes_in h2
    obtain ⟨pw, e, r5⟩ := pow_in h3
    obtain ⟨da, dn, dc, df, ua, un, uc, uf, e2, r6, r7⟩ := shed_in h4
    unfold PowC.vals at e
    simp only [List.cons.injEq, and_true] at e e2
    obtain ⟨rfl, rfl, rfl, rfl, rfl, rfl, rfl, rfl⟩ := e
    obtain ⟨rfl, rfl⟩ := e2
    exact ⟨⟨pa, pn, pc, p, ca, cn, cc, cf, ma, mn, mc, m, pw, da, dn, dc, df, ua, un, uc, uf⟩, rfl, ⟨Lib.hid r0, r1, Lib.hid r2, Lib.hid r3, r4, r5, Lib.hid r6, Lib.hid r7, r8⟩⟩
end
end Go.Proofs.YtlafeijkpnpdeaaGreat.Conf2

/- What a configuration's reading gives of the levels' room. -/
namespace Go.Proofs.YtlafeijkpnpdeaaGreat.Cap
open Go.ChangeShapes Go.WideShapes Go.ChangeAt Go.RowKit Go.Deep Base Go.Joins Kit Conf Conf2
set_option linter.unusedVariables false
section
variable {H : Type} {enc : TypeId × Value → H} {w : World} {held : Bool}
theorem conf_cap {fuel : Nat} {cs : List Value} {x : DataW H × List MemPlace} (h : DataW.trod enc Tryz.prog w 0 (fun _ => true) held fuel 33 cs = some x) (c : ConfC) (e : cs = c.vals) : c.w.ln ≤ c.w.lc ∧ c.w.lc ≤ 9223372036854775807 := by
  obtain ⟨m3, y3, h3⟩ := struct_at Tryz.underlying33 h 3 rfl (o := 3) rfl rfl (k := 8) (by kernel_rfl)
  obtain ⟨m0, y0, h0⟩ := struct_at Tryz.underlying28 h3 0 rfl (o := 0) rfl rfl (k := 1) (by kernel_rfl)
  obtain ⟨a, n, cap, f, e1, e2, e3, -⟩ := Open.rows_in Tryz.underlying25 Tryz.underlying88 (Open.allInts_of (by kernel_rfl)) (by kernel_rfl) (by decide) h0
  subst e
  simp only [ConfC.vals, List.drop, List.take, List.cons.injEq, Value.slice.injEq, and_true] at e1
  obtain ⟨-, rfl, rfl⟩ := e1
  exact ⟨e2, by unfold maxLen at e3; omega⟩
end
end Go.Proofs.YtlafeijkpnpdeaaGreat.Cap

/- The reference's Short: has a configuration short lists? -/
namespace Go.Proofs.YtlafeijkpnpdeaaGreat.Short
open Go.RowKit Base Kit Conf Conf2
set_option linter.unusedVariables false
set_option linter.unusedSimpArgs false

def ShP (p : PartC) : Prop := p.rn ≤ 100 ∧ p.pn ≤ 100 ∧ p.on ≤ 100 ∧ p.sn ≤ 100 ∧ p.qn ≤ 100 ∧ p.tn ≤ 100 ∧ p.cn ≤ 100
def Sh (c : ConfC) : Prop := (c.pn ≤ 100 ∧ c.cn ≤ 100 ∧ c.mn ≤ 100 ∧ c.w.ln ≤ 100 ∧ c.w.nn ≤ 100 ∧ c.dn ≤ 100 ∧ c.un ≤ 100) ∧ (∀ i, i < c.pn → ShP (c.p i)) ∧ ∀ i, i < c.mn → (c.m i).wn ≤ 100
def ShPost (c : ConfC) (w : World) (e : Ending) (w' : World) : Prop := ∃ b : Bool, (b = true ↔ Sh c) ∧ e = .returned (.bool b) ∧ Below w.heap.size w w'

theorem no_iff {P : Prop} (h : ¬ P) : (false = true ↔ P) := ⟨(fun e => by cases e), fun e => absurd e h⟩
theorem yes_iff {P : Prop} (h : P) : (true = true ↔ P) := ⟨fun _ => h, fun _ => rfl⟩
/-- a partition's cells -/
theorem part_at {w : World} {a : Option Addr} {n : Nat} {p : Nat → PartC} (h : Hid (RowsV w a n 11 (fun i j => (p i).vals.getD j undef))) (k : Nat) (hk : k < n) :
    ∃ b off, a = some ⟨b, off, none⟩ ∧ b < w.heap.size ∧ w.cell? ⟨b, off + k * 11, none⟩ = some (.slice (p k).ra (p k).rn (p k).rc) ∧ w.cell? ⟨b, off + k * 11 + 1, none⟩ = some (.slice (p k).pa (p k).pn (p k).pc) ∧
      w.cell? ⟨b, off + k * 11 + 2, none⟩ = some (.slice (p k).oa (p k).on (p k).oc) ∧ w.cell? ⟨b, off + k * 11 + 3, none⟩ = some (.slice (p k).sa (p k).sn (p k).sc) ∧ w.cell? ⟨b, off + k * 11 + 4, none⟩ = some (.int .i64 (p k).fl) ∧
      w.cell? ⟨b, off + k * 11 + 5, none⟩ = some (.slice (p k).qa (p k).qn (p k).qc) ∧ w.cell? ⟨b, off + k * 11 + 6, none⟩ = some (.slice (p k).ta (p k).tn (p k).tc) ∧ w.cell? ⟨b, off + k * 11 + 7, none⟩ = some (.int .i64 (p k).cap) ∧
      w.cell? ⟨b, off + k * 11 + 8, none⟩ = some (.int .i64 (p k).bud) ∧ w.cell? ⟨b, off + k * 11 + 9, none⟩ = some (.int .i64 (p k).lad) ∧ w.cell? ⟨b, off + k * 11 + 10, none⟩ = some (.slice (p k).ca (p k).cn (p k).cc) := by
  rcases h.out.2 with h1 | ⟨b, off, e, hlt, hc⟩
  · omega
  · exact ⟨b, off, e, hlt, hc k hk 0 (by omega), hc k hk 1 (by omega), hc k hk 2 (by omega), hc k hk 3 (by omega), hc k hk 4 (by omega), hc k hk 5 (by omega), hc k hk 6 (by omega), hc k hk 7 (by omega), hc k hk 8 (by omega), hc k hk 9 (by omega), hc k hk 10 (by omega)⟩
theorem mode_at {w : World} {a : Option Addr} {n : Nat} {m : Nat → ModeC} (h : Hid (RowsV w a n 2 (fun i j => (m i).vals.getD j undef))) (k : Nat) (hk : k < n) :
    ∃ b off, a = some ⟨b, off, none⟩ ∧ b < w.heap.size ∧ w.cell? ⟨b, off + k * 2, none⟩ = some (.int .i64 (m k).fr) ∧ w.cell? ⟨b, off + k * 2 + 1, none⟩ = some (.slice (m k).wa (m k).wn (m k).wc) := by
  rcases h.out.2 with h1 | ⟨b, off, e, hlt, hc⟩
  · omega
  · exact ⟨b, off, e, hlt, hc k hk 0 (by omega), hc k hk 1 (by omega)⟩

/-- a configuration's block -/
def cv (c : ConfC) : Array Value := #[.slice c.pa c.pn c.pc, .slice c.ca c.cn c.cc, .slice c.ma c.mn c.mc, .slice c.w.la c.w.ln c.w.lc, .slice c.w.na c.w.nn c.w.nc, .int .i64 c.w.sw, .int .i64 c.w.id, .int .i64 c.w.ch, .int .i64 c.w.qu, .int .i64 c.w.sl, .int .i64 c.w.pp, .slice c.da c.dn c.dc, .slice c.ua c.un c.uc]
set_option maxRecDepth 100000 in
set_option maxHeartbeats 4000000 in
theorem short_any (c : ConfC) (w : World) (h : c.Ok w) : Calls Tryz.prog 7 #[.agg #[.slice c.pa c.pn c.pc, .slice c.ca c.cn c.cc, .slice c.ma c.mn c.mc, .slice c.w.la c.w.ln c.w.lc, .slice c.w.na c.w.nn c.w.nc, .int .i64 c.w.sw, .int .i64 c.w.id, .int .i64 c.w.ch, .int .i64 c.w.qu, .int .i64 c.w.sl, .int .i64 c.w.pp, .slice c.da c.dn c.dc, .slice c.ua c.un c.uc]] w (ShPost c w) := by
  have B := Lib.hid (Box.new w (cv c) 33)
  have HB : Hid (Below w.heap.size w _) := Lib.hid ((Below.refl w.heap.size w).alloc (Nat.le_refl _) (.cells (cv c) 33))
  have P := Lib.hid (rowsV_below h.parts.out ((Below.refl w.heap.size w).alloc (Nat.le_refl _) (.cells (cv c) 33)) (Nat.le_refl _))
  have M := Lib.hid (rowsV_below h.modes.out ((Below.refl w.heap.size w).alloc (Nat.le_refl _) (.cells (cv c) 33)) (Nat.le_refl _))
  have hp := h.parts.out.1
  have hm := h.modes.out.1
  unfold cv at B HB P M
  go_enter Tryz.func7, Tryz.ntmps7
  by_cases hs : c.pn ≤ 100 ∧ c.cn ≤ 100 ∧ c.mn ≤ 100 ∧ c.w.ln ≤ 100 ∧ c.w.nn ≤ 100 ∧ c.dn ≤ 100 ∧ c.un ≤ 100
  · have HS := Lib.hid hs
    obtain ⟨s1, s2, s3, s4, s5, s6, s7⟩ := hs
    go_wp2_with fail
    generalize w.alloc (.cells #[.slice c.pa c.pn c.pc, .slice c.ca c.cn c.cc, .slice c.ma c.mn c.mc, .slice c.w.la c.w.ln c.w.lc, .slice c.w.na c.w.nn c.w.nc, .int .i64 c.w.sw, .int .i64 c.w.id, .int .i64 c.w.ch, .int .i64 c.w.qu, .int .i64 c.w.sl, .int .i64 c.w.pp, .slice c.da c.dn c.dc, .slice c.ua c.un c.uc] 33) = w1 at B HB P M ⊢
    go_loopw [3] (fun i wr => ∃ k : Nat, k ≤ c.pn ∧ i = .int .i64 k ∧ Hid (∀ i, i < k → ShP (c.p i)) ∧ Hid (Below w1.heap.size w1 wr)) (fun i _ => c.pn - (intOf i).toNat)
    case atStart => exact ⟨0, by omega, rfl, Lib.hid (fun i hi => by omega), Lib.hid (Below.refl _ _)⟩
    case round =>
      obtain ⟨k, hk, rfl, HI, HC⟩ := hrel
      have bc := (B.out.next HC.out).cell
      by_cases hk1 : k < c.pn
      · obtain ⟨b, off, ea, hlt, p0, p1, p2, p3, p4, p5, p6, p7, p8, p9, p10⟩ := part_at P k hk1
        have EA := Lib.hid ea
        rw [ea] at bc
        have p0 := keep HC.out p0 hlt
        have p1 := keep HC.out p1 hlt
        have p2 := keep HC.out p2 hlt
        have p3 := keep HC.out p3 hlt
        have p4 := keep HC.out p4 hlt
        have p5 := keep HC.out p5 hlt
        have p6 := keep HC.out p6 hlt
        have p7 := keep HC.out p7 hlt
        have p8 := keep HC.out p8 hlt
        have p9 := keep HC.out p9 hlt
        have p10 := keep HC.out p10 hlt
        clear ea
        by_cases hq : ShP (c.p k)
        · have HQ := Lib.hid hq
          obtain ⟨q1, q2, q3, q4, q5, q6, q7⟩ := hq
          go_wp2_with fail
          have HI' : Hid (∀ i, i < k + 1 → ShP (c.p i)) := Lib.hid (fun i hi => by
            by_cases e : i = k
            · subst e; exact HQ.out
            · exact HI.out i (by omega))
          go_roundw
          case rel => exact ⟨k + 1, by omega, by go_num, HI', Lib.hid (HC.out.alloc HC.out.size _)⟩
          case measure => simp [intOf]; omega
        · have HN : Hid (¬ Sh c) := Lib.hid (fun h => hq (h.2.1 k hk1))
          have ways : 100 < (c.p k).rn ∨ ((c.p k).rn ≤ 100 ∧ 100 < (c.p k).pn) ∨ ((c.p k).rn ≤ 100 ∧ (c.p k).pn ≤ 100 ∧ 100 < (c.p k).on) ∨ ((c.p k).rn ≤ 100 ∧ (c.p k).pn ≤ 100 ∧ (c.p k).on ≤ 100 ∧ 100 < (c.p k).sn) ∨ ((c.p k).rn ≤ 100 ∧ (c.p k).pn ≤ 100 ∧ (c.p k).on ≤ 100 ∧ (c.p k).sn ≤ 100 ∧ 100 < (c.p k).qn) ∨ ((c.p k).rn ≤ 100 ∧ (c.p k).pn ≤ 100 ∧ (c.p k).on ≤ 100 ∧ (c.p k).sn ≤ 100 ∧ (c.p k).qn ≤ 100 ∧ 100 < (c.p k).tn) ∨ ((c.p k).rn ≤ 100 ∧ (c.p k).pn ≤ 100 ∧ (c.p k).on ≤ 100 ∧ (c.p k).sn ≤ 100 ∧ (c.p k).qn ≤ 100 ∧ (c.p k).tn ≤ 100 ∧ 100 < (c.p k).cn) := by
            unfold ShP at hq; omega
          clear hq
          generalize c.p k = q at *
          rcases ways with k1 | ⟨k1, k2⟩ | ⟨k1, k2, k3⟩ | ⟨k1, k2, k3, k4⟩ | ⟨k1, k2, k3, k4, k5⟩ | ⟨k1, k2, k3, k4, k5, k6⟩ | ⟨k1, k2, k3, k4, k5, k6, k7⟩
          all_goals
            go_wp2_with fail
            go_ret
            exact ⟨false, no_iff HN.out, rfl, (below_next HB.out HC.out).alloc (Nat.le_trans HB.out.size HC.out.size) _⟩
      · obtain rfl : k = c.pn := by omega
        have HB := below_hid HB HC.out
        have B := Lib.hid (B.out.next HC.out)
        have M := Lib.hid (rowsV_below M.out HC.out (Nat.le_refl _))
        clear bc HC P
        rename_i w1'
        have bc := B.out.cell
        go_wp2_with fail
        go_loop [5] (fun i => ∃ k : Nat, k ≤ c.mn ∧ i = .int .i64 k ∧ Hid (∀ i, i < k → (c.m i).wn ≤ 100)) (fun i => c.mn - (intOf i).toNat)
        case atStart => exact ⟨0, by omega, rfl, Lib.hid (fun i hi => by omega)⟩
        case round =>
          obtain ⟨k, hk, rfl, HJ⟩ := hrel
          by_cases hk1 : k < c.mn
          · obtain ⟨b, off, ea, hlt, p0, p1⟩ := mode_at M k hk1
            rw [ea] at bc
            by_cases hq : (c.m k).wn ≤ 100
            · have HJ' : Hid (∀ i, i < k + 1 → (c.m i).wn ≤ 100) := Lib.hid (fun i hi => by
                by_cases e : i = k
                · subst e; exact hq
                · exact HJ.out i (by omega))
              clear ea
              go_wp2_with fail
              go_round
              case rel => exact ⟨k + 1, by omega, by go_num, HJ'⟩
              case measure => simp [intOf]; omega
            · have HN : Hid (¬ Sh c) := Lib.hid (fun h => hq (h.2.2 k hk1))
              have hq2 : 100 < (c.m k).wn := by omega
              clear hq ea
              go_wp2_with fail
              go_ret
              exact ⟨false, no_iff HN.out, rfl, HB.out⟩
          · obtain rfl : k = c.mn := by omega
            have HY : Hid (Sh c) := Lib.hid ⟨HS.out, HI.out, HJ.out⟩
            go_wp2_with fail
            go_ret
            exact ⟨true, yes_iff HY.out, rfl, HB.out⟩
  · have HN : Hid (¬ Sh c) := Lib.hid (fun h => hs h.1)
    have ways : 100 < c.pn ∨ (c.pn ≤ 100 ∧ 100 < c.cn) ∨ (c.pn ≤ 100 ∧ c.cn ≤ 100 ∧ 100 < c.mn) ∨ (c.pn ≤ 100 ∧ c.cn ≤ 100 ∧ c.mn ≤ 100 ∧ 100 < c.w.ln) ∨ (c.pn ≤ 100 ∧ c.cn ≤ 100 ∧ c.mn ≤ 100 ∧ c.w.ln ≤ 100 ∧ 100 < c.w.nn) ∨ (c.pn ≤ 100 ∧ c.cn ≤ 100 ∧ c.mn ≤ 100 ∧ c.w.ln ≤ 100 ∧ c.w.nn ≤ 100 ∧ 100 < c.dn) ∨ (c.pn ≤ 100 ∧ c.cn ≤ 100 ∧ c.mn ≤ 100 ∧ c.w.ln ≤ 100 ∧ c.w.nn ≤ 100 ∧ c.dn ≤ 100 ∧ 100 < c.un) := by omega
    clear hs
    rcases ways with k1 | ⟨k1, k2⟩ | ⟨k1, k2, k3⟩ | ⟨k1, k2, k3, k4⟩ | ⟨k1, k2, k3, k4, k5⟩ | ⟨k1, k2, k3, k4, k5, k6⟩ | ⟨k1, k2, k3, k4, k5, k6, k7⟩
    all_goals
      go_wp2_with fail
      go_ret
      exact ⟨false, no_iff HN.out, rfl, HB.out⟩
end Go.Proofs.YtlafeijkpnpdeaaGreat.Short

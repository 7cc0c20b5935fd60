/- What reading gives a walk: rows, structs, arrays. -/
import Derived.Test.YtgkahcchekiogaaProg
import Derived.Test.YtgkahcchekiogaaKit
namespace Go.Proofs.Ytgkahcchekiogaa.Conf
open Go.ChangeShapes Go.WideShapes Go.ChangeAt Go.RowKit Go.Deep Base Go.Joins Kit
set_option linter.unusedVariables false
set_option linter.unusedSimpArgs false

/-- a slice of rows of sz values each -/
def RowsV (w : World) (a : Option Addr) (n sz : Nat) (val : Nat → Nat → Value) : Prop :=
  n ≤ 9223372036854775807 ∧ (n = 0 ∨ ∃ b off, a = some ⟨b, off, none⟩ ∧ b < w.heap.size ∧ ∀ i, i < n → ∀ j, j < sz → w.cell? ⟨b, off + (i * sz + j), none⟩ = some (val i j))
theorem rowsV_below {w w1 : World} {B : Nat} {a : Option Addr} {n sz : Nat} {f : Nat → Nat → Value} (h : RowsV w a n sz f) (hb : Below B w w1) (hB : w.heap.size ≤ B) : RowsV w1 a n sz f := by
  obtain ⟨hn, h1⟩ := h
  refine ⟨hn, ?_⟩
  rcases h1 with h1 | ⟨b, off, e, hlt, hc⟩
  · exact .inl h1
  · exact .inr ⟨b, off, e, Nat.lt_of_lt_of_le hlt (hb.mono hB).size, fun i hi j hj => keep hb (hc i hi j hj) (Nat.lt_of_lt_of_le hlt hB)⟩
theorem rowsV_congr {w : World} {a : Option Addr} {n sz : Nat} {f g : Nat → Nat → Value} (h : RowsV w a n sz f) (e : ∀ i, i < n → ∀ j, j < sz → f i j = g i j) : RowsV w a n sz g := by
  obtain ⟨hn, h1⟩ := h
  refine ⟨hn, ?_⟩
  rcases h1 with h1 | ⟨b, off, e1, hlt, hc⟩
  · exact .inl h1
  · exact .inr ⟨b, off, e1, hlt, fun i hi j hj => by rw [← e i hi j hj]; exact hc i hi j hj⟩

section
variable {H : Type} {enc : TypeId × Value → H} {w : World} {held : Bool}

theorem rowsV_in {P : Program} {t e : TypeId} {sz : Nat} {fuel : Nat} {cs : List Value} {x : DataW H × List MemPlace} (ht : P.underlying t = some (.slice e)) (hsz : P.cellsOf e = sz) (hp : 0 < sz)
    (h : DataW.trod enc P w 0 (fun _ => true) held fuel t cs = some x) :
    ∃ (a : Option Addr) (n cap : Nat) (el : Nat → List Value), cs = [.slice a n cap] ∧ n ≤ cap ∧ cap ≤ maxLen ∧ RowsV w a n sz (fun i j => (el i).getD j undef) ∧
      ∀ i, i < n → (el i).length = sz ∧ ∃ m y, DataW.trod enc P w 0 (fun _ => true) held m e (el i) = some y := by
  rcases open_slice ht h with ⟨hcs, hx⟩ | ⟨a, len, cap, m, n, D, Pl, hcs, _, hl, hm, hmm, hx, hel⟩
  · exact ⟨none, 0, 0, fun _ => [], hcs, by omega, by unfold maxLen; omega, ⟨by omega, .inl rfl⟩, fun i hi => by omega⟩
  · simp only [if_true] at hmm
    have each : ∀ i, i < len → ∃ cs' : List Value, (∀ j, j < sz → w.cell? ((a.add (i * sz)).add j) = some (cs'.getD j undef)) ∧ cs'.length = sz ∧ ∃ m y, DataW.trod enc P w 0 (fun _ => true) held m e cs' = some y := by
      intro i hi
      obtain ⟨cs', h1, h2⟩ := hel i (by omega)
      rw [hsz] at h1
      obtain ⟨_, hlen, hcell⟩ := World.cells?_some h1
      refine ⟨cs', fun j hj => ?_, hlen, _, _, h2⟩
      rw [hcell j (by omega), List.getD_eq_getElem?_getD, List.getElem?_eq_getElem (by omega)]; rfl
    obtain ⟨el, hel'⟩ := choose_lt each
    refine ⟨some a, len, cap, el, hcs, hl, hm, ⟨by unfold maxLen at hm; omega, ?_⟩, fun i hi => (hel' i hi).2⟩
    by_cases h0 : len = 0
    · exact .inl h0
    · obtain ⟨b, off, spot⟩ := a
      have hc0 := (hel' 0 (by omega)).1 0 hp
      have hspot : spot = none := by simpa [Addr.add] using World.cell?_spot hc0
      subst hspot
      refine .inr ⟨b, off, rfl, ?_, fun i hi j hj => ?_⟩
      · have h9 := lt_of_cell hc0
        rw [Open.add_none, Open.add_none] at h9; exact h9
      · have h9 := (hel' i hi).1 j hj
        rw [Open.add_none, Open.add_none, Nat.add_assoc] at h9; exact h9

theorem struct_at {P : Program} {e : TypeId} {fs : Array Field} {fuel : Nat} {cs : List Value} {x : DataW H × List MemPlace} (he : P.underlying e = some (.struct fs)) (h : DataW.trod enc P w 0 (fun _ => true) held fuel e cs = some x)
    (i : Nat) {f : Field} (hf : fs[i]? = some f) {o k : Nat} {t : TypeId} (ho : f.offset = o) (ht : f.type = t) (hk : P.cellsOf t = k) :
    ∃ m y, DataW.trod enc P w 0 (fun _ => true) held m t ((cs.drop o).take k) = some y := by
  subst ho ht hk
  obtain ⟨xs, n, rfl, rfl, hl, hxs, hfs⟩ := DataW.trod_struct he h
  have h4 := hfs i f hf
  have hi : i < fs.size := by
    refine Nat.lt_of_not_le fun hle => ?_
    rw [Array.getElem?_eq_none hle] at hf; cases hf
  rw [List.getElem?_eq_getElem (by omega)] at h4
  exact ⟨n, _, h4⟩
theorem struct_len {P : Program} {e : TypeId} {fs : Array Field} {fuel : Nat} {cs : List Value} {x : DataW H × List MemPlace} (he : P.underlying e = some (.struct fs)) (h : DataW.trod enc P w 0 (fun _ => true) held fuel e cs = some x) : cs.length = P.cellsOf e := by
  obtain ⟨xs, n, rfl, rfl, hl, hxs, hfs⟩ := DataW.trod_struct he h
  exact hl
theorem int_at {P : Program} {t : TypeId} {fuel : Nat} {v : Value} {x : DataW H × List MemPlace} (ht : P.underlying t = some (.int .i64)) (h : DataW.trod enc P w 0 (fun _ => true) held fuel t [v] = some x) : ∃ a, v = .int .i64 a ∧ I64 a := by
  obtain ⟨a, e, _, hw⟩ := DataW.trod_int ht h
  exact ⟨a, by simpa using e, Open.wf64 hw⟩
theorem bool_at {P : Program} {t : TypeId} {fuel : Nat} {v : Value} {x : DataW H × List MemPlace} (ht : P.underlying t = some .bool) (h : DataW.trod enc P w 0 (fun _ => true) held fuel t [v] = some x) : ∃ a, v = .bool a := by
  obtain ⟨a, e, _⟩ := DataW.trod_bool ht h
  exact ⟨a, by simpa using e⟩
theorem rows_at_ {P : Program} {t e : TypeId} {fs : Array Field} {fuel : Nat} {v : Value} {x : DataW H × List MemPlace} (ht : P.underlying t = some (.slice e)) (he : P.underlying e = some (.struct fs)) (hf : Open.allIntsB P fs = true) (hc : P.cellsOf e = fs.size) (hsz : 0 < fs.size) {sz : Nat} (hs : fs.size = sz)
    (h : DataW.trod enc P w 0 (fun _ => true) held fuel t [v] = some x) : ∃ a n c f, v = .slice a n c ∧ Open.RowsIn w a n sz f := by
  subst hs
  obtain ⟨a, n, c, f, e, _, _, hr⟩ := Open.rows_in ht he (Open.allInts_of hf) hc hsz h
  exact ⟨a, n, c, f, by simpa using e, hr⟩
theorem ints_at_ {P : Program} {t e : TypeId} {fuel : Nat} {v : Value} {x : DataW H × List MemPlace} (ht : P.underlying t = some (.slice e)) (he : P.underlying e = some (.int .i64)) (hc : P.cellsOf e = 1)
    (h : DataW.trod enc P w 0 (fun _ => true) held fuel t [v] = some x) : ∃ (a : Option Addr) (n c : Nat) (f : Nat → Int), v = .slice a n c ∧ Open.RowsIn w a n 1 (fun i _ => f i) := by
  obtain ⟨a, n, c, f, e, _, _, hr⟩ := Open.ints_in ht he hc h
  exact ⟨a, n, c, f, by simpa using e, hr⟩
end

theorem arr_in {H : Type} {enc : TypeId × Value → H} {w : World} {held : Bool} {P : Program} {t e : TypeId} {n : Nat} (ht : P.underlying t = some (.array n e)) (he : P.underlying e = some (.int .i64)) (hc : P.cellsOf e = 1) (hn : P.cellsOf t = n) {fuel : Nat} {cs : List Value} {x : DataW H × List MemPlace}
    (h : DataW.trod enc P w 0 (fun _ => true) held fuel t cs = some x) : ∃ f : Nat → Int, cs.length = n ∧ ∀ i, i < n → cs[i]? = some (.int .i64 (f i)) ∧ I64 (f i) := by
  obtain ⟨xs, m, rfl, rfl, hl, hxs, hfs⟩ := DataW.trod_array ht h
  have each : ∀ i, i < n → ∃ a : Int, cs[i]? = some (.int .i64 a) ∧ I64 a := fun i hi => by
    have h4 := hfs i hi
    rw [hc, Nat.mul_one, List.getElem?_eq_getElem (by omega)] at h4
    obtain ⟨a, hv, _, hw⟩ := DataW.trod_int he h4
    refine ⟨a, ?_, Open.wf64 hw⟩
    have e1 : ((cs.drop i).take 1)[0]? = some (.int .i64 a) := by rw [hv]; rfl
    rw [List.getElem?_take, if_pos (by omega), List.getElem?_drop] at e1
    exact e1
  obtain ⟨f, hf⟩ := choose_lt each
  exact ⟨f, by omega, hf⟩
theorem okWide_array {P : Program} {w : World} {r : Reach} {base : Nat} {t e : TypeId} {n : Nat} {v : Value} (ht : P.underlying t = some (.array n e)) (h : Value.okWide P w r base t v) : ∃ cs, v = .agg cs ∧ cs.size = P.cellsOf t := by
  simp only [Value.okWide, ht] at h
  obtain ⟨cs, h1, h2, _⟩ := h
  exact ⟨cs, h1, h2⟩
theorem agg_list {cs : Array Value} {l : List Value} (h : (Value.cells (.agg cs)).toList = l) : cs = l.toArray := by
  have h : cs.toList = l := h
  subst h; simp
end Go.Proofs.Ytgkahcchekiogaa.Conf

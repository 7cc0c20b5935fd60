/- The laws of valid: Plain, works. -/
import Derived.Test.YtgkahcchekiogaaVck
namespace Go.Proofs.Ytgkahcchekiogaa.Vpl
open Go.RowKit Base Kit Conf Conf2 PowA PowB Vfa Vfb Val Vld Vpa Vpb Vpr Vsh Short Vcf Vch Vci Vnu Vmo Vck
set_option linter.unusedVariables false
set_option linter.unusedSimpArgs false
def plP (n : Nat) : PartC where
  ra := some ⟨n + 1, 0, none⟩
  rn := 1
  rc := 1
  rb := fun _ => 0
  rs := fun _ => 32
  rw := fun _ => true
  pa := some ⟨n + 1 + 1, 0, none⟩
  pn := 1
  pc := 1
  pf := fun _ j => match j with | 0 => 1 | 1 => 1 | _ => 20
  oa := none
  on := 0
  oc := 0
  oq := fun _ => false
  oi := fun _ => false
  os := fun _ => 0
  od := fun _ => 0
  sa := none
  sn := 0
  sc := 0
  sf := fun _ _ => 0
  fl := 0
  qa := none
  qn := 0
  qc := 0
  qf := fun _ _ => 0
  ta := none
  tn := 0
  tc := 0
  tf := fun _ => 0
  cap := 20
  bud := 1099511627776
  lad := 0
  ca := some ⟨n + 1 + 1 + 1, 0, none⟩
  cn := 5
  cc := 5
  cf := fun _ => 0
def plM (n : Nat) : ModeC where
  fr := 10000
  wa := some ⟨n + 1 + 1 + 1 + 1 + 1, 0, none⟩
  wn := 1
  wc := 1
  wf := fun _ j => match j with | 0 => 0 | 1 => 1000 | _ => 5000
def plW (n : Nat) : PowC where
  la := some ⟨n + 1 + 1 + 1 + 1 + 1 + 1 + 1, 0, none⟩
  ln := 2
  lc := 2
  lf := fun i j => match i, j with | 0, 0 => 5 | 0, _ => 10 | _, 0 => 10 | _, _ => 40
  na := none
  nn := 0
  nc := 0
  nf := fun _ _ => 0
  sw := 0
  id := 0
  ch := 1
  qu := 8
  sl := 32768
  pp := 100
def plC (n : Nat) : ConfC where
  pa := some ⟨n + 1 + 1 + 1 + 1, 0, none⟩
  pn := 1
  pc := 1
  p := fun _ => plP n
  ca := none
  cn := 0
  cc := 0
  cf := fun _ _ => 0
  ma := some ⟨n + 1 + 1 + 1 + 1 + 1 + 1, 0, none⟩
  mn := 1
  mc := 1
  m := fun _ => plM n
  w := plW n
  da := none
  dn := 0
  dc := 0
  df := fun _ => 0
  ua := none
  un := 0
  uc := 0
  uf := fun _ => 0
theorem pl_check (n : Nat) : CheckR (plC n) = (0, 0) := by
  kernel_rfl
def noC (n : Nat) : ConfC := { plC n with pa := none, pn := 0, pc := 0 }
theorem no_check (n : Nat) : CheckR (noC n) = (20, 0) := by
  kernel_rfl
def plWd (w : World) : World := (((((((w.alloc (.cells #[.slice (some ⟨w.heap.size + 1 + 1 + 1 + 1, 0, none⟩) 1 1, .slice none 0 0, .slice (some ⟨w.heap.size + 1 + 1 + 1 + 1 + 1 + 1, 0, none⟩) 1 1, .slice (some ⟨w.heap.size + 1 + 1 + 1 + 1 + 1 + 1 + 1, 0, none⟩) 2 2, .slice none 0 0, .int .i64 0, .int .i64 0, .int .i64 1, .int .i64 8, .int .i64 32768, .int .i64 100, .slice none 0 0, .slice none 0 0] 59)).alloc (.cells #[.int .i64 0, .int .i64 32, .bool true] 145)).alloc (.cells #[.int .i64 1, .int .i64 1, .int .i64 20] 102)).alloc (.cells #[.int .i64 0, .int .i64 0, .int .i64 0, .int .i64 0, .int .i64 0] 3)).alloc (.cells #[.slice (some ⟨w.heap.size + 1, 0, none⟩) 1 1, .slice (some ⟨w.heap.size + 1 + 1, 0, none⟩) 1 1, .slice none 0 0, .slice none 0 0, .int .i64 0, .slice none 0 0, .slice none 0 0, .int .i64 20, .int .i64 1099511627776, .int .i64 0, .slice (some ⟨w.heap.size + 1 + 1 + 1, 0, none⟩) 5 5] 72)).alloc (.cells #[.int .i64 0, .int .i64 1000, .int .i64 5000] 85)).alloc (.cells #[.int .i64 10000, .slice (some ⟨w.heap.size + 1 + 1 + 1 + 1 + 1, 0, none⟩) 1 1] 83)).alloc (.cells #[.int .i64 5, .int .i64 10, .int .i64 10, .int .i64 40] 119)
theorem box_at {W : World} {m : Nat} {vs : Array Value} {T : TypeId} (h : W.heap.size = m) : Box (W.alloc (.cells vs T)) m vs T := h ▸ Box.new _ _ _
theorem rowsV_box {w : World} {b n sz : Nat} {vs : Array Value} {T : TypeId} {val : Nat → Nat → Value} (h : Box w b vs T) (hn : n ≤ 1000) (hc : ∀ i, i < n → ∀ j, j < sz → vs[0 + (i * sz + j)]? = some (val i j)) : RowsV w (some ⟨b, 0, none⟩) n sz val :=
  ⟨by omega, .inr ⟨b, 0, rfl, h.lt, fun i hi j hj => (h.cell _).trans (hc i hi j hj)⟩⟩
theorem rowsI_box {w : World} {b n sz : Nat} {vs : Array Value} {T : TypeId} {f : Nat → Nat → Int} (h : Box w b vs T) (hn : n ≤ 1000) (hc : ∀ i, i < n → ∀ j, j < sz → vs[0 + (i * sz + j)]? = some (.int .i64 (f i j)) ∧ I64 (f i j)) : Open.RowsIn w (some ⟨b, 0, none⟩) n sz f :=
  ⟨by omega, .inr ⟨b, 0, rfl, h.lt, fun i hi j hj => (h.cell _).trans (hc i hi j hj).1⟩, fun i hi j hj => (hc i hi j hj).2⟩
theorem rowsV_none {w : World} {sz : Nat} {val : Nat → Nat → Value} : RowsV w none 0 sz val := ⟨by omega, .inl rfl⟩
theorem rowsI_none {w : World} {sz : Nat} {f : Nat → Nat → Int} : Open.RowsIn w none 0 sz f := ⟨by omega, .inl rfl, fun i hi => by omega⟩
theorem lit {a : Int} (h : decide (-9223372036854775808 ≤ a ∧ a ≤ 9223372036854775807) = true) : I64 a := (of_decide_eq_true h : -9223372036854775808 ≤ a ∧ a ≤ 9223372036854775807)
theorem lenB {n : Nat} (h : Nat.ble n 1000 = true) : n ≤ 1000 := Nat.le_of_ble_eq_true h
theorem pl_ok (w : World) : (plC w.heap.size).Ok (plWd w) := by
  have b1 : Box (plWd w) (w.heap.size + 1) #[.int .i64 0, .int .i64 32, .bool true] 145 := by
    unfold plWd
    refine Box.alloc ?_ _
    refine Box.alloc ?_ _
    refine Box.alloc ?_ _
    refine Box.alloc ?_ _
    refine Box.alloc ?_ _
    refine Box.alloc ?_ _
    exact box_at (by simp)
  have b2 : Box (plWd w) (w.heap.size + 1 + 1) #[.int .i64 1, .int .i64 1, .int .i64 20] 102 := by
    unfold plWd
    refine Box.alloc ?_ _
    refine Box.alloc ?_ _
    refine Box.alloc ?_ _
    refine Box.alloc ?_ _
    refine Box.alloc ?_ _
    exact box_at (by simp)
  have b3 : Box (plWd w) (w.heap.size + 1 + 1 + 1) #[.int .i64 0, .int .i64 0, .int .i64 0, .int .i64 0, .int .i64 0] 3 := by
    unfold plWd
    refine Box.alloc ?_ _
    refine Box.alloc ?_ _
    refine Box.alloc ?_ _
    refine Box.alloc ?_ _
    exact box_at (by simp)
  have b4 : Box (plWd w) (w.heap.size + 1 + 1 + 1 + 1) #[.slice (some ⟨w.heap.size + 1, 0, none⟩) 1 1, .slice (some ⟨w.heap.size + 1 + 1, 0, none⟩) 1 1, .slice none 0 0, .slice none 0 0, .int .i64 0, .slice none 0 0, .slice none 0 0, .int .i64 20, .int .i64 1099511627776, .int .i64 0, .slice (some ⟨w.heap.size + 1 + 1 + 1, 0, none⟩) 5 5] 72 := by
    unfold plWd
    refine Box.alloc ?_ _
    refine Box.alloc ?_ _
    refine Box.alloc ?_ _
    exact box_at (by simp)
  have b5 : Box (plWd w) (w.heap.size + 1 + 1 + 1 + 1 + 1) #[.int .i64 0, .int .i64 1000, .int .i64 5000] 85 := by
    unfold plWd
    refine Box.alloc ?_ _
    refine Box.alloc ?_ _
    exact box_at (by simp)
  have b6 : Box (plWd w) (w.heap.size + 1 + 1 + 1 + 1 + 1 + 1) #[.int .i64 10000, .slice (some ⟨w.heap.size + 1 + 1 + 1 + 1 + 1, 0, none⟩) 1 1] 83 := by
    unfold plWd
    refine Box.alloc ?_ _
    exact box_at (by simp)
  have b7 : Box (plWd w) (w.heap.size + 1 + 1 + 1 + 1 + 1 + 1 + 1) #[.int .i64 5, .int .i64 10, .int .i64 10, .int .i64 40] 119 := by
    unfold plWd
    exact box_at (by simp)
  have one : ∀ {i : Nat}, i < 1 → i = 0 := fun h => by omega
  have PO : (plP w.heap.size).Ok (plWd w) := by
    refine ⟨Lib.hid (rowsV_box b1 (lenB rfl) ?_), fun i hi => ⟨lit rfl, lit rfl⟩, Lib.hid (rowsI_box b2 (lenB rfl) ?_), Lib.hid rowsV_none, fun i hi => ⟨lit rfl, lit rfl⟩, Lib.hid rowsI_none, lit rfl, Lib.hid rowsI_none, Lib.hid rowsI_none, lit rfl, lit rfl, lit rfl, Lib.hid (rowsI_box b3 (lenB rfl) ?_)⟩
    · intro i hi j hj
      obtain rfl := one hi
      match j, hj with
      | 0, _ => rfl
      | 1, _ => rfl
      | 2, _ => rfl
    · intro i hi j hj
      obtain rfl := one hi
      match j, hj with
      | 0, _ => exact ⟨rfl, lit rfl⟩
      | 1, _ => exact ⟨rfl, lit rfl⟩
      | 2, _ => exact ⟨rfl, lit rfl⟩
    · intro i hi j hj
      obtain rfl := one hj
      match i, hi with
      | 0, _ => exact ⟨rfl, lit rfl⟩
      | 1, _ => exact ⟨rfl, lit rfl⟩
      | 2, _ => exact ⟨rfl, lit rfl⟩
      | 3, _ => exact ⟨rfl, lit rfl⟩
      | 4, _ => exact ⟨rfl, lit rfl⟩
  have MO : (plM w.heap.size).Ok (plWd w) := by
    refine ⟨lit rfl, Lib.hid (rowsI_box b5 (lenB rfl) ?_)⟩
    intro i hi j hj
    obtain rfl := one hi
    match j, hj with
    | 0, _ => exact ⟨rfl, lit rfl⟩
    | 1, _ => exact ⟨rfl, lit rfl⟩
    | 2, _ => exact ⟨rfl, lit rfl⟩
  have WO : (plW w.heap.size).Ok (plWd w) := by
    refine ⟨Lib.hid (rowsI_box b7 (lenB rfl) ?_), Lib.hid rowsI_none, lit rfl, lit rfl, lit rfl, lit rfl, lit rfl, lit rfl⟩
    intro i hi j hj
    match i, j, hi, hj with
    | 0, 0, _, _ => exact ⟨rfl, lit rfl⟩
    | 0, 1, _, _ => exact ⟨rfl, lit rfl⟩
    | 1, 0, _, _ => exact ⟨rfl, lit rfl⟩
    | 1, 1, _, _ => exact ⟨rfl, lit rfl⟩
  refine ⟨Lib.hid (rowsV_box b4 (lenB rfl) ?_), fun i hi => PO, Lib.hid rowsI_none, Lib.hid (rowsV_box b6 (lenB rfl) ?_), fun i hi => MO, WO, Lib.hid rowsI_none, Lib.hid rowsI_none, Nat.le_refl 0⟩
  · intro i hi j hj
    obtain rfl := one hi
    match j, hj with
    | 0, _ => rfl
    | 1, _ => rfl
    | 2, _ => rfl
    | 3, _ => rfl
    | 4, _ => rfl
    | 5, _ => rfl
    | 6, _ => rfl
    | 7, _ => rfl
    | 8, _ => rfl
    | 9, _ => rfl
    | 10, _ => rfl
  · intro i hi j hj
    obtain rfl := one hi
    match j, hj with
    | 0, _ => rfl
    | 1, _ => rfl
set_option maxHeartbeats 2000000 in
theorem plain_any (w : World) : Calls Try.prog 74 #[] w fun e w' => ∃ n c, c = plC n ∧ e = .returned (.agg #[.slice c.pa c.pn c.pc, .slice c.ca c.cn c.cc, .slice c.ma c.mn c.mc, .slice c.w.la c.w.ln c.w.lc, .slice c.w.na c.w.nn c.w.nc, .int .i64 c.w.sw, .int .i64 c.w.id, .int .i64 c.w.ch, .int .i64 c.w.qu, .int .i64 c.w.sl, .int .i64 c.w.pp, .slice c.da c.dn c.dc, .slice c.ua c.un c.uc]) ∧ c.Ok w' ∧ Below w.heap.size w w' := by
  have B : Below w.heap.size w (plWd w) := by
    unfold plWd
    repeat (first | exact Below.refl _ _ | refine Below.alloc ?_ (by first | exact Nat.le_refl _ | (simp; done) | (simp; omega)) _)
  have B := Lib.hid B
  have K := Lib.hid (pl_ok w)
  go_enter Try.func74, Try.ntmps74
  go_wp2_with fail
  refine bodyPost_ret (v := .agg #[.slice (some ⟨w.heap.size + 1 + 1 + 1 + 1, 0, none⟩) 1 1, .slice none 0 0, .slice (some ⟨w.heap.size + 1 + 1 + 1 + 1 + 1 + 1, 0, none⟩) 1 1, .slice (some ⟨w.heap.size + 1 + 1 + 1 + 1 + 1 + 1 + 1, 0, none⟩) 2 2, .slice none 0 0, .int .i64 0, .int .i64 0, .int .i64 1, .int .i64 8, .int .i64 32768, .int .i64 100, .slice none 0 0, .slice none 0 0]) ?_ rfl ⟨w.heap.size, plC w.heap.size, rfl, rfl, K.out, B.out⟩
  simp [results, Try.results74, go_sem]
end Go.Proofs.Ytgkahcchekiogaa.Vpl

/- Package agenda: an agenda's blocks; least. -/
import Derived.Test.YtlafeijkpnpdeaaAga
namespace Go.Proofs.Ytlafeijkpnpdeaa.Agb
open Go.RowKit Base Kit Alt Held Agp Aga
set_option linter.unusedVariables false
set_option linter.unusedSimpArgs false
attribute [local go_sem ↓] Go.wp_at_zero Go.wp_at_succ
/-- entries' cells -/
def encE : List E → List Value
  | [] => []
  | e :: L => .int .i64 e.1 :: .int .i64 e.2.1 :: .int .i64 e.2.2 :: encE L
theorem encE_len : ∀ L : List E, (encE L).length = L.length * 3
  | [] => rfl
  | e :: L => by simp only [encE, List.length_cons, encE_len L]; omega
theorem encE_app : ∀ (L M : List E), encE (L ++ M) = encE L ++ encE M
  | [], M => rfl
  | e :: L, M => by simp only [List.cons_append, encE, encE_app L M]
theorem enc_at : ∀ (L : List E) (i : Nat), i < L.length → (encE L)[i * 3]? = some (.int .i64 (at_ L i).1) ∧ (encE L)[i * 3 + 1]? = some (.int .i64 (at_ L i).2.1) ∧ (encE L)[i * 3 + 2]? = some (.int .i64 (at_ L i).2.2)
  | [], _, h => absurd h (by simp)
  | e :: L, 0, _ => ⟨rfl, rfl, rfl⟩
  | e :: L, i + 1, h => by
    have ih := enc_at L i (by simpa using h)
    have e1 : at_ (e :: L) (i + 1) = at_ L i := rfl
    rw [show (i + 1) * 3 = i * 3 + 3 by omega, e1]
    simp only [encE]
    exact ih
theorem enc_set : ∀ (L : List E) (i : Nat) (x : E), encE (L.set i x) = (((encE L).set (i * 3) (.int .i64 x.1)).set (i * 3 + 1) (.int .i64 x.2.1)).set (i * 3 + 2) (.int .i64 x.2.2)
  | [], i, x => by simp [encE]
  | e :: L, 0, x => rfl
  | e :: L, i + 1, x => by
    rw [show (i + 1) * 3 = i * 3 + 3 by omega]
    simp only [List.set_cons_succ, encE, enc_set L i x]
/-- an agenda -/
structure Ag (w : World) (ab : Nat) (v : Value) (L : List E) (last most : Int) : Prop where
  box : Box w ab #[v, .int .i64 last, .int .i64 most, .bool true] 55
  own : w.ownsRow 0 33 3 v L.length (encE L)
  len : L.length ≤ 1000
theorem own_below {w w1 : World} {base n size : Nat} {e : TypeId} {v : Value} {xs : List Value} (h : w.ownsRow base e size v n xs) (k : Below w.heap.size w w1) : w1.ownsRow base e size v n xs := by
  by_cases hne : v = .slice none 0 0
  · subst hne
    rcases h with ⟨h1, h2 | ⟨g, cap, cur, hv, _⟩⟩
    · exact ⟨h1, .inl h2⟩
    · simp at hv
  · obtain ⟨g, c, rfl, hb, hlt⟩ := own_form h hne
    exact own_alt h (Alt.of_below (S := fun _ => False) k) (fun x => x)
theorem ag_next {w w1 : World} {ab : Nat} {v : Value} {L : List E} {last most : Int} (h : Hid (Ag w ab v L last most)) (k : Below w.heap.size w w1) : Hid (Ag w1 ab v L last most) :=
  Lib.hid ⟨h.out.box.next k, own_below h.out.own k, h.out.len⟩
/-- where an entry lies -/
theorem ent_at {w : World} {ab : Nat} {v : Value} {L : List E} {last most : Int} (h : Hid (Ag w ab v L last most)) (hn : 0 < L.length) : ∃ g cap, v = .slice (some ⟨g, 0, none⟩) L.length cap ∧ g < w.heap.size ∧ g ≠ ab := by
  obtain ⟨g, cap, rfl, _, hlt⟩ := own_form h.out.own (fun e => by
    have h1 := h.out.own.2
    rw [e] at h1
    rcases h1 with ⟨_, h2⟩ | ⟨g, cap, cur, hv, _⟩
    · omega
    · simp at hv)
  exact ⟨g, cap, rfl, hlt, own_ne h.out.own h.out.box (by decide)⟩
def EC (w : World) (g i : Nat) (x0 x1 x2 : Int) : Prop := w.cell? ⟨g, i * 3, none⟩ = some (.int .i64 x0) ∧ w.cell? ⟨g, i * 3 + 1, none⟩ = some (.int .i64 x1) ∧ w.cell? ⟨g, i * 3 + 2, none⟩ = some (.int .i64 x2)
theorem ent_cells {w : World} {ab g n cap : Nat} {L : List E} {last most : Int} (h : Hid (Ag w ab (.slice (some ⟨g, 0, none⟩) n cap) L last most)) (i : Nat) (hi : i < L.length) {x0 x1 x2 : Int} (e : Hid (at_ L i = (x0, x1, x2))) : EC w g i x0 x1 x2 := by
  obtain ⟨_, _, hv, _, _⟩ := ent_at h (by omega)
  simp only [Value.slice.injEq] at hv
  have hn : n = L.length := hv.2.1
  have hw := h.out.own
  rw [hn] at hw
  obtain ⟨a, b, c⟩ := enc_at L i hi
  rw [e.out] at a b c
  unfold EC
  rw [World.ownsRow.cellAt hw (i * 3) (by omega), World.ownsRow.cellAt hw (i * 3 + 1) (by omega), World.ownsRow.cellAt hw (i * 3 + 2) (by omega)]
  exact ⟨a, b, c⟩
/-- an agenda, since an entry -/
structure Gs (w0 w : World) (ab : Nat) (v : Value) (L : List E) (last most : Int) : Prop where
  bel : Below w0.heap.size w0 w
  ag : Hid (Ag w ab v L last most)
theorem gs_next {w0 w w1 : World} {ab : Nat} {v : Value} {L : List E} {last most : Int} (h : Hid (Gs w0 w ab v L last most)) (k : Below w.heap.size w w1) : Hid (Gs w0 w1 ab v L last most) := Lib.hid ⟨below_next h.out.bel k, ag_next h.out.ag k⟩
/-- the least so far -/
def bs (L : List E) (i : Nat) : Nat → Nat
  | 0 => i
  | d + 1 => if 2 * i + 1 + d < L.length ∧ lt (at_ L (2 * i + 1 + d)) (at_ L (bs L i d)) then 2 * i + 1 + d else bs L i d
theorem bs_lf (L : List E) (i : Nat) : bs L i 2 = lf L i := rfl
theorem bs_end {L : List E} {i d : Nat} (h : L.length ≤ 2 * i + 1 + d) (hd : d ≤ 2) : bs L i d = lf L i := by
  rw [← bs_lf]
  have s : ∀ k, d ≤ k → bs L i (k + 1) = bs L i k := fun k hk => if_neg (fun z => by omega)
  match d, hd with
  | 0, _ => rw [s 1 (by omega), s 0 (by omega)]
  | 1, _ => rw [s 1 (by omega)]
  | 2, _ => rfl
theorem bs_lt {L : List E} {i : Nat} (hi : i < L.length) : ∀ d, bs L i d < L.length
  | 0 => hi
  | d + 1 => by unfold bs; split; omega; exact bs_lt hi d
set_option maxRecDepth 100000 in
set_option maxHeartbeats 2000000 in
theorem least_any (ab : Nat) (v : Value) (L : List E) (last most : Int) (i r : Nat) (w : World) (h : Hid (Ag w ab v L last most)) (hi : i < L.length) (hr : Hid (lf L i = r)) :
    Calls Try.prog 37 #[.pointer (some ⟨ab, 0, none⟩), .int .i64 i] w fun e w' => e = .returned (.int .i64 r) ∧ Below w.heap.size w w' := by
  obtain ⟨g, cap, rfl, hlt, hne⟩ := ent_at h (by omega)
  have hl := h.out.len
  have HR := Lib.hid (fun d (h1 : L.length ≤ 2 * i + 1 + d) (h2 : d ≤ 2) => ((bs_end h1 h2).trans hr.out : bs L i d = r))
  have HR2 := Lib.hid ((bs_lf L i).trans hr.out : bs L i 2 = r)
  have HL := Lib.hid (fun d => bs_lt hi d)
  have S : Hid (Gs w w ab (.slice (some ⟨g, 0, none⟩) L.length cap) L last most) := Lib.hid ⟨Below.refl _ _, h⟩
  have HC := Lib.hid (fun w' (h : Hid (Gs w w' ab (.slice (some ⟨g, 0, none⟩) L.length cap) L last most)) k (hk : k < L.length) x0 x1 x2 e => ent_cells h.out.ag k hk (x0 := x0) (x1 := x1) (x2 := x2) e)
  clear hr h
  obtain ⟨n, hn⟩ : ∃ n, L.length = n := ⟨_, rfl⟩
  rw [hn] at hi hl HL HR S HC
  have BS := Lib.hid (fun d => (by rw [← hn]; rfl : bs L i (d + 1) = if 2 * i + 1 + d < n ∧ lt (at_ L (2 * i + 1 + d)) (at_ L (bs L i d)) then 2 * i + 1 + d else bs L i d))
  clear hn
  have bc := S.out.ag.out.box.cell
  go_enter Try.func37, Try.ntmps37
  go_wp2_with fail
  go_loopw [5, 6] (fun b k wr => ∃ d K B : Nat, d ≤ 2 ∧ Hid (K = 2 * i + 1 + d) ∧ k = .int .i64 (K : Int) ∧ b = .int .i64 (B : Int) ∧ Hid (bs L i d = B) ∧ B < n ∧ Hid (Gs w wr ab (.slice (some ⟨g, 0, none⟩) n cap) L last most)) (fun _ k _ => 2 * i + 3 - (intOf k).toNat)
  case atStart => exact ⟨0, 2 * i + 1, i, by omega, Lib.hid rfl, by go_num, rfl, Lib.hid rfl, hi, S⟩
  case round =>
    clear S bc
    obtain ⟨d, K, B, hd, HK, rfl, rfl, HB, hB, S⟩ := hrel
    have bc := S.out.ag.out.box.cell
    by_cases hd2 : d < 2
    · have hK1 : K ≤ 2 * i + 2 := by have := HK.out; omega
      by_cases hKn : K < n
      · obtain ⟨⟨x0, x1, x2⟩, hx⟩ : ∃ x, at_ L K = x := ⟨_, rfl⟩
        obtain ⟨⟨y0, y1, y2⟩, hy⟩ : ∃ x, at_ L B = x := ⟨_, rfl⟩
        obtain ⟨z, hz⟩ : ∃ z, ordI (x0, x1, x2) (y0, y1, y2) = z := ⟨_, rfl⟩
        have NB : Hid ((z < 0 → bs L i (d + 1) = K) ∧ (¬ z < 0 → bs L i (d + 1) = B)) := Lib.hid (by
          have e := BS.out d
          rw [← HK.out, HB.out, hx, hy] at e
          rw [e, ← hz, ord_lt]
          exact ⟨fun h => if_pos ⟨hKn, h⟩, fun h => if_neg (fun q => h q.2)⟩)
        have CO := Lib.hid (fun w' (h : Hid (Gs w w' ab (.slice (some ⟨g, 0, none⟩) n cap) L last most)) => (order_any x0 x1 x2 y0 y1 y2 z w' (Lib.hid hz)).mono (R' := fun e w'' => e = .returned (.int .i64 z) ∧ Hid (Gs w w'' ab (.slice (some ⟨g, 0, none⟩) n cap) L last most)) fun e w2 hh => ⟨hh.1, gs_next h hh.2⟩)
        have CX := Lib.hid (fun w' h => HC.out w' h K hKn x0 x1 x2 (Lib.hid hx))
        have CY := Lib.hid (fun w' h => HC.out w' h B hB y0 y1 y2 (Lib.hid hy))
        clear hx hy hz
        go_wp2_with fail
        have S := gs_next S (Below.refl _ _).drew
        refine Cls.cls_region (fun w' => Hid (Gs w w' ab (.slice (some ⟨g, 0, none⟩) n cap) L last most)) (by kernel_rfl) (by kernel_rfl) S ?_
        clear bc
        repeat
          (first
            | (refine Cls.cls_take (v := ?_) (by rfl) (fun w' hC => ?_) ?_
               rotate_left
               · (have r1 := hC.out.ag.out.box.cell; obtain ⟨r2, r3, r4⟩ := CX.out _ hC; obtain ⟨r5, r6, r7⟩ := CY.out _ hC
                  (go_simp)
                  try (first
                    | done
                    | (with_reducible rfl)
                    | (exact CO.out _ hC))))
            | refine Cls.cls_skip (by rfl) ?_)
          try simp only [Act.put, List.setIfInBounds_toArray, List.set_cons_zero, List.set_cons_succ, List.getElem_toArray, List.getElem_cons_succ, List.getElem_cons_zero]
        refine wpQuiet_nil ?_
        clear S CO CX CY
        intro w6 S
        by_cases hz : z < 0
        · have e := NB.out.1 hz
          have E := Lib.hid e
          clear NB e
          go_wp2_with fail
          go_roundw
          case rel => exact ⟨d + 1, K + 1, K, by omega, Lib.hid (by have := HK.out; omega), by go_num, rfl, E, hKn, S⟩
          case measure => simp [intOf]; omega
        · have e := NB.out.2 (by omega)
          have E := Lib.hid e
          clear NB e
          go_wp2_with fail
          go_roundw
          case rel => exact ⟨d + 1, K + 1, B, by omega, Lib.hid (by have := HK.out; omega), by go_num, rfl, E, hB, S⟩
          case measure => simp [intOf]; omega
      · obtain rfl : B = r := HB.out.symm.trans (HR.out d (by have := HK.out; omega) hd)
        go_wp2_with fail
        go_ret
        exact ⟨rfl, S.out.bel⟩
    · obtain rfl : d = 2 := by omega
      have hK1 : 2 * i + 3 ≤ K := by have := HK.out; omega
      obtain rfl : B = r := HB.out.symm.trans HR2.out
      go_wp2_with fail
      go_ret
      exact ⟨rfl, S.out.bel⟩
end Go.Proofs.Ytlafeijkpnpdeaa.Agb

/- slices.SortStableFunc of places; the merges' blocks, plain. -/
import Derived.Test.YtgkahcchekiogaaRtu
namespace Go.Proofs.Ytgkahcchekiogaa.Rtv
open Go.RowKit Base Kit WideA WideB Plain RefA Alt Held Rtf Rtg Rto Rtq Rtj Rtk Rtl Rtm Rtn Rtu
set_option linter.unusedVariables false
set_option linter.unusedSimpArgs false
theorem sym_all (f : Nat → Nat → Int) (lb g n cap : Nat) (w0 : World) (C : Hid (Cmp n f w0 g lb)) (hf : Hid (∀ x, x < n → f x 1 ≤ 9223372036854775807)) : ∀ K, Ih f lb g n cap w0 K
  | 0 => fun a m b d w h => by omega
  | K + 1 => fun a m b d w h ha h2 h3 H G hl hs => by
    by_cases c1 : m = a + 1
    · exact sym_up f lb g n cap a m b d w0 w C hf H G c1 h2 h3 hs
    · by_cases c2 : b = m + 1
      · exact sym_dn f lb g n cap a m b d w0 w C hf H G c1 ha c2 h3 hl
      · exact sym_gen f lb g n cap a m b d w0 w C hf (Lib.hid (fun a' m' b' d' w' h' => sym_all f lb g n cap w0 C hf K a' m' b' d' w' (by omega))) H G c1 ha c2 h2 h3 hl hs
/-- all blocks -/
def BlA (k : Nat → Int) (d : D) (s n : Nat) : Prop := ∀ q, Sr k d (q * s) (min (q * s + s) n)
/-- the first blocks -/
def In1 (k : Nat → Int) (d : D) (s n q0 : Nat) : Prop := ∀ q, q < q0 → Sr k d (q * s) (min (q * s + s) n)
/-- the first ones doubled -/
def In2 (k : Nat → Int) (d : D) (s n q0 : Nat) : Prop := In1 k d (2 * s) n q0 ∧ ∀ q, 2 * q0 ≤ q → Sr k d (q * s) (min (q * s + s) n)
variable {k : Nat → Int} {d d2 : D} {s n q0 : Nat}
theorem blk_le {q q0 s : Nat} (h : q < q0) : q * s + s ≤ q0 * s := by
  have := Nat.mul_le_mul_right s (show q + 1 ≤ q0 by omega)
  rwa [Nat.add_mul, Nat.one_mul] at this
theorem in1_step (h : In1 k d s n q0) {e : Nat} (he : e = min (q0 * s + s) n) (m : Mv d d2 (q0 * s) e) (r : Sr k d2 (q0 * s) e) : In1 k d2 s n (q0 + 1) := fun q hq => by
  by_cases c : q = q0
  · subst c; rw [← he]; exact r
  · have := blk_le (s := s) (show q < q0 by omega)
    exact sr_out (h q (by omega)) (fun t t1 t2 => m.out t (.inl (by omega)))
theorem in1_end (h : In1 k d s n q0) (hn : n < q0 * s) : BlA k d s n := fun q => by
  by_cases c : q < q0
  · exact h q c
  · have := Nat.mul_le_mul_right s (show q0 ≤ q by omega)
    intro i j h1 h2 h3; omega
theorem in2_start (h : BlA k d s n) : In2 k d s n 0 := ⟨fun q hq => by omega, fun q _ => h q⟩
theorem two_mul' (q s : Nat) : 2 * q * s = q * (2 * s) := by rw [Nat.mul_comm 2 q, Nat.mul_assoc]
theorem in2_l (h : In2 k d s n q0) (hs : q0 * (2 * s) + s ≤ n) : Sr k d (q0 * (2 * s)) (q0 * (2 * s) + s) := by
  have := h.2 (2 * q0) (Nat.le_refl _)
  rw [two_mul'] at this
  rwa [Nat.min_eq_left hs] at this
theorem in2_lx (h : In2 k d s n q0) (hs : n ≤ q0 * (2 * s) + s) : Sr k d (q0 * (2 * s)) n := by
  have := h.2 (2 * q0) (Nat.le_refl _)
  rw [two_mul'] at this
  rwa [Nat.min_eq_right hs] at this
theorem in2_r (h : In2 k d s n q0) {e : Nat} (he : e = min (q0 * (2 * s) + 2 * s) n) : Sr k d (q0 * (2 * s) + s) e := by
  have := h.2 (2 * q0 + 1) (by omega)
  rw [Nat.add_mul, Nat.one_mul, two_mul'] at this
  rw [he]
  rwa [show q0 * (2 * s) + 2 * s = q0 * (2 * s) + s + s by omega]
theorem in2_step (h : In2 k d s n q0) {e : Nat} (he : e = min (q0 * (2 * s) + 2 * s) n) (m : Mv d d2 (q0 * (2 * s)) e) (r : Sr k d2 (q0 * (2 * s)) e) : In2 k d2 s n (q0 + 1) :=
  ⟨in1_step h.1 he m r, fun q hq => sr_out (h.2 q (by omega)) (fun t t1 t2 => m.out t (.inr (by
    have h1 := Nat.mul_le_mul_right s (show 2 * (q0 + 1) ≤ q by omega)
    rw [two_mul', Nat.add_mul, Nat.one_mul] at h1
    omega)))⟩
theorem in2_end (h : In2 k d s n q0) (hn : n < q0 * (2 * s)) : BlA k d (2 * s) n := in1_end h.1 hn
theorem bla_all (h : BlA k d s n) (hs : n ≤ s) : Sr k d 0 n := by
  have := h 0
  rwa [Nat.zero_mul, Nat.zero_add, Nat.min_eq_right hs] at this
set_option maxRecDepth 100000 in
set_option maxHeartbeats 4000000 in
theorem stable_any (f : Nat → Nat → Int) (lb g n cap : Nat) (d : D) (w0 w : World) (C : Hid (Cmp n f w0 g lb)) (hf : Hid (∀ x, x < n → f x 1 ≤ 9223372036854775807)) (H : Hid (Sw w0 w g n cap d)) (G : Hid (Gdo (ky f) d n)) :
    Calls Try.prog 152 #[.slice (some ⟨g, 0, none⟩) n cap, .int .i64 (n : Int), (.func (.func 117) #[] #[.pointer (some ⟨lb, 0, none⟩)])] w (SoP w0 g n cap (ky f) d 0 n) := by
  have hn := H.out.len
  have IN := Lib.hid (fun (a b : Nat) (d : D) (w : World) (hb : b ≤ n) (hab : a ≤ b) (H : Hid (Sw w0 w g n cap d)) (G : Hid (Gdo (ky f) d n)) => ins_any f lb g n cap d w0 w C hf H G a b hb hab)
  have SY := Lib.hid (sym_all f lb g n cap w0 C hf 101)
  have hw20 : IntKind.i64.wrap 20 = 20 := rfl
  go_enter Try.func152, Try.ntmps152
  go_wp2_with fail
  go_loopw [7, 8] (fun x y wr => ∃ (q0 a0 b0 : Nat) (d1 : D), a0 ≤ n ∧ x = .int .i64 (a0 : Int) ∧ y = .int .i64 (b0 : Int) ∧ Hid (a0 = q0 * 20) ∧ b0 = a0 + 20 ∧ Hid (Sw w0 wr g n cap d1) ∧ Hid (Gdo (ky f) d1 n ∧ Mv d d1 0 n ∧ In1 (ky f) d1 20 n q0)) (fun x _ _ => n - (intOf x).toNat)
  case atStart => exact ⟨0, 0, 20, d, Nat.zero_le _, rfl, rfl, Lib.hid rfl, rfl, H, Lib.hid ⟨G.out, Mv.refl _ _ _, fun q hq => by omega⟩⟩
  case round =>
    clear H G
    obtain ⟨q0, a0, b0, d1, ha, rfl, rfl, ea, eb, H, G⟩ := hrel
    by_cases hb : b0 ≤ n
    · skip
      obtain ⟨c0, c0h⟩ : ∃ z : Nat, z = b0 + 20 := ⟨_, rfl⟩
      have c0I : (b0 : Int) + 20 = (c0 : Int) := by omega
      have c0w : IntKind.i64.wrap (c0 : Int) = (c0 : Int) := wr64 _ (by omega) (by omega)
      have c0z : (0 : Int) ≤ (c0 : Int) := by omega
      replace c0h := Lib.hid c0h
      have R := IN.out a0 b0 d1 wr hb (by omega) H (Lib.hid G.out.1)
      replace eb := Lib.hid eb
      go_wp2_with fail
      refine R.mono ?_
      rintro e1 w5 ⟨rfl, d2, H2, F⟩
      go_wp2_with fail
      go_roundw
      case rel => exact ⟨q0 + 1, b0, c0, d2, hb, rfl, rfl, Lib.hid (by rw [eb.out, ea.out]; omega), by rw [c0h.out], H2, Lib.hid ⟨F.out.1, G.out.2.1.trans (F.out.2.1.mono (Nat.zero_le _) hb), by
        have e9 := ea.out
        have e8 := eb.out
        subst e9
        exact in1_step G.out.2.2 (show b0 = min (q0 * 20 + 20) n by omega) F.out.2.1 F.out.2.2⟩⟩
      case measure => have := eb.out; simp [intOf]; omega
    · have R := IN.out a0 n d1 wr (Nat.le_refl _) ha H (Lib.hid G.out.1)
      have hb2 : (n : Int) < (b0 : Int) := by omega
      replace eb := Lib.hid eb
      go_wp2_with fail
      refine R.mono ?_
      rintro e1 w5 ⟨rfl, d2, H2, F⟩
      have B2 : Hid (Gdo (ky f) d2 n ∧ Mv d d2 0 n ∧ BlA (ky f) d2 20 n) := Lib.hid ⟨F.out.1, G.out.2.1.trans (F.out.2.1.mono (Nat.zero_le _) (Nat.le_refl _)), by
        have e9 := ea.out
        have e8 := eb.out
        subst e9
        exact in1_end (in1_step G.out.2.2 (show n = min (q0 * 20 + 20) n by omega) F.out.2.1 F.out.2.2) (by omega)⟩
      clear H F G R
      go_wp2_with fail
      go_loopw [6] (fun z wr => ∃ (s : Nat) (d1 : D), 20 ≤ s ∧ s ≤ 200 ∧ z = .int .i64 (s : Int) ∧ Hid (Sw w0 wr g n cap d1) ∧ Hid (Gdo (ky f) d1 n ∧ Mv d d1 0 n ∧ BlA (ky f) d1 s n)) (fun z _ => 200 - (intOf z).toNat)
      case atStart => exact ⟨20, d2, Nat.le_refl _, by omega, rfl, H2, B2⟩
      case round =>
        clear H2 B2
        obtain ⟨s, d1, hs1, hs2, rfl, H, G⟩ := hrel
        by_cases hsn : s < n
        · skip
          obtain ⟨b2, b2h⟩ : ∃ z : Nat, z = 2 * s := ⟨_, rfl⟩
          have b2I : 2 * (s : Int) = (b2 : Int) := by omega
          have b2w : IntKind.i64.wrap (b2 : Int) = (b2 : Int) := wr64 _ (by omega) (by omega)
          have b2z : (0 : Int) ≤ (b2 : Int) := by omega
          replace b2h := Lib.hid b2h
          have b2J : (s : Int) * 2 = (b2 : Int) := by omega
          have b2K : b2 ≤ 200 := by have := b2h.out; omega
          go_wp2_with fail
          go_loopw [7, 8] (fun x y wr => ∃ (q0 a0 b0 : Nat) (d2 : D), a0 ≤ n ∧ x = .int .i64 (a0 : Int) ∧ y = .int .i64 (b0 : Int) ∧ Hid (a0 = q0 * (2 * s)) ∧ b0 = a0 + b2 ∧ Hid (Sw w0 wr g n cap d2) ∧ Hid (Gdo (ky f) d2 n ∧ Mv d d2 0 n ∧ In2 (ky f) d2 s n q0)) (fun x _ _ => n - (intOf x).toNat)
          case atStart => exact ⟨0, 0, b2, d1, Nat.zero_le _, rfl, rfl, Lib.hid (by omega), by omega, H, Lib.hid ⟨G.out.1, G.out.2.1, in2_start G.out.2.2⟩⟩
          case round =>
            clear H G
            obtain ⟨q0, a0, b0, d2, ha, rfl, rfl, ea, eb, H, G⟩ := hrel
            obtain ⟨m1, m1h⟩ : ∃ z : Nat, z = a0 + s := ⟨_, rfl⟩
            have m1I : (a0 : Int) + (s : Int) = (m1 : Int) := by omega
            have m1w : IntKind.i64.wrap (m1 : Int) = (m1 : Int) := wr64 _ (by omega) (by omega)
            have m1z : (0 : Int) ≤ (m1 : Int) := by omega
            replace m1h := Lib.hid m1h
            by_cases hb : b0 ≤ n
            · skip
              obtain ⟨c0, c0h⟩ : ∃ z : Nat, z = b0 + b2 := ⟨_, rfl⟩
              have c0I : (b0 : Int) + (b2 : Int) = (c0 : Int) := by omega
              have c0w : IntKind.i64.wrap (c0 : Int) = (c0 : Int) := wr64 _ (by omega) (by omega)
              have c0z : (0 : Int) ≤ (c0 : Int) := by omega
              replace c0h := Lib.hid c0h
              have e7 : a0 + s ≤ n := by have := b2h.out; omega
              have LR : Sr (ky f) d2 a0 m1 ∧ Sr (ky f) d2 m1 b0 := by
                have e9 := ea.out
                have e8 := b2h.out
                rw [m1h.out]
                subst e9
                exact ⟨in2_l G.out.2.2 e7, in2_r G.out.2.2 (by omega)⟩
              have R := SY.out a0 m1 b0 d2 wr (by omega) (by have := m1h.out; omega) (by have := m1h.out; have := b2h.out; omega) hb H (Lib.hid G.out.1) (Lib.hid LR.1) (Lib.hid LR.2)
              clear LR
              replace eb := Lib.hid eb
              go_wp2_with fail
              refine R.mono ?_
              rintro e1 w5 ⟨rfl, d3, H3, F⟩
              go_wp2_with fail
              go_roundw
              case rel => exact ⟨q0 + 1, b0, c0, d3, hb, rfl, rfl, Lib.hid (by rw [eb.out, ea.out, b2h.out, Nat.add_mul, Nat.one_mul]), by rw [c0h.out], H3, Lib.hid ⟨F.out.1, G.out.2.1.trans (F.out.2.1.mono (Nat.zero_le _) hb), by
                have e9 := ea.out
                have e8 := eb.out
                have e6 := b2h.out
                subst e9
                exact in2_step G.out.2.2 (show b0 = min (q0 * (2 * s) + 2 * s) n by omega) F.out.2.1 F.out.2.2⟩⟩
              case measure => have := eb.out; have := b2h.out; simp [intOf]; omega
            · have hb2 : (n : Int) < (b0 : Int) := by omega
              by_cases hm : m1 < n
              · have LR : Sr (ky f) d2 a0 m1 ∧ Sr (ky f) d2 m1 n := by
                  have e9 := ea.out
                  have e8 := b2h.out
                  have e7 := m1h.out
                  rw [m1h.out]
                  subst e9
                  exact ⟨in2_l G.out.2.2 (by omega), in2_r G.out.2.2 (by omega)⟩
                have R := SY.out a0 m1 n d2 wr (by omega) (by have := m1h.out; omega) hm (Nat.le_refl _) H (Lib.hid G.out.1) (Lib.hid LR.1) (Lib.hid LR.2)
                clear LR
                replace eb := Lib.hid eb
                go_wp2_with fail
                refine R.mono ?_
                rintro e1 w5 ⟨rfl, d3, H3, F⟩
                go_wp2_with fail
                go_roundw
                case rel => exact ⟨b2, d3, by have := b2h.out; omega, b2K, rfl, H3, Lib.hid ⟨F.out.1, G.out.2.1.trans (F.out.2.1.mono (Nat.zero_le _) (Nat.le_refl _)), by
                  have e9 := ea.out
                  have e8 := eb.out
                  have e6 := b2h.out
                  subst e9
                  rw [e6]
                  exact in2_end (in2_step G.out.2.2 (show n = min (q0 * (2 * s) + 2 * s) n by omega) F.out.2.1 F.out.2.2) (by rw [Nat.add_mul, Nat.one_mul]; omega)⟩⟩
                case measure => have := b2h.out; simp [intOf]; omega
              · have hm2 : (n : Int) ≤ (m1 : Int) := by omega
                have B3 : Hid (Gdo (ky f) d2 n ∧ Mv d d2 0 n ∧ BlA (ky f) d2 b2 n) := Lib.hid ⟨G.out.1, G.out.2.1, by
                  have e9 := ea.out
                  have e6 := b2h.out
                  have e7 := m1h.out
                  subst e9
                  rw [e6]
                  exact in2_end (in2_step G.out.2.2 (show n = min (q0 * (2 * s) + 2 * s) n by omega) (Mv.refl _ _ _) (in2_lx G.out.2.2 (by omega))) (by rw [Nat.add_mul, Nat.one_mul]; omega)⟩
                replace eb := Lib.hid eb
                go_wp2_with fail
                go_roundw
                case rel => exact ⟨b2, d2, by have := b2h.out; omega, b2K, rfl, H, B3⟩
                case measure => have := b2h.out; simp [intOf]; omega
        · have F : Hid (Gdo (ky f) d1 n ∧ Mv d d1 0 n ∧ Sr (ky f) d1 0 n) := Lib.hid ⟨G.out.1, G.out.2.1, bla_all G.out.2.2 (by omega)⟩
          have hs3 : (n : Int) ≤ (s : Int) := by omega
          go_wp2_with fail
          refine bodyPost_end (v := .tuple #[]) ?_ rfl ⟨rfl, d1, H, F⟩
          simp [results, Try.results152, go_sem]
end Go.Proofs.Ytgkahcchekiogaa.Rtv

/- slices.symMerge of places. -/
import Derived.Test.YtgkahcchekiogaaRtn
namespace Go.Proofs.Ytgkahcchekiogaa.Rtu
open Go.RowKit Base Kit WideA WideB Plain RefA Alt Held Rtf Rtg Rto Rtq Rtj Rtl Rtm Rtn
set_option linter.unusedVariables false
set_option linter.unusedSimpArgs false


/-- what a merge of less than K places does -/
def Ih (f : Nat → Nat → Int) (lb g n cap : Nat) (w0 : World) (K : Nat) : Prop :=
  ∀ (a m b : Nat) (d : D) (w : World), b - a < K → a < m → m < b → b ≤ n → Hid (Sw w0 w g n cap d) → Hid (Gdo (ky f) d n) → Hid (Sr (ky f) d a m) → Hid (Sr (ky f) d m b) →
    Calls Try.prog 169 #[.slice (some ⟨g, 0, none⟩) n cap, .int .i64 (a : Int), .int .i64 (m : Int), .int .i64 (b : Int), (.func (.func 117) #[] #[.pointer (some ⟨lb, 0, none⟩)])] w (SoP w0 g n cap (ky f) d a b)
/-- behind the rotation -/
structure Aft (ky : Nat → Int) (d d2 : D) (n a m b s e mid : Nat) : Prop where
  g : Gdo ky d2 n
  mv : Mv (rot d s m e) d2 a mid
  sr : Sr ky d2 a mid
theorem aft_no {k : Nat → Int} {d : D} {n a m b s e mid : Nat} (M : Hid (Mg k d n a m b s e mid)) (h : ¬ (a < s ∧ s < mid)) : Hid (Aft k d (rot d s m e) n a m b s e mid) := Lib.hid ⟨M.out.good, Mv.refl _ _ _, M.out.lx h⟩
theorem aft_mid {k : Nat → Int} {d d2 : D} {n a m b s e mid : Nat} (M : Hid (Mg k d n a m b s e mid)) (A : Hid (Aft k d d2 n a m b s e mid)) : Sr k d2 mid e ∧ Sr k d2 e b := by
  have := M.out.me
  exact ⟨sr_out M.out.smr (fun t t1 _ => A.out.mv.out t (.inr t1)), sr_out M.out.shr (fun t t1 _ => A.out.mv.out t (.inr (by omega)))⟩
theorem aft_end {k : Nat → Int} {d d2 : D} {n a m b s e mid : Nat} (M : Hid (Mg k d n a m b s e mid)) (A : Hid (Aft k d d2 n a m b s e mid)) (h : ¬ (mid < e ∧ e < b)) : Hid (Gdo k d2 n ∧ Mv d d2 a b ∧ Sr k d2 a b) := by
  have h2 := M.out.fin A.out.mv A.out.sr (Mv.refl d2 mid b) (sr_out (M.out.rx h) (fun t t1 _ => A.out.mv.out t (.inr t1)))
  exact Lib.hid ⟨A.out.g, h2.2, h2.1⟩
theorem aft_fin {k : Nat → Int} {d d2 d3 : D} {n a m b s e mid : Nat} (M : Hid (Mg k d n a m b s e mid)) (A : Hid (Aft k d d2 n a m b s e mid)) (F : Hid (Gdo k d3 n ∧ Mv d2 d3 mid b ∧ Sr k d3 mid b)) : Hid (Gdo k d3 n ∧ Mv d d3 a b ∧ Sr k d3 a b) := by
  have h2 := M.out.fin A.out.mv A.out.sr F.out.2.1 F.out.2.2
  exact Lib.hid ⟨F.out.1, h2.2, h2.1⟩
theorem mg_mk {k : Nat → Int} {d : D} {n a m b s0 r0 i0 e mid nn p : Nat} (g : Gdo k d n) (ha : a < m) (h2 : m < b) (h3 : b ≤ n) (hl : Sr k d a m) (hs : Sr k d m b) (q4 : mid = (a + b) / 2) (q2 : nn = mid + m) (q3 : p = nn - 1) (q1 : e = nn - i0) (hi : s0 ≤ i0) (hj : i0 ≤ r0)
    (hc : (mid < m ∧ s0 = nn - b ∧ r0 = mid) ∨ (m ≤ mid ∧ s0 = a ∧ r0 = m)) (K : (i0 = s0 ∨ k (d (i0 - 1)) ≤ k (d (p - (i0 - 1)))) ∧ (i0 = r0 ∨ k (d (p - i0)) < k (d i0))) : Mg k d n a m b i0 e mid := by
  have se : i0 + e = mid + m ∧ a ≤ i0 ∧ i0 ≤ m ∧ i0 ≤ mid ∧ m ≤ e ∧ e ≤ b := by rcases hc with ⟨c1, c2, c3⟩ | ⟨c1, c2, c3⟩ <;> omega
  obtain ⟨se, s1, s2, s3, e1, e2⟩ := se
  refine ⟨g, ha, h2, h3, hl, hs, q4, se, s1, s2, s3, e1, e2, ?_, ?_⟩
  · by_cases z : i0 = s0
    · rcases hc with ⟨c1, c2, c3⟩ | ⟨c1, c2, c3⟩
      · exact .inr (.inl (by omega))
      · exact .inl (by omega)
    · rcases K.1 with c | c
      · exact absurd c z
      · exact .inr (.inr (by rw [show p - (i0 - 1) = e by omega] at c; exact c))
  · by_cases z : i0 = r0
    · rcases hc with ⟨c1, c2, c3⟩ | ⟨c1, c2, c3⟩
      · exact .inr (.inl (by omega))
      · exact .inl (by omega)
    · rcases K.2 with c | c
      · exact absurd c z
      · exact .inr (.inr (by rw [show p - i0 = e - 1 by omega] at c; exact c))
/-- what the tail leans on -/
structure Tl (n a m b s e mid : Nat) : Prop where
  q : a < m ∧ m < b ∧ b ≤ n ∧ mid = (a + b) / 2 ∧ s + e = mid + m ∧ a ≤ s ∧ s ≤ m ∧ s ≤ mid ∧ m ≤ e ∧ e ≤ b
theorem tl_of {k : Nat → Int} {d : D} {n a m b s e mid : Nat} (M : Mg k d n a m b s e mid) : Tl n a m b s e mid := ⟨M.am, M.mb, M.bn, M.hm, M.se, M.s1, M.s2, M.s3, M.e1, M.e2⟩
set_option maxRecDepth 100000 in
set_option maxHeartbeats 16000000 in
theorem sym_gen (f : Nat → Nat → Int) (lb g n cap a m b : Nat) (d : D) (w0 w : World) (C : Hid (Cmp n f w0 g lb)) (hf : Hid (∀ x, x < n → f x 1 ≤ 9223372036854775807)) (IH : Hid (Ih f lb g n cap w0 (b - a))) (H : Hid (Sw w0 w g n cap d)) (G : Hid (Gdo (ky f) d n)) (h0 : m ≠ a + 1) (ha : a < m) (h1 : b ≠ m + 1) (h2 : m < b) (h3 : b ≤ n) (hl : Hid (Sr (ky f) d a m)) (hs : Hid (Sr (ky f) d m b)) :
    Calls Try.prog 169 #[.slice (some ⟨g, 0, none⟩) n cap, .int .i64 (a : Int), .int .i64 (m : Int), .int .i64 (b : Int), (.func (.func 117) #[] #[.pointer (some ⟨lb, 0, none⟩)])] w (SoP w0 g n cap (ky f) d a b) := by
  have hn := H.out.len
  obtain ⟨q, qh⟩ : ∃ z : Nat, z = m - a := ⟨_, rfl⟩
  have qI : (m : Int) - (a : Int) = (q : Int) := by omega
  have qw : IntKind.i64.wrap (q : Int) = (q : Int) := wr64 _ (by omega) (by omega)
  have qz : (0 : Int) ≤ (q : Int) := by omega
  replace qh := Lib.hid qh
  have hq1 : ((q : Int) == 1) = false := by have := qh.out; simp; omega
  obtain ⟨v, vh⟩ : ∃ z : Nat, z = b - m := ⟨_, rfl⟩
  have vI : (b : Int) - (m : Int) = (v : Int) := by omega
  have vw : IntKind.i64.wrap (v : Int) = (v : Int) := wr64 _ (by omega) (by omega)
  have vz : (0 : Int) ≤ (v : Int) := by omega
  replace vh := Lib.hid vh
  have hv1 : ((v : Int) == 1) = false := by have := vh.out; simp; omega
  obtain ⟨s0, s0h⟩ : ∃ z : Nat, z = a + b := ⟨_, rfl⟩
  have s0I : (a : Int) + (b : Int) = (s0 : Int) := by omega
  have s0w : IntKind.i64.wrap (s0 : Int) = (s0 : Int) := wr64 _ (by omega) (by omega)
  have s0z : (0 : Int) ≤ (s0 : Int) := by omega
  replace s0h := Lib.hid s0h
  have su0 : IntKind.u64.wrap (s0 : Int) = (s0 : Int) := by simp [IntKind.wrap, IntKind.bits, IntKind.signed]; have := s0h.out; omega
  obtain ⟨mid, midh⟩ : ∃ z : Nat, z = s0 / 2 := ⟨_, rfl⟩
  have midI : (s0 : Int) / 2 = (mid : Int) := by omega
  have midw : IntKind.i64.wrap (mid : Int) = (mid : Int) := wr64 _ (by omega) (by omega)
  have midz : (0 : Int) ≤ (mid : Int) := by omega
  replace midh := Lib.hid midh
  obtain ⟨nn, nnh⟩ : ∃ z : Nat, z = mid + m := ⟨_, rfl⟩
  have nnI : (mid : Int) + (m : Int) = (nn : Int) := by omega
  have nnw : IntKind.i64.wrap (nn : Int) = (nn : Int) := wr64 _ (by omega) (by omega)
  have nnz : (0 : Int) ≤ (nn : Int) := by omega
  replace nnh := Lib.hid nnh
  obtain ⟨p, ph⟩ : ∃ z : Nat, z = nn - 1 := ⟨_, rfl⟩
  have pI : (nn : Int) - 1 = (p : Int) := by omega
  have pw : IntKind.i64.wrap (p : Int) = (p : Int) := wr64 _ (by omega) (by omega)
  have pz : (0 : Int) ≤ (p : Int) := by omega
  replace ph := Lib.hid ph
  have sh0 := s0h
  replace h1 := Lib.hid h1
  replace h0 := Lib.hid h0
  have hb1 : a < mid ∧ mid < b := by have := s0h.out; have := midh.out; omega
  by_cases hcase : mid < m
  · skip
    obtain ⟨st, sth⟩ : ∃ z : Nat, z = nn - b := ⟨_, rfl⟩
    have stI : (nn : Int) - (b : Int) = (st : Int) := by omega
    have stw : IntKind.i64.wrap (st : Int) = (st : Int) := wr64 _ (by omega) (by omega)
    have stz : (0 : Int) ≤ (st : Int) := by omega
    replace sth := Lib.hid sth
    have hgt : (mid : Int) < (m : Int) := by omega
    have hsr : st ≤ mid ∧ a ≤ st ∧ mid ≤ p ∧ p < st + b := by have := sth.out; have := nnh.out; have := ph.out; have := s0h.out; have := midh.out; omega
    go_enter Try.func169, Try.ntmps169
    go_wp2_with fail
    go_loopw [20, 21] (fun i j wr => ∃ i0 j0 : Nat, st ≤ i0 ∧ i0 ≤ j0 ∧ j0 ≤ mid ∧ i = .int .i64 (i0 : Int) ∧ j = .int .i64 (j0 : Int) ∧ Hid (Sw w0 wr g n cap d) ∧ Hid ((i0 = st ∨ ky f (d (i0 - 1)) ≤ ky f (d (p - (i0 - 1)))) ∧ (j0 = mid ∨ ky f (d (p - j0)) < ky f (d j0)))) (fun i j _ => (intOf j).toNat - (intOf i).toNat)
    case atStart => exact ⟨st, mid, Nat.le_refl _, by omega, Nat.le_refl _, rfl, rfl, H, Lib.hid ⟨.inl rfl, .inl rfl⟩⟩
    case round =>
      clear H
      obtain ⟨i0, j0, hi, hij, hj, rfl, rfl, H, K⟩ := hrel
      by_cases hlt : i0 < j0
      · skip
        obtain ⟨s, sh⟩ : ∃ z : Nat, z = i0 + j0 := ⟨_, rfl⟩
        have sI : (i0 : Int) + (j0 : Int) = (s : Int) := by omega
        have sw : IntKind.i64.wrap (s : Int) = (s : Int) := wr64 _ (by omega) (by omega)
        have sz : (0 : Int) ≤ (s : Int) := by omega
        replace sh := Lib.hid sh
        have su : IntKind.u64.wrap (s : Int) = (s : Int) := by simp [IntKind.wrap, IntKind.bits, IntKind.signed]; have := sh.out; omega
        obtain ⟨h, hh⟩ : ∃ z : Nat, z = s / 2 := ⟨_, rfl⟩
        have hI : (s : Int) / 2 = (h : Int) := by omega
        have hw : IntKind.i64.wrap (h : Int) = (h : Int) := wr64 _ (by omega) (by omega)
        have hz : (0 : Int) ≤ (h : Int) := by omega
        replace hh := Lib.hid hh
        have hhb : i0 ≤ h ∧ h < j0 := by have := sh.out; have := hh.out; omega
        have hhn : (h : Int) < (n : Int) := by omega

        obtain ⟨u, uh⟩ : ∃ z : Nat, z = p - h := ⟨_, rfl⟩
        have uI : (p : Int) - (h : Int) = (u : Int) := by omega
        have uw : IntKind.i64.wrap (u : Int) = (u : Int) := wr64 _ (by omega) (by omega)
        have uz : (0 : Int) ≤ (u : Int) := by omega
        replace uh := Lib.hid uh
        have hub : u < b := by have := uh.out; omega
        have hun : (u : Int) < (n : Int) := by omega
        obtain ⟨Z, hZ⟩ : ∃ z, d u = z := ⟨_, rfl⟩
        obtain ⟨Y, hY⟩ : ∃ z, d h = z := ⟨_, rfl⟩
        have hZn : Z < n := by rw [← hZ]; exact G.out.pm.1 _ (by omega)
        have hYn : Y < n := by rw [← hY]; exact G.out.pm.1 _ (by omega)
        have HY := Lib.hid hY
        have HZ := Lib.hid hZ
        have SC := Lib.hid (fun w' (q : Hid (Sw w0 w' g n cap d)) => (⟨by rw [sw_cell q (by omega), hZ], by rw [sw_cell q (by omega), hY]⟩ : w'.cell? ⟨g, u, none⟩ = some (.int .i64 (Z : Int)) ∧ w'.cell? ⟨g, h, none⟩ = some (.int .i64 (Y : Int))))
        have CC := Lib.hid (fun w' (q : Hid (Sw w0 w' g n cap d)) => C.out w' q.out.alt Z Y hZn hYn)
        have HD := sw_next H ((Below.refl _ wr).drew)
        have hcm := cm_lt f Z Y (hf.out Z hZn) (hf.out Y hYn)
        clear hY hZ
        by_cases hc : ky f Z < ky f Y
        · have hr := hcm.2 hc
          replace hc := Lib.hid hc
          clear hcm
          generalize cm f Z Y = r at *
          go_wp2_with fail
          go_region_held3 (fun w' => w'.cell? ⟨g, u, none⟩ = some (.int .i64 (Z : Int)) ∧ w'.cell? ⟨g, h, none⟩ = some (.int .i64 (Y : Int)))
            (first | exact SC.out _ H5 | exact SC.out _ HD)
            (first | (go_at_call 117; refine (CC.out _ HD).mono ?_; rintro e1 w5 ⟨rfl, k5⟩; have H5 := sw_next HD k5))
          go_wp2_with fail
          go_roundw
          case rel => exact ⟨i0, h, by omega, by omega, by omega, rfl, rfl, H5, Lib.hid ⟨K.out.1, .inr (by rw [← uh.out, HY.out, HZ.out]; exact hc.out)⟩⟩
          case measure => simp [intOf]; omega
        · have hr : 0 ≤ cm f Z Y := by
            by_cases c : cm f Z Y < 0
            · exact absurd (hcm.1 c) hc
            · omega
          have hrd : decide (cm f Z Y < 0) = false := decide_eq_false (by omega)
          have hrn : ¬ cm f Z Y < 0 := by omega
          replace hc := Lib.hid hc
          clear hcm
          generalize cm f Z Y = r at *
          go_wp2_with fail
          go_region_held3 (fun w' => w'.cell? ⟨g, u, none⟩ = some (.int .i64 (Z : Int)) ∧ w'.cell? ⟨g, h, none⟩ = some (.int .i64 (Y : Int)))
            (first | exact SC.out _ H5 | exact SC.out _ HD)
            (first | (go_at_call 117; refine (CC.out _ HD).mono ?_; rintro e1 w5 ⟨rfl, k5⟩; have H5 := sw_next HD k5))
          go_wp2_with fail
          go_roundw
          case rel => exact ⟨h + 1, j0, by omega, by omega, hj, by simp, rfl, H5, Lib.hid ⟨.inr (by rw [show h + 1 - 1 = h by omega, ← uh.out, HY.out, HZ.out]; have := hc.out; omega), K.out.2⟩⟩
          case measure => simp [intOf]; omega
      · obtain rfl : i0 = j0 := by omega
        obtain ⟨e, eh⟩ : ∃ z : Nat, z = nn - i0 := ⟨_, rfl⟩
        have eI : (nn : Int) - (i0 : Int) = (e : Int) := by omega
        have ew : IntKind.i64.wrap (e : Int) = (e : Int) := wr64 _ (by omega) (by omega)
        have ez : (0 : Int) ≤ (e : Int) := by omega
        replace eh := Lib.hid eh
        have M : Hid (Mg (ky f) d n a m b i0 e mid) := Lib.hid (mg_mk (s0 := st) (r0 := mid) G.out ha h2 h3 hl.out hs.out (by rw [midh.out, s0h.out]) nnh.out ph.out eh.out hi hj (.inl ⟨hcase, sth.out, rfl⟩) K.out)
        have TL := Lib.hid (tl_of M.out)
        clear K qI qw qz qh hq1 vI vw vz vh hv1 s0I s0w s0z s0h su0 midI midw midz midh nnw nnz nnh pI pw pz ph sh0 h1 h0 hb1 hgt hsr hi hij hj hlt h2 h3 ha eh stI stw stz sth
        by_cases c5 : i0 < m
        · by_cases c6 : m < e
          · have RO := Lib.hid (fun w' (h : Hid (Sw w0 w' g n cap d)) => rotate_any lb g n cap i0 m e d w0 w' h c5 c6 (by have := TL.out.q; omega))
            go_wp2_with fail
            refine (RO.out _ H).mono ?_
            rintro e9 w6 ⟨rfl, H1⟩
            clear RO H
            by_cases c1 : a < i0
            · by_cases c2 : i0 < mid
              · have R := Lib.hid (fun w' (h : Hid (Sw w0 w' g n cap (rot d i0 m e))) => IH.out a i0 mid _ w' (by have := TL.out.q; omega) c1 c2 (by have := TL.out.q; omega) h (Lib.hid M.out.good) (Lib.hid M.out.sl) (Lib.hid M.out.sml))
                go_wp2_with fail
                refine (R.out _ H1).mono ?_
                rintro e9 w7 ⟨rfl, d2, H2, F2⟩
                have A : Hid (Aft (ky f) d d2 n a m b i0 e mid) := Lib.hid ⟨F2.out.1, F2.out.2.1, F2.out.2.2⟩
                clear R
                by_cases c3 : mid < e
                · by_cases c4 : e < b
                  · have AM := aft_mid M A
                    have R := Lib.hid (fun w' (h : Hid (Sw w0 w' g n cap d2)) => IH.out mid e b d2 w' (by have := TL.out.q; omega) c3 c4 TL.out.q.2.2.1 h (Lib.hid A.out.g) (Lib.hid AM.1) (Lib.hid AM.2))
                    clear AM
                    go_wp2_with fail
                    refine (R.out _ H2).mono ?_
                    rintro e9 w8 ⟨rfl, d3, H3, F3⟩
                    have F := aft_fin M A F3
                    go_wp2_with fail
                    refine bodyPost_end (v := .tuple #[]) ?_ rfl ⟨rfl, d3, H3, F⟩
                    simp [results, Try.results169, go_sem]
                  · have F := aft_end M A (by omega)
                    go_wp2_with fail
                    refine bodyPost_end (v := .tuple #[]) ?_ rfl ⟨rfl, d2, H2, F⟩
                    simp [results, Try.results169, go_sem]
                · have F := aft_end M A (by omega)
                  go_wp2_with fail
                  refine bodyPost_end (v := .tuple #[]) ?_ rfl ⟨rfl, d2, H2, F⟩
                  simp [results, Try.results169, go_sem]
              · obtain ⟨d2, hd2⟩ : ∃ z, z = rot d i0 m e := ⟨_, rfl⟩
                have A := aft_no M (by omega)
                rw [← hd2] at A
                have H2 := H1
                rw [← hd2] at H2
                clear hd2
                by_cases c3 : mid < e
                · by_cases c4 : e < b
                  · have AM := aft_mid M A
                    have R := Lib.hid (fun w' (h : Hid (Sw w0 w' g n cap d2)) => IH.out mid e b d2 w' (by have := TL.out.q; omega) c3 c4 TL.out.q.2.2.1 h (Lib.hid A.out.g) (Lib.hid AM.1) (Lib.hid AM.2))
                    clear AM
                    go_wp2_with fail
                    refine (R.out _ H2).mono ?_
                    rintro e9 w8 ⟨rfl, d3, H3, F3⟩
                    have F := aft_fin M A F3
                    go_wp2_with fail
                    refine bodyPost_end (v := .tuple #[]) ?_ rfl ⟨rfl, d3, H3, F⟩
                    simp [results, Try.results169, go_sem]
                  · have F := aft_end M A (by omega)
                    go_wp2_with fail
                    refine bodyPost_end (v := .tuple #[]) ?_ rfl ⟨rfl, d2, H2, F⟩
                    simp [results, Try.results169, go_sem]
                · have F := aft_end M A (by omega)
                  go_wp2_with fail
                  refine bodyPost_end (v := .tuple #[]) ?_ rfl ⟨rfl, d2, H2, F⟩
                  simp [results, Try.results169, go_sem]
            · obtain ⟨d2, hd2⟩ : ∃ z, z = rot d i0 m e := ⟨_, rfl⟩
              have A := aft_no M (by omega)
              rw [← hd2] at A
              have H2 := H1
              rw [← hd2] at H2
              clear hd2
              by_cases c3 : mid < e
              · by_cases c4 : e < b
                · have AM := aft_mid M A
                  have R := Lib.hid (fun w' (h : Hid (Sw w0 w' g n cap d2)) => IH.out mid e b d2 w' (by have := TL.out.q; omega) c3 c4 TL.out.q.2.2.1 h (Lib.hid A.out.g) (Lib.hid AM.1) (Lib.hid AM.2))
                  clear AM
                  go_wp2_with fail
                  refine (R.out _ H2).mono ?_
                  rintro e9 w8 ⟨rfl, d3, H3, F3⟩
                  have F := aft_fin M A F3
                  go_wp2_with fail
                  refine bodyPost_end (v := .tuple #[]) ?_ rfl ⟨rfl, d3, H3, F⟩
                  simp [results, Try.results169, go_sem]
                · have F := aft_end M A (by omega)
                  go_wp2_with fail
                  refine bodyPost_end (v := .tuple #[]) ?_ rfl ⟨rfl, d2, H2, F⟩
                  simp [results, Try.results169, go_sem]
              · have F := aft_end M A (by omega)
                go_wp2_with fail
                refine bodyPost_end (v := .tuple #[]) ?_ rfl ⟨rfl, d2, H2, F⟩
                simp [results, Try.results169, go_sem]
          · have H1 : Hid (Sw w0 wr g n cap (rot d i0 m e)) := by rw [show e = m by have := TL.out.q; omega, rot_idr d i0 m (by have := TL.out.q; omega)]; exact H
            clear H
            by_cases c1 : a < i0
            · by_cases c2 : i0 < mid
              · have R := Lib.hid (fun w' (h : Hid (Sw w0 w' g n cap (rot d i0 m e))) => IH.out a i0 mid _ w' (by have := TL.out.q; omega) c1 c2 (by have := TL.out.q; omega) h (Lib.hid M.out.good) (Lib.hid M.out.sl) (Lib.hid M.out.sml))
                go_wp2_with fail
                refine (R.out _ H1).mono ?_
                rintro e9 w7 ⟨rfl, d2, H2, F2⟩
                have A : Hid (Aft (ky f) d d2 n a m b i0 e mid) := Lib.hid ⟨F2.out.1, F2.out.2.1, F2.out.2.2⟩
                clear R
                by_cases c3 : mid < e
                · by_cases c4 : e < b
                  · have AM := aft_mid M A
                    have R := Lib.hid (fun w' (h : Hid (Sw w0 w' g n cap d2)) => IH.out mid e b d2 w' (by have := TL.out.q; omega) c3 c4 TL.out.q.2.2.1 h (Lib.hid A.out.g) (Lib.hid AM.1) (Lib.hid AM.2))
                    clear AM
                    go_wp2_with fail
                    refine (R.out _ H2).mono ?_
                    rintro e9 w8 ⟨rfl, d3, H3, F3⟩
                    have F := aft_fin M A F3
                    go_wp2_with fail
                    refine bodyPost_end (v := .tuple #[]) ?_ rfl ⟨rfl, d3, H3, F⟩
                    simp [results, Try.results169, go_sem]
                  · have F := aft_end M A (by omega)
                    go_wp2_with fail
                    refine bodyPost_end (v := .tuple #[]) ?_ rfl ⟨rfl, d2, H2, F⟩
                    simp [results, Try.results169, go_sem]
                · have F := aft_end M A (by omega)
                  go_wp2_with fail
                  refine bodyPost_end (v := .tuple #[]) ?_ rfl ⟨rfl, d2, H2, F⟩
                  simp [results, Try.results169, go_sem]
              · obtain ⟨d2, hd2⟩ : ∃ z, z = rot d i0 m e := ⟨_, rfl⟩
                have A := aft_no M (by omega)
                rw [← hd2] at A
                have H2 := H1
                rw [← hd2] at H2
                clear hd2
                by_cases c3 : mid < e
                · by_cases c4 : e < b
                  · have AM := aft_mid M A
                    have R := Lib.hid (fun w' (h : Hid (Sw w0 w' g n cap d2)) => IH.out mid e b d2 w' (by have := TL.out.q; omega) c3 c4 TL.out.q.2.2.1 h (Lib.hid A.out.g) (Lib.hid AM.1) (Lib.hid AM.2))
                    clear AM
                    go_wp2_with fail
                    refine (R.out _ H2).mono ?_
                    rintro e9 w8 ⟨rfl, d3, H3, F3⟩
                    have F := aft_fin M A F3
                    go_wp2_with fail
                    refine bodyPost_end (v := .tuple #[]) ?_ rfl ⟨rfl, d3, H3, F⟩
                    simp [results, Try.results169, go_sem]
                  · have F := aft_end M A (by omega)
                    go_wp2_with fail
                    refine bodyPost_end (v := .tuple #[]) ?_ rfl ⟨rfl, d2, H2, F⟩
                    simp [results, Try.results169, go_sem]
                · have F := aft_end M A (by omega)
                  go_wp2_with fail
                  refine bodyPost_end (v := .tuple #[]) ?_ rfl ⟨rfl, d2, H2, F⟩
                  simp [results, Try.results169, go_sem]
            · obtain ⟨d2, hd2⟩ : ∃ z, z = rot d i0 m e := ⟨_, rfl⟩
              have A := aft_no M (by omega)
              rw [← hd2] at A
              have H2 := H1
              rw [← hd2] at H2
              clear hd2
              by_cases c3 : mid < e
              · by_cases c4 : e < b
                · have AM := aft_mid M A
                  have R := Lib.hid (fun w' (h : Hid (Sw w0 w' g n cap d2)) => IH.out mid e b d2 w' (by have := TL.out.q; omega) c3 c4 TL.out.q.2.2.1 h (Lib.hid A.out.g) (Lib.hid AM.1) (Lib.hid AM.2))
                  clear AM
                  go_wp2_with fail
                  refine (R.out _ H2).mono ?_
                  rintro e9 w8 ⟨rfl, d3, H3, F3⟩
                  have F := aft_fin M A F3
                  go_wp2_with fail
                  refine bodyPost_end (v := .tuple #[]) ?_ rfl ⟨rfl, d3, H3, F⟩
                  simp [results, Try.results169, go_sem]
                · have F := aft_end M A (by omega)
                  go_wp2_with fail
                  refine bodyPost_end (v := .tuple #[]) ?_ rfl ⟨rfl, d2, H2, F⟩
                  simp [results, Try.results169, go_sem]
              · have F := aft_end M A (by omega)
                go_wp2_with fail
                refine bodyPost_end (v := .tuple #[]) ?_ rfl ⟨rfl, d2, H2, F⟩
                simp [results, Try.results169, go_sem]
        · have H1 : Hid (Sw w0 wr g n cap (rot d i0 m e)) := by rw [show i0 = m by have := TL.out.q; omega, rot_id (a := 0) d m (Nat.zero_le _)]; exact H
          clear H
          by_cases c1 : a < i0
          · by_cases c2 : i0 < mid
            · have R := Lib.hid (fun w' (h : Hid (Sw w0 w' g n cap (rot d i0 m e))) => IH.out a i0 mid _ w' (by have := TL.out.q; omega) c1 c2 (by have := TL.out.q; omega) h (Lib.hid M.out.good) (Lib.hid M.out.sl) (Lib.hid M.out.sml))
              go_wp2_with fail
              refine (R.out _ H1).mono ?_
              rintro e9 w7 ⟨rfl, d2, H2, F2⟩
              have A : Hid (Aft (ky f) d d2 n a m b i0 e mid) := Lib.hid ⟨F2.out.1, F2.out.2.1, F2.out.2.2⟩
              clear R
              by_cases c3 : mid < e
              · by_cases c4 : e < b
                · have AM := aft_mid M A
                  have R := Lib.hid (fun w' (h : Hid (Sw w0 w' g n cap d2)) => IH.out mid e b d2 w' (by have := TL.out.q; omega) c3 c4 TL.out.q.2.2.1 h (Lib.hid A.out.g) (Lib.hid AM.1) (Lib.hid AM.2))
                  clear AM
                  go_wp2_with fail
                  refine (R.out _ H2).mono ?_
                  rintro e9 w8 ⟨rfl, d3, H3, F3⟩
                  have F := aft_fin M A F3
                  go_wp2_with fail
                  refine bodyPost_end (v := .tuple #[]) ?_ rfl ⟨rfl, d3, H3, F⟩
                  simp [results, Try.results169, go_sem]
                · have F := aft_end M A (by omega)
                  go_wp2_with fail
                  refine bodyPost_end (v := .tuple #[]) ?_ rfl ⟨rfl, d2, H2, F⟩
                  simp [results, Try.results169, go_sem]
              · have F := aft_end M A (by omega)
                go_wp2_with fail
                refine bodyPost_end (v := .tuple #[]) ?_ rfl ⟨rfl, d2, H2, F⟩
                simp [results, Try.results169, go_sem]
            · obtain ⟨d2, hd2⟩ : ∃ z, z = rot d i0 m e := ⟨_, rfl⟩
              have A := aft_no M (by omega)
              rw [← hd2] at A
              have H2 := H1
              rw [← hd2] at H2
              clear hd2
              by_cases c3 : mid < e
              · by_cases c4 : e < b
                · have AM := aft_mid M A
                  have R := Lib.hid (fun w' (h : Hid (Sw w0 w' g n cap d2)) => IH.out mid e b d2 w' (by have := TL.out.q; omega) c3 c4 TL.out.q.2.2.1 h (Lib.hid A.out.g) (Lib.hid AM.1) (Lib.hid AM.2))
                  clear AM
                  go_wp2_with fail
                  refine (R.out _ H2).mono ?_
                  rintro e9 w8 ⟨rfl, d3, H3, F3⟩
                  have F := aft_fin M A F3
                  go_wp2_with fail
                  refine bodyPost_end (v := .tuple #[]) ?_ rfl ⟨rfl, d3, H3, F⟩
                  simp [results, Try.results169, go_sem]
                · have F := aft_end M A (by omega)
                  go_wp2_with fail
                  refine bodyPost_end (v := .tuple #[]) ?_ rfl ⟨rfl, d2, H2, F⟩
                  simp [results, Try.results169, go_sem]
              · have F := aft_end M A (by omega)
                go_wp2_with fail
                refine bodyPost_end (v := .tuple #[]) ?_ rfl ⟨rfl, d2, H2, F⟩
                simp [results, Try.results169, go_sem]
          · obtain ⟨d2, hd2⟩ : ∃ z, z = rot d i0 m e := ⟨_, rfl⟩
            have A := aft_no M (by omega)
            rw [← hd2] at A
            have H2 := H1
            rw [← hd2] at H2
            clear hd2
            by_cases c3 : mid < e
            · by_cases c4 : e < b
              · have AM := aft_mid M A
                have R := Lib.hid (fun w' (h : Hid (Sw w0 w' g n cap d2)) => IH.out mid e b d2 w' (by have := TL.out.q; omega) c3 c4 TL.out.q.2.2.1 h (Lib.hid A.out.g) (Lib.hid AM.1) (Lib.hid AM.2))
                clear AM
                go_wp2_with fail
                refine (R.out _ H2).mono ?_
                rintro e9 w8 ⟨rfl, d3, H3, F3⟩
                have F := aft_fin M A F3
                go_wp2_with fail
                refine bodyPost_end (v := .tuple #[]) ?_ rfl ⟨rfl, d3, H3, F⟩
                simp [results, Try.results169, go_sem]
              · have F := aft_end M A (by omega)
                go_wp2_with fail
                refine bodyPost_end (v := .tuple #[]) ?_ rfl ⟨rfl, d2, H2, F⟩
                simp [results, Try.results169, go_sem]
            · have F := aft_end M A (by omega)
              go_wp2_with fail
              refine bodyPost_end (v := .tuple #[]) ?_ rfl ⟨rfl, d2, H2, F⟩
              simp [results, Try.results169, go_sem]
  · have hgt : (m : Int) ≤ (mid : Int) := by omega
    have hsr : a ≤ m ∧ m ≤ p ∧ p < a + b := by have := nnh.out; have := ph.out; have := s0h.out; have := midh.out; omega
    go_enter Try.func169, Try.ntmps169
    go_wp2_with fail
    go_loopw [20, 21] (fun i j wr => ∃ i0 j0 : Nat, a ≤ i0 ∧ i0 ≤ j0 ∧ j0 ≤ m ∧ i = .int .i64 (i0 : Int) ∧ j = .int .i64 (j0 : Int) ∧ Hid (Sw w0 wr g n cap d) ∧ Hid ((i0 = a ∨ ky f (d (i0 - 1)) ≤ ky f (d (p - (i0 - 1)))) ∧ (j0 = m ∨ ky f (d (p - j0)) < ky f (d j0)))) (fun i j _ => (intOf j).toNat - (intOf i).toNat)
    case atStart => exact ⟨a, m, Nat.le_refl _, by omega, Nat.le_refl _, rfl, rfl, H, Lib.hid ⟨.inl rfl, .inl rfl⟩⟩
    case round =>
      clear H
      obtain ⟨i0, j0, hi, hij, hj, rfl, rfl, H, K⟩ := hrel
      by_cases hlt : i0 < j0
      · skip
        obtain ⟨s, sh⟩ : ∃ z : Nat, z = i0 + j0 := ⟨_, rfl⟩
        have sI : (i0 : Int) + (j0 : Int) = (s : Int) := by omega
        have sw : IntKind.i64.wrap (s : Int) = (s : Int) := wr64 _ (by omega) (by omega)
        have sz : (0 : Int) ≤ (s : Int) := by omega
        replace sh := Lib.hid sh
        have su : IntKind.u64.wrap (s : Int) = (s : Int) := by simp [IntKind.wrap, IntKind.bits, IntKind.signed]; have := sh.out; omega
        obtain ⟨h, hh⟩ : ∃ z : Nat, z = s / 2 := ⟨_, rfl⟩
        have hI : (s : Int) / 2 = (h : Int) := by omega
        have hw : IntKind.i64.wrap (h : Int) = (h : Int) := wr64 _ (by omega) (by omega)
        have hz : (0 : Int) ≤ (h : Int) := by omega
        replace hh := Lib.hid hh
        have hhb : i0 ≤ h ∧ h < j0 := by have := sh.out; have := hh.out; omega
        have hhn : (h : Int) < (n : Int) := by omega

        obtain ⟨u, uh⟩ : ∃ z : Nat, z = p - h := ⟨_, rfl⟩
        have uI : (p : Int) - (h : Int) = (u : Int) := by omega
        have uw : IntKind.i64.wrap (u : Int) = (u : Int) := wr64 _ (by omega) (by omega)
        have uz : (0 : Int) ≤ (u : Int) := by omega
        replace uh := Lib.hid uh
        have hub : u < b := by have := uh.out; omega
        have hun : (u : Int) < (n : Int) := by omega
        obtain ⟨Z, hZ⟩ : ∃ z, d u = z := ⟨_, rfl⟩
        obtain ⟨Y, hY⟩ : ∃ z, d h = z := ⟨_, rfl⟩
        have hZn : Z < n := by rw [← hZ]; exact G.out.pm.1 _ (by omega)
        have hYn : Y < n := by rw [← hY]; exact G.out.pm.1 _ (by omega)
        have HY := Lib.hid hY
        have HZ := Lib.hid hZ
        have SC := Lib.hid (fun w' (q : Hid (Sw w0 w' g n cap d)) => (⟨by rw [sw_cell q (by omega), hZ], by rw [sw_cell q (by omega), hY]⟩ : w'.cell? ⟨g, u, none⟩ = some (.int .i64 (Z : Int)) ∧ w'.cell? ⟨g, h, none⟩ = some (.int .i64 (Y : Int))))
        have CC := Lib.hid (fun w' (q : Hid (Sw w0 w' g n cap d)) => C.out w' q.out.alt Z Y hZn hYn)
        have HD := sw_next H ((Below.refl _ wr).drew)
        have hcm := cm_lt f Z Y (hf.out Z hZn) (hf.out Y hYn)
        clear hY hZ
        by_cases hc : ky f Z < ky f Y
        · have hr := hcm.2 hc
          replace hc := Lib.hid hc
          clear hcm
          generalize cm f Z Y = r at *
          go_wp2_with fail
          go_region_held3 (fun w' => w'.cell? ⟨g, u, none⟩ = some (.int .i64 (Z : Int)) ∧ w'.cell? ⟨g, h, none⟩ = some (.int .i64 (Y : Int)))
            (first | exact SC.out _ H5 | exact SC.out _ HD)
            (first | (go_at_call 117; refine (CC.out _ HD).mono ?_; rintro e1 w5 ⟨rfl, k5⟩; have H5 := sw_next HD k5))
          go_wp2_with fail
          go_roundw
          case rel => exact ⟨i0, h, by omega, by omega, by omega, rfl, rfl, H5, Lib.hid ⟨K.out.1, .inr (by rw [← uh.out, HY.out, HZ.out]; exact hc.out)⟩⟩
          case measure => simp [intOf]; omega
        · have hr : 0 ≤ cm f Z Y := by
            by_cases c : cm f Z Y < 0
            · exact absurd (hcm.1 c) hc
            · omega
          have hrd : decide (cm f Z Y < 0) = false := decide_eq_false (by omega)
          have hrn : ¬ cm f Z Y < 0 := by omega
          replace hc := Lib.hid hc
          clear hcm
          generalize cm f Z Y = r at *
          go_wp2_with fail
          go_region_held3 (fun w' => w'.cell? ⟨g, u, none⟩ = some (.int .i64 (Z : Int)) ∧ w'.cell? ⟨g, h, none⟩ = some (.int .i64 (Y : Int)))
            (first | exact SC.out _ H5 | exact SC.out _ HD)
            (first | (go_at_call 117; refine (CC.out _ HD).mono ?_; rintro e1 w5 ⟨rfl, k5⟩; have H5 := sw_next HD k5))
          go_wp2_with fail
          go_roundw
          case rel => exact ⟨h + 1, j0, by omega, by omega, hj, by simp, rfl, H5, Lib.hid ⟨.inr (by rw [show h + 1 - 1 = h by omega, ← uh.out, HY.out, HZ.out]; have := hc.out; omega), K.out.2⟩⟩
          case measure => simp [intOf]; omega
      · obtain rfl : i0 = j0 := by omega
        obtain ⟨e, eh⟩ : ∃ z : Nat, z = nn - i0 := ⟨_, rfl⟩
        have eI : (nn : Int) - (i0 : Int) = (e : Int) := by omega
        have ew : IntKind.i64.wrap (e : Int) = (e : Int) := wr64 _ (by omega) (by omega)
        have ez : (0 : Int) ≤ (e : Int) := by omega
        replace eh := Lib.hid eh
        have M : Hid (Mg (ky f) d n a m b i0 e mid) := Lib.hid (mg_mk (s0 := a) (r0 := m) G.out ha h2 h3 hl.out hs.out (by rw [midh.out, s0h.out]) nnh.out ph.out eh.out hi hj (.inr ⟨by omega, rfl, rfl⟩) K.out)
        have TL := Lib.hid (tl_of M.out)
        clear K qI qw qz qh hq1 vI vw vz vh hv1 s0I s0w s0z s0h su0 midI midw midz midh nnw nnz nnh pI pw pz ph sh0 h1 h0 hb1 hgt hsr hi hij hj hlt h2 h3 ha eh 
        by_cases c5 : i0 < m
        · by_cases c6 : m < e
          · have RO := Lib.hid (fun w' (h : Hid (Sw w0 w' g n cap d)) => rotate_any lb g n cap i0 m e d w0 w' h c5 c6 (by have := TL.out.q; omega))
            go_wp2_with fail
            refine (RO.out _ H).mono ?_
            rintro e9 w6 ⟨rfl, H1⟩
            clear RO H
            by_cases c1 : a < i0
            · by_cases c2 : i0 < mid
              · have R := Lib.hid (fun w' (h : Hid (Sw w0 w' g n cap (rot d i0 m e))) => IH.out a i0 mid _ w' (by have := TL.out.q; omega) c1 c2 (by have := TL.out.q; omega) h (Lib.hid M.out.good) (Lib.hid M.out.sl) (Lib.hid M.out.sml))
                go_wp2_with fail
                refine (R.out _ H1).mono ?_
                rintro e9 w7 ⟨rfl, d2, H2, F2⟩
                have A : Hid (Aft (ky f) d d2 n a m b i0 e mid) := Lib.hid ⟨F2.out.1, F2.out.2.1, F2.out.2.2⟩
                clear R
                by_cases c3 : mid < e
                · by_cases c4 : e < b
                  · have AM := aft_mid M A
                    have R := Lib.hid (fun w' (h : Hid (Sw w0 w' g n cap d2)) => IH.out mid e b d2 w' (by have := TL.out.q; omega) c3 c4 TL.out.q.2.2.1 h (Lib.hid A.out.g) (Lib.hid AM.1) (Lib.hid AM.2))
                    clear AM
                    go_wp2_with fail
                    refine (R.out _ H2).mono ?_
                    rintro e9 w8 ⟨rfl, d3, H3, F3⟩
                    have F := aft_fin M A F3
                    go_wp2_with fail
                    refine bodyPost_end (v := .tuple #[]) ?_ rfl ⟨rfl, d3, H3, F⟩
                    simp [results, Try.results169, go_sem]
                  · have F := aft_end M A (by omega)
                    go_wp2_with fail
                    refine bodyPost_end (v := .tuple #[]) ?_ rfl ⟨rfl, d2, H2, F⟩
                    simp [results, Try.results169, go_sem]
                · have F := aft_end M A (by omega)
                  go_wp2_with fail
                  refine bodyPost_end (v := .tuple #[]) ?_ rfl ⟨rfl, d2, H2, F⟩
                  simp [results, Try.results169, go_sem]
              · obtain ⟨d2, hd2⟩ : ∃ z, z = rot d i0 m e := ⟨_, rfl⟩
                have A := aft_no M (by omega)
                rw [← hd2] at A
                have H2 := H1
                rw [← hd2] at H2
                clear hd2
                by_cases c3 : mid < e
                · by_cases c4 : e < b
                  · have AM := aft_mid M A
                    have R := Lib.hid (fun w' (h : Hid (Sw w0 w' g n cap d2)) => IH.out mid e b d2 w' (by have := TL.out.q; omega) c3 c4 TL.out.q.2.2.1 h (Lib.hid A.out.g) (Lib.hid AM.1) (Lib.hid AM.2))
                    clear AM
                    go_wp2_with fail
                    refine (R.out _ H2).mono ?_
                    rintro e9 w8 ⟨rfl, d3, H3, F3⟩
                    have F := aft_fin M A F3
                    go_wp2_with fail
                    refine bodyPost_end (v := .tuple #[]) ?_ rfl ⟨rfl, d3, H3, F⟩
                    simp [results, Try.results169, go_sem]
                  · have F := aft_end M A (by omega)
                    go_wp2_with fail
                    refine bodyPost_end (v := .tuple #[]) ?_ rfl ⟨rfl, d2, H2, F⟩
                    simp [results, Try.results169, go_sem]
                · have F := aft_end M A (by omega)
                  go_wp2_with fail
                  refine bodyPost_end (v := .tuple #[]) ?_ rfl ⟨rfl, d2, H2, F⟩
                  simp [results, Try.results169, go_sem]
            · obtain ⟨d2, hd2⟩ : ∃ z, z = rot d i0 m e := ⟨_, rfl⟩
              have A := aft_no M (by omega)
              rw [← hd2] at A
              have H2 := H1
              rw [← hd2] at H2
              clear hd2
              by_cases c3 : mid < e
              · by_cases c4 : e < b
                · have AM := aft_mid M A
                  have R := Lib.hid (fun w' (h : Hid (Sw w0 w' g n cap d2)) => IH.out mid e b d2 w' (by have := TL.out.q; omega) c3 c4 TL.out.q.2.2.1 h (Lib.hid A.out.g) (Lib.hid AM.1) (Lib.hid AM.2))
                  clear AM
                  go_wp2_with fail
                  refine (R.out _ H2).mono ?_
                  rintro e9 w8 ⟨rfl, d3, H3, F3⟩
                  have F := aft_fin M A F3
                  go_wp2_with fail
                  refine bodyPost_end (v := .tuple #[]) ?_ rfl ⟨rfl, d3, H3, F⟩
                  simp [results, Try.results169, go_sem]
                · have F := aft_end M A (by omega)
                  go_wp2_with fail
                  refine bodyPost_end (v := .tuple #[]) ?_ rfl ⟨rfl, d2, H2, F⟩
                  simp [results, Try.results169, go_sem]
              · have F := aft_end M A (by omega)
                go_wp2_with fail
                refine bodyPost_end (v := .tuple #[]) ?_ rfl ⟨rfl, d2, H2, F⟩
                simp [results, Try.results169, go_sem]
          · have H1 : Hid (Sw w0 wr g n cap (rot d i0 m e)) := by rw [show e = m by have := TL.out.q; omega, rot_idr d i0 m (by have := TL.out.q; omega)]; exact H
            clear H
            by_cases c1 : a < i0
            · by_cases c2 : i0 < mid
              · have R := Lib.hid (fun w' (h : Hid (Sw w0 w' g n cap (rot d i0 m e))) => IH.out a i0 mid _ w' (by have := TL.out.q; omega) c1 c2 (by have := TL.out.q; omega) h (Lib.hid M.out.good) (Lib.hid M.out.sl) (Lib.hid M.out.sml))
                go_wp2_with fail
                refine (R.out _ H1).mono ?_
                rintro e9 w7 ⟨rfl, d2, H2, F2⟩
                have A : Hid (Aft (ky f) d d2 n a m b i0 e mid) := Lib.hid ⟨F2.out.1, F2.out.2.1, F2.out.2.2⟩
                clear R
                by_cases c3 : mid < e
                · by_cases c4 : e < b
                  · have AM := aft_mid M A
                    have R := Lib.hid (fun w' (h : Hid (Sw w0 w' g n cap d2)) => IH.out mid e b d2 w' (by have := TL.out.q; omega) c3 c4 TL.out.q.2.2.1 h (Lib.hid A.out.g) (Lib.hid AM.1) (Lib.hid AM.2))
                    clear AM
                    go_wp2_with fail
                    refine (R.out _ H2).mono ?_
                    rintro e9 w8 ⟨rfl, d3, H3, F3⟩
                    have F := aft_fin M A F3
                    go_wp2_with fail
                    refine bodyPost_end (v := .tuple #[]) ?_ rfl ⟨rfl, d3, H3, F⟩
                    simp [results, Try.results169, go_sem]
                  · have F := aft_end M A (by omega)
                    go_wp2_with fail
                    refine bodyPost_end (v := .tuple #[]) ?_ rfl ⟨rfl, d2, H2, F⟩
                    simp [results, Try.results169, go_sem]
                · have F := aft_end M A (by omega)
                  go_wp2_with fail
                  refine bodyPost_end (v := .tuple #[]) ?_ rfl ⟨rfl, d2, H2, F⟩
                  simp [results, Try.results169, go_sem]
              · obtain ⟨d2, hd2⟩ : ∃ z, z = rot d i0 m e := ⟨_, rfl⟩
                have A := aft_no M (by omega)
                rw [← hd2] at A
                have H2 := H1
                rw [← hd2] at H2
                clear hd2
                by_cases c3 : mid < e
                · by_cases c4 : e < b
                  · have AM := aft_mid M A
                    have R := Lib.hid (fun w' (h : Hid (Sw w0 w' g n cap d2)) => IH.out mid e b d2 w' (by have := TL.out.q; omega) c3 c4 TL.out.q.2.2.1 h (Lib.hid A.out.g) (Lib.hid AM.1) (Lib.hid AM.2))
                    clear AM
                    go_wp2_with fail
                    refine (R.out _ H2).mono ?_
                    rintro e9 w8 ⟨rfl, d3, H3, F3⟩
                    have F := aft_fin M A F3
                    go_wp2_with fail
                    refine bodyPost_end (v := .tuple #[]) ?_ rfl ⟨rfl, d3, H3, F⟩
                    simp [results, Try.results169, go_sem]
                  · have F := aft_end M A (by omega)
                    go_wp2_with fail
                    refine bodyPost_end (v := .tuple #[]) ?_ rfl ⟨rfl, d2, H2, F⟩
                    simp [results, Try.results169, go_sem]
                · have F := aft_end M A (by omega)
                  go_wp2_with fail
                  refine bodyPost_end (v := .tuple #[]) ?_ rfl ⟨rfl, d2, H2, F⟩
                  simp [results, Try.results169, go_sem]
            · obtain ⟨d2, hd2⟩ : ∃ z, z = rot d i0 m e := ⟨_, rfl⟩
              have A := aft_no M (by omega)
              rw [← hd2] at A
              have H2 := H1
              rw [← hd2] at H2
              clear hd2
              by_cases c3 : mid < e
              · by_cases c4 : e < b
                · have AM := aft_mid M A
                  have R := Lib.hid (fun w' (h : Hid (Sw w0 w' g n cap d2)) => IH.out mid e b d2 w' (by have := TL.out.q; omega) c3 c4 TL.out.q.2.2.1 h (Lib.hid A.out.g) (Lib.hid AM.1) (Lib.hid AM.2))
                  clear AM
                  go_wp2_with fail
                  refine (R.out _ H2).mono ?_
                  rintro e9 w8 ⟨rfl, d3, H3, F3⟩
                  have F := aft_fin M A F3
                  go_wp2_with fail
                  refine bodyPost_end (v := .tuple #[]) ?_ rfl ⟨rfl, d3, H3, F⟩
                  simp [results, Try.results169, go_sem]
                · have F := aft_end M A (by omega)
                  go_wp2_with fail
                  refine bodyPost_end (v := .tuple #[]) ?_ rfl ⟨rfl, d2, H2, F⟩
                  simp [results, Try.results169, go_sem]
              · have F := aft_end M A (by omega)
                go_wp2_with fail
                refine bodyPost_end (v := .tuple #[]) ?_ rfl ⟨rfl, d2, H2, F⟩
                simp [results, Try.results169, go_sem]
        · have H1 : Hid (Sw w0 wr g n cap (rot d i0 m e)) := by rw [show i0 = m by have := TL.out.q; omega, rot_id (a := 0) d m (Nat.zero_le _)]; exact H
          clear H
          by_cases c1 : a < i0
          · by_cases c2 : i0 < mid
            · have R := Lib.hid (fun w' (h : Hid (Sw w0 w' g n cap (rot d i0 m e))) => IH.out a i0 mid _ w' (by have := TL.out.q; omega) c1 c2 (by have := TL.out.q; omega) h (Lib.hid M.out.good) (Lib.hid M.out.sl) (Lib.hid M.out.sml))
              go_wp2_with fail
              refine (R.out _ H1).mono ?_
              rintro e9 w7 ⟨rfl, d2, H2, F2⟩
              have A : Hid (Aft (ky f) d d2 n a m b i0 e mid) := Lib.hid ⟨F2.out.1, F2.out.2.1, F2.out.2.2⟩
              clear R
              by_cases c3 : mid < e
              · by_cases c4 : e < b
                · have AM := aft_mid M A
                  have R := Lib.hid (fun w' (h : Hid (Sw w0 w' g n cap d2)) => IH.out mid e b d2 w' (by have := TL.out.q; omega) c3 c4 TL.out.q.2.2.1 h (Lib.hid A.out.g) (Lib.hid AM.1) (Lib.hid AM.2))
                  clear AM
                  go_wp2_with fail
                  refine (R.out _ H2).mono ?_
                  rintro e9 w8 ⟨rfl, d3, H3, F3⟩
                  have F := aft_fin M A F3
                  go_wp2_with fail
                  refine bodyPost_end (v := .tuple #[]) ?_ rfl ⟨rfl, d3, H3, F⟩
                  simp [results, Try.results169, go_sem]
                · have F := aft_end M A (by omega)
                  go_wp2_with fail
                  refine bodyPost_end (v := .tuple #[]) ?_ rfl ⟨rfl, d2, H2, F⟩
                  simp [results, Try.results169, go_sem]
              · have F := aft_end M A (by omega)
                go_wp2_with fail
                refine bodyPost_end (v := .tuple #[]) ?_ rfl ⟨rfl, d2, H2, F⟩
                simp [results, Try.results169, go_sem]
            · obtain ⟨d2, hd2⟩ : ∃ z, z = rot d i0 m e := ⟨_, rfl⟩
              have A := aft_no M (by omega)
              rw [← hd2] at A
              have H2 := H1
              rw [← hd2] at H2
              clear hd2
              by_cases c3 : mid < e
              · by_cases c4 : e < b
                · have AM := aft_mid M A
                  have R := Lib.hid (fun w' (h : Hid (Sw w0 w' g n cap d2)) => IH.out mid e b d2 w' (by have := TL.out.q; omega) c3 c4 TL.out.q.2.2.1 h (Lib.hid A.out.g) (Lib.hid AM.1) (Lib.hid AM.2))
                  clear AM
                  go_wp2_with fail
                  refine (R.out _ H2).mono ?_
                  rintro e9 w8 ⟨rfl, d3, H3, F3⟩
                  have F := aft_fin M A F3
                  go_wp2_with fail
                  refine bodyPost_end (v := .tuple #[]) ?_ rfl ⟨rfl, d3, H3, F⟩
                  simp [results, Try.results169, go_sem]
                · have F := aft_end M A (by omega)
                  go_wp2_with fail
                  refine bodyPost_end (v := .tuple #[]) ?_ rfl ⟨rfl, d2, H2, F⟩
                  simp [results, Try.results169, go_sem]
              · have F := aft_end M A (by omega)
                go_wp2_with fail
                refine bodyPost_end (v := .tuple #[]) ?_ rfl ⟨rfl, d2, H2, F⟩
                simp [results, Try.results169, go_sem]
          · obtain ⟨d2, hd2⟩ : ∃ z, z = rot d i0 m e := ⟨_, rfl⟩
            have A := aft_no M (by omega)
            rw [← hd2] at A
            have H2 := H1
            rw [← hd2] at H2
            clear hd2
            by_cases c3 : mid < e
            · by_cases c4 : e < b
              · have AM := aft_mid M A
                have R := Lib.hid (fun w' (h : Hid (Sw w0 w' g n cap d2)) => IH.out mid e b d2 w' (by have := TL.out.q; omega) c3 c4 TL.out.q.2.2.1 h (Lib.hid A.out.g) (Lib.hid AM.1) (Lib.hid AM.2))
                clear AM
                go_wp2_with fail
                refine (R.out _ H2).mono ?_
                rintro e9 w8 ⟨rfl, d3, H3, F3⟩
                have F := aft_fin M A F3
                go_wp2_with fail
                refine bodyPost_end (v := .tuple #[]) ?_ rfl ⟨rfl, d3, H3, F⟩
                simp [results, Try.results169, go_sem]
              · have F := aft_end M A (by omega)
                go_wp2_with fail
                refine bodyPost_end (v := .tuple #[]) ?_ rfl ⟨rfl, d2, H2, F⟩
                simp [results, Try.results169, go_sem]
            · have F := aft_end M A (by omega)
              go_wp2_with fail
              refine bodyPost_end (v := .tuple #[]) ?_ rfl ⟨rfl, d2, H2, F⟩
              simp [results, Try.results169, go_sem]
end Go.Proofs.Ytgkahcchekiogaa.Rtu

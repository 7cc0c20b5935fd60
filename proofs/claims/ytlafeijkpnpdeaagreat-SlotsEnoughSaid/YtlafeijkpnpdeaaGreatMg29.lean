import Derived.Maps.AppendAt
import Derived.Deep.AppendLies
import Derived.Test.YtlafeijkpnpdeaaGreatMg28

/- Package slots: Rows. -/
namespace Go.Proofs.YtlafeijkpnpdeaaGreat.Soh
open Go.RowKit Go.Shelf Base Kit RefA WideA WideB Plain Conf Conf2 PowA PowB Vfa Vfb Val Vld Vpa Vpb Vpr Vsh Short Vcf Vch Vci Vnu Vmo Vck Vrp Vl4 FitA FitB FitC NapG Soa Sob Soc Sod Soe Sof Alt LvlF HeldI Sog
set_option linter.unusedVariables false
set_option linter.unusedSimpArgs false
attribute [local go_sem] Oper.semAt_some
theorem rows_in (d : Nat) (c : ConfC) (w : World) :
    CallsIn Fence.wide d Tryz.prog 21 #[.agg #[.slice c.pa c.pn c.pc, .slice c.ca c.cn c.cc, .slice c.ma c.mn c.mc, .slice c.w.la c.w.ln c.w.lc, .slice c.w.na c.w.nn c.w.nc, .int .i64 c.w.sw, .int .i64 c.w.id, .int .i64 c.w.ch, .int .i64 c.w.qu, .int .i64 c.w.sl, .int .i64 c.w.pp, .slice c.da c.dn c.dc, .slice c.ua c.un c.uc]] w fun r w' => r = .returned (.func (.func 32) #[] #[.pointer (some ⟨w.heap.size, 0, none⟩)]) ∧ w' = w.alloc (.cells #[.slice c.pa c.pn c.pc, .slice c.ca c.cn c.cc, .slice c.ma c.mn c.mc, .slice c.w.la c.w.ln c.w.lc, .slice c.w.na c.w.nn c.w.nc, .int .i64 c.w.sw, .int .i64 c.w.id, .int .i64 c.w.ch, .int .i64 c.w.qu, .int .i64 c.w.sl, .int .i64 c.w.pp, .slice c.da c.dn c.dc, .slice c.ua c.un c.uc] 33) := by
  refine callsIn_of_wp Tryz.func21 rfl trivial ?_ rfl
  simp only [Tryz.ntmps21, List.size_toArray, List.length_cons, List.length_nil, Nat.reduceAdd, Nat.reduceSub, Array.replicate_succ, Array.replicate_zero, List.push_toArray, List.append_toArray, List.nil_append, List.cons_append]
  gi_wp2
  go_ret
  exact ⟨rfl, rfl⟩
theorem rows_stops (d : Nat) (hd : 1 ≤ d) (Bc n₀ ob B0 : Nat) (c : ConfC) (w : World)
    (ok : Hid (∀ W', Below B0 w W' → c.Ok W')) (P : Hid (Pos B0 n₀ ob Bc w)) (hcap : c.w.ln ≤ c.w.lc ∧ c.w.lc ≤ 9223372036854775807) (hv : Hid ((CheckR c).1 = 0)) (sh : Hid (Sh c)) (hx : Hid (Box w Bc #[.slice c.pa c.pn c.pc, .slice c.ca c.cn c.cc, .slice c.ma c.mn c.mc, .slice c.w.la c.w.ln c.w.lc, .slice c.w.na c.w.nn c.w.nc, .int .i64 c.w.sw, .int .i64 c.w.id, .int .i64 c.w.ch, .int .i64 c.w.qu, .int .i64 c.w.sl, .int .i64 c.w.pp, .slice c.da c.dn c.dc, .slice c.ua c.un c.uc] 33)) :
    SeqStopsK Fence.wide d Tryz.prog 32 #[.pointer (some ⟨Bc, 0, none⟩)] (fun z : Nat × Nat => #[Value.agg (rv c z).toArray]) (Kp n₀ ob) (fun ys => ys = prs c c.mn) (fun _ => True) (prs c c.mn).length w := fun l J Jx W hW hA _ hY h0 => by
  have p := P.out
  have hs := hW.size
  exact rows1_in d hd l Bc n₀ ob B0 c J Jx W (Lib.hid (fun W' h => ok.out W' ((hW.mono (by have := p.h0; have := p.h2; omega)).trans h))) (Lib.hid ⟨p.h0, p.h1, Nat.le_trans p.h2 hs, p.h3, p.h4⟩) hcap hv sh (Lib.hid (hx.out.next hW))
    (Lib.hid (fun pre W1 W2 hj hbel _ => hA pre W1 W2 none hj (LvlF.grown_below hbel) (fun r e => by cases e))) (Lib.hid hY) h0
def encR (c : ConfC) (L : List (Nat × Nat)) : List Value := L.flatMap (rv c)
theorem encR_snoc (c : ConfC) (L : List (Nat × Nat)) (z : Nat × Nat) : encR c (L ++ [z]) = encR c L ++ rv c z := by simp [encR]
theorem encR_len (c : ConfC) : ∀ L : List (Nat × Nat), (encR c L).length = L.length * 7
  | [] => rfl
  | z :: L => by
    have := encR_len c L
    simp only [encR, List.flatMap_cons, List.length_append, List.length_cons] at *
    rw [this]
    simp [rv]; omega
theorem box_own {β : Type} (B : Nat) (t : TypeId) (f : β → Array Value) : Own (fun s W => Box W B (f s) t) := fun s X Y row hs hg hrow => by
  refine Box.grown hs hg (fun e => ?_)
  obtain ⟨o, ho, hc⟩ := hrow B e.symm
  unfold Box at hs
  rw [hs] at ho
  cases ho
  simp [Obj.isCells] at hc
theorem ownFrom_kp {β : Type} {n₀ ob B : Nat} (W0 : World) (hB : n₀ ≤ B) : OwnFrom B (fun (_ : β) W => Kp n₀ ob W0 W) :=
  fun s W W' row hs hg hr => ⟨hs.1.trans (Alt.of_grown hg (fun i e => .inr (by have := (hr i e).1; omega))), hs.2.trans ⟨fun k vs T fz e _ _ => by
    refine hg.block k (lt_of_heap e) (fun e2 => ?_)
    obtain ⟨_, o, ho, hc⟩ := hr k e2.symm
    rw [e] at ho
    cases ho
    simp [Obj.isCells] at hc⟩⟩
theorem mn_pos {c : ConfC} (h : (CheckR c).1 = 0) : 1 ≤ c.mn := by
  unfold CheckR at h
  split at h
  · obtain ⟨a1, h⟩ := thn_ok h
    obtain ⟨a2, h⟩ := thn_ok h
    obtain ⟨a3, h⟩ := thn_ok h
    obtain ⟨a4, h⟩ := thn_ok h
    unfold modesR at a4
    split at a4
    · rename_i h1
      have := inB_iff.1 h1
      omega
    · cases a4
  · cases h
def rowsL (c : ConfC) : List (Nat × Nat) := if (CheckR c).1 = 0 then prs c c.mn else []
def RoPost (c : ConfC) (w : World) (r : Ending) (w' : World) : Prop := ∃ v, r = .returned v ∧ w'.ownsRow w.heap.size 41 7 v (rowsL c).length (encR c (rowsL c)) ∧ Below w.heap.size w w'
theorem tk_grown {W W' : World} {base n : Nat} {v : Value} {xs : List Value} (hrow : W.ownsRow base 41 7 v n xs) (hg : W.grownBy W' v.ownBlock) : Tk W W' := ⟨fun k vs T fz e n1 n2 => by
  refine hg.block k (lt_of_heap e) (fun e2 => ?_)
  rcases hrow.2 with ⟨h', _⟩ | ⟨g, cap, cur, hv, _, hh, _⟩
  · rw [h'] at e2; simp [Value.ownBlock] at e2
  · rw [hv] at e2
    simp only [Value.ownBlock, Option.some.injEq] at e2
    subst e2
    rw [hh] at e
    cases e
    exact n1 rfl⟩
theorem tk_set {W : World} {b : Nat} {v : Value} (h : Boxed W b 36 v) (u : Value) : Tk W (W.setCell ⟨b, 0, none⟩ u) := ⟨fun k vs T fz e n1 n2 => by
  refine Below.heap_setCell _ _ _ _ (fun e2 => ?_)
  subst e2
  rw [show W.heap[k]? = _ from h] at e
  cases e
  exact n2 rfl⟩
theorem infoRow : (Tryz.prog.info? 41).map (fun i => (i.zero, i.size, i.bytes)) = some (some (.agg #[.int .i64 0, .int .i64 0, .int .i64 0, .int .i64 0, .int .i64 0, .int .i64 0, .int .i64 0]), 7, 56) := by kernel_rfl
set_option maxRecDepth 100000 in
set_option maxHeartbeats 4000000 in
theorem Rows_any (c : ConfC) (w : World) (ok : c.Ok w) (hcap : c.w.ln ≤ c.w.lc ∧ c.w.lc ≤ 9223372036854775807) (sh : Sh c) :
    Calls Tryz.prog 9 #[.agg #[.slice c.pa c.pn c.pc, .slice c.ca c.cn c.cc, .slice c.ma c.mn c.mc, .slice c.w.la c.w.ln c.w.lc, .slice c.w.na c.w.nn c.w.nc, .int .i64 c.w.sw, .int .i64 c.w.id, .int .i64 c.w.ch, .int .i64 c.w.qu, .int .i64 c.w.sl, .int .i64 c.w.pp, .slice c.da c.dn c.dc, .slice c.ua c.un c.uc]] w (RoPost c w) := by
  have OK := Lib.hid (fun w' (h : Below w.heap.size w w') => ok.below h (Nat.le_refl _))
  obtain ⟨f, hf⟩ : ∃ f, isF c 0 = f := ⟨_, rfl⟩
  have CK := Lib.hid (fun w' (h : c.Ok w') => find_any c 0 f w' h (Lib.hid hf))
  have HF := Lib.hid hf
  have S := cs_in w c
  have bc := S.out.box.cell
  clear hf
  refine (callsIn_wide (n := 3)).1 ?_
  refine callsIn_of_wp_marks Tryz.func9 rfl trivial ?_ rfl
  simp only [Tryz.ntmps9, List.size_toArray, List.length_cons, List.length_nil, Nat.reduceAdd, Nat.reduceSub, Array.replicate_succ, Array.replicate_zero, List.push_toArray, List.append_toArray, List.nil_append, List.cons_append]
  cases f
  · simp only [Bool.false_eq_true, if_false] at CK
    have EL : rowsL c = [] := by
      unfold rowsL
      by_cases h : (CheckR c).1 = 0
      · exact absurd ⟨h, Int.le_refl 0, by have := mn_pos h; omega⟩ (isF_no.1 HF.out)
      · rw [if_neg h]
    have EL := Lib.hid EL
    gi_wp2_with ((first | gi_at_call 20 | (refine ⟨trivial, ?_⟩; gi_at_call 20)); refine (callsIn_wide.2 (CK.out _ (OK.out _ S.out.bel))).mono ?_; rintro e1 w5 ⟨rfl, k5⟩)
    refine ⟨_, results_tmp rfl _ _ _, _, rfl, ?_, ?_⟩
    · rw [EL.out]; exact World.ownsRow_nil _ _ _ _
    · exact (below_next S.out.bel k5).alloc (by have := S.out.bel.size; have := k5.size; omega) _
  · simp only [if_true] at CK
    obtain ⟨hv, -, -⟩ := isF_iff.1 HF.out
    have EL := Lib.hid (show rowsL c = prs c c.mn from if_pos hv)
    have HV := Lib.hid hv
    have LB := Lib.hid (prs_bd (c := c) sh.2.2 c.mn (Nat.le_refl _))
    have hmn := sh.1.2.2.1
    clear hv HF
    generalize c.m (Int.toNat 0) = m at *
    gi_wp2_with ((first | gi_at_call 20 | (refine ⟨trivial, ?_⟩; gi_at_call 20)); refine (callsIn_wide.2 (CK.out _ (OK.out _ S.out.bel))).mono ?_; rintro e1 w5 ⟨rfl, k5⟩; have S5 := cs_next S k5; clear k5 bc; have bc := (S5.out.box.alloc (.cells #[.int .i64 m.fr, .slice m.wa m.wn m.wc] 52)).cell; have bl := S5.out.box.lt)
    gi_wp2_with ((first | gi_at_call 21 | (refine ⟨trivial, ?_⟩; gi_at_call 21)); refine (rows_in _ c _).mono ?_; rintro r w' ⟨rfl, rfl⟩)
    have K0 : Hid (Cs w5 (((w5.alloc (.cells #[.int .i64 m.fr, .slice m.wa m.wn m.wc] 52)).alloc (.cells #[.slice none 0 0] 36)).alloc (.cells #[.slice c.pa c.pn c.pc, .slice c.ca c.cn c.cc, .slice c.ma c.mn c.mc, .slice c.w.la c.w.ln c.w.lc, .slice c.w.na c.w.nn c.w.nc, .int .i64 c.w.sw, .int .i64 c.w.id, .int .i64 c.w.ch, .int .i64 c.w.qu, .int .i64 c.w.sl, .int .i64 c.w.pp, .slice c.da c.dn c.dc, .slice c.ua c.un c.uc] 33)) (w5.heap.size + 1 + 1) c ∧ Boxed (((w5.alloc (.cells #[.int .i64 m.fr, .slice m.wa m.wn m.wc] 52)).alloc (.cells #[.slice none 0 0] 36)).alloc (.cells #[.slice c.pa c.pn c.pc, .slice c.ca c.cn c.cc, .slice c.ma c.mn c.mc, .slice c.w.la c.w.ln c.w.lc, .slice c.w.na c.w.nn c.w.nc, .int .i64 c.w.sw, .int .i64 c.w.id, .int .i64 c.w.ch, .int .i64 c.w.qu, .int .i64 c.w.sl, .int .i64 c.w.pp, .slice c.da c.dn c.dc, .slice c.ua c.un c.uc] 33)) (w5.heap.size + 1) 36 (.slice none 0 0) ∧ (((w5.alloc (.cells #[.int .i64 m.fr, .slice m.wa m.wn m.wc] 52)).alloc (.cells #[.slice none 0 0] 36)).alloc (.cells #[.slice c.pa c.pn c.pc, .slice c.ca c.cn c.cc, .slice c.ma c.mn c.mc, .slice c.w.la c.w.ln c.w.lc, .slice c.w.na c.w.nn c.w.nc, .int .i64 c.w.sw, .int .i64 c.w.id, .int .i64 c.w.ch, .int .i64 c.w.qu, .int .i64 c.w.sl, .int .i64 c.w.pp, .slice c.da c.dn c.dc, .slice c.ua c.un c.uc] 33)).heap.size = w5.heap.size + 1 + 1 + 1) := by
      have c1 := Boxed.new (w5.alloc (.cells #[.int .i64 m.fr, .slice m.wa m.wn m.wc] 52)) 36 (.slice none 0 0)
      have c2 := Box.new ((w5.alloc (.cells #[.int .i64 m.fr, .slice m.wa m.wn m.wc] 52)).alloc (.cells #[.slice none 0 0] 36)) #[.slice c.pa c.pn c.pc, .slice c.ca c.cn c.cc, .slice c.ma c.mn c.mc, .slice c.w.la c.w.ln c.w.lc, .slice c.w.na c.w.nn c.w.nc, .int .i64 c.w.sw, .int .i64 c.w.id, .int .i64 c.w.ch, .int .i64 c.w.qu, .int .i64 c.w.sl, .int .i64 c.w.pp, .slice c.da c.dn c.dc, .slice c.ua c.un c.uc] 33
      simp only [World.size_alloc] at c1 c2
      exact Lib.hid ⟨⟨(((Below.refl _ _).alloc (Nat.le_refl _) _).alloc (by simp) _).alloc (by simp; omega) _, c2⟩, c1.alloc _, by simp⟩
    clear bc
    have BW5 := S5.out.bel
    have sz5 := BW5.size
    generalize ((w5.alloc (.cells #[.int .i64 m.fr, .slice m.wa m.wn m.wc] 52)).alloc (.cells #[.slice none 0 0] 36)).alloc (.cells #[.slice c.pa c.pn c.pc, .slice c.ca c.cn c.cc, .slice c.ma c.mn c.mc, .slice c.w.la c.w.ln c.w.lc, .slice c.w.na c.w.nn c.w.nc, .int .i64 c.w.sw, .int .i64 c.w.id, .int .i64 c.w.ch, .int .i64 c.w.qu, .int .i64 c.w.sl, .int .i64 c.w.pp, .slice c.da c.dn c.dc, .slice c.ua c.un c.uc] 33) = W0 at *
    have SZ0 := K0.out.2.2
    generalize w5.heap.size = ms at *
    have BL0 : Hid (Below w.heap.size w W0) := Lib.hid (by
      have := K0.out.1.bel
      exact BW5.trans (this.mono BW5.size))
    have POS : Hid (Pos w.heap.size W0.heap.size (ms + 1) (ms + 1 + 1) W0) := Lib.hid ⟨by omega, by omega, Nat.le_refl _, by omega, by omega⟩
    obtain ⟨i0, hi, hz0, hz1, hz2⟩ := info_parts infoRow
    refine wpIn_rangeFunc_ownH rfl (by omega) (gf := 32) (lb := #[.pointer (some ⟨ms + 1 + 1, 0, none⟩)]) rfl trivial (enters_of Tryz.func32 (by kernel_rfl) rfl)
      (rows_stops (3 - 1) (by omega) (ms + 1 + 1) W0.heap.size (ms + 1) w.heap.size c W0 (Lib.hid (fun W' h => OK.out W' (BL0.out.trans h))) POS hcap HV (Lib.hid sh) (Lib.hid K0.out.1.box))
      kp_trans (kp_put (Nat.le_refl _)) (Below.refl _ _) (fun _ => rfl)
      (fun pre W => (∃ v, Boxed W (ms + 1) 36 v ∧ W.ownsRow W0.heap.size 41 7 v pre.length (encR c pre) ∧ True) ∧ Kp W0.heap.size (ms + 1) W0 W)
      (fun _ _ _ => False)
      (OwnFrom.and (Own.from (holdsRow_own W0.heap.size (ms + 1) 36 41 7 (fun pre : List (Nat × Nat) => pre.length) (fun pre => encR c pre) (fun pre v => True)) _) (ownFrom_kp W0 (Nat.le_refl _)))
      (fun _ _ _ _ _ hs _ _ => hs)
      ⟨⟨_, K0.out.2.1, World.ownsRow_nil _ _ _ _, trivial⟩, Alt.refl _ _, Tk.refl _⟩
      (fun z a' W => ∃ Bx, W0.heap.size ≤ Bx ∧ Box W Bx (rv c z).toArray 41 ∧ a' = { tmps := #[.agg #[.slice c.pa c.pn c.pc, .slice c.ca c.cn c.cc, .slice c.ma c.mn c.mc, .slice c.w.la c.w.ln c.w.lc, .slice c.w.na c.w.nn c.w.nc, .int .i64 c.w.sw, .int .i64 c.w.id, .int .i64 c.w.ch, .int .i64 c.w.qu, .int .i64 c.w.sl, .int .i64 c.w.pp, .slice c.da c.dn c.dc, .slice c.ua c.un c.uc], .pointer (some ⟨w.heap.size, 0, none⟩), .slice none 0 0, .pointer (some ⟨ms, 0, none⟩), .bool true, .pointer (some ⟨ms + 1, 0, none⟩), .pointer (some ⟨Bx, 0, none⟩), .tuple #[.agg #[.int .i64 m.fr, .slice m.wa m.wn m.wc], .bool true], .agg #[.slice c.pa c.pn c.pc, .slice c.ca c.cn c.cc, .slice c.ma c.mn c.mc, .slice c.w.la c.w.ln c.w.lc, .slice c.w.na c.w.nn c.w.nc, .int .i64 c.w.sw, .int .i64 c.w.id, .int .i64 c.w.ch, .int .i64 c.w.qu, .int .i64 c.w.sl, .int .i64 c.w.pp, .slice c.da c.dn c.dc, .slice c.ua c.un c.uc], .tuple #[.agg #[.int .i64 m.fr, .slice m.wa m.wn m.wc], .bool true], .agg #[.int .i64 m.fr, .slice m.wa m.wn m.wc], .bool true, .bool true, .bool false, .agg #[.slice c.pa c.pn c.pc, .slice c.ca c.cn c.cc, .slice c.ma c.mn c.mc, .slice c.w.la c.w.ln c.w.lc, .slice c.w.na c.w.nn c.w.nc, .int .i64 c.w.sw, .int .i64 c.w.id, .int .i64 c.w.ch, .int .i64 c.w.qu, .int .i64 c.w.sl, .int .i64 c.w.pp, .slice c.da c.dn c.dc, .slice c.ua c.un c.uc], .func (.func 32) #[] #[.pointer (some ⟨ms + 1 + 1, 0, none⟩)], .agg (rv c z).toArray, undef, undef, undef, undef, undef], defers := [] })
      ?hax ?assign ?body ?done ?stop
    case hax =>
      rintro z a' _ X Y row ⟨Bx, h1, h2, h3⟩ hg hr
      exact ⟨Bx, h1, box_own Bx 41 (fun (_ : Unit) => (rv c z).toArray) () X Y row h2 hg (fun r e => (hr r e).2), h3⟩
    case assign =>
      rintro l pre z W K ⟨⟨v, hv, hrow, -⟩, hA⟩ hK
      have hsz := hA.1.size
      obtain ⟨x0, x1, x2, x3, x4, x5, x6, hz⟩ : ∃ x0 x1 x2 x3 x4 x5 x6 : Int, rv c z = [.int .i64 x0, .int .i64 x1, .int .i64 x2, .int .i64 x3, .int .i64 x4, .int .i64 x5, .int .i64 x6] := ⟨_, _, _, _, _, _, _, rfl⟩
      rw [hz] at hK ⊢
      clear hz
      gi_wp2
      have hb := (Below.refl W.heap.size W).alloc (Nat.le_refl _) (.cells #[.int .i64 x0, .int .i64 x1, .int .i64 x2, .int .i64 x3, .int .i64 x4, .int .i64 x5, .int .i64 x6] 41)
      exact hK _ _ ((KeepsOthers.alloc _ _).from _) (kp_below hb) ⟨⟨v, hv.alloc _, hrow.alloc _, trivial⟩, kp_trans hA (kp_below hb)⟩ ⟨W.heap.size, hsz, Box.new _ _ _, rfl⟩
    case body =>
      rintro l pre z a' W hl hrr ⟨⟨v, hv, hrow, -⟩, hA⟩ ⟨Bx, hBx, hB, rfl⟩ hlt
      have hsz := hA.1.size
      obtain ⟨x0, x1, x2, x3, x4, x5, x6, hz⟩ : ∃ x0 x1 x2 x3 x4 x5 x6 : Int, rv c z = [.int .i64 x0, .int .i64 x1, .int .i64 x2, .int .i64 x3, .int .i64 x4, .int .i64 x5, .int .i64 x6] := ⟨_, _, _, _, _, _, _, rfl⟩
      have ES : encR c (pre ++ [z]) = encR c pre ++ [.int .i64 x0, .int .i64 x1, .int .i64 x2, .int .i64 x3, .int .i64 x4, .int .i64 x5, .int .i64 x6] := by rw [encR_snoc, hz]
      rw [hz] at hB ⊢
      have ES := Lib.hid ES
      have hb := hB.cell
      have hbl := hB.lt
      have hc := hv.cell
      have hlb := LB.out
      have hge : ∀ g, v.ownBlock = some g → W0.heap.size ≤ g := fun g hg => (World.ownsRow.lt hrow g hg).1
      have hrow' : W.ownsRow w.heap.size 41 7 v pre.length (encR c pre) := own_base hrow (fun g hg => by have := hge g hg; omega)
      clear hz
      gi_wp2_with (gi_at_builtin; go_loud (refine wpListIn_append_own _ rfl _ _ 36 rfl W0.heap.size 41 i0 (.agg #[.int .i64 0, .int .i64 0, .int .i64 0, .int .i64 0, .int .i64 0, .int .i64 0, .int .i64 0]) 7 56 Tryz.underlying36 hi hz0 hz1 hz2 rfl (by decide) _ _ _ rfl (hrow.alloc _) ⟨W.heap.size, 0, none⟩ 1 1 [.int .i64 x0, .int .i64 x1, .int .i64 x2, .int .i64 x3, .int .i64 x4, .int .i64 x5, .int .i64 x6] rfl rfl (World.news_of_block (heap_alloc_new _ _)) (by simp [Value.oneCell']) (by unfold maxLen; omega) (by omega) (by rw [World.size_alloc]; omega) ?_); go_loud (intro v' w1 hown' hgrow _; obtain ⟨g', cap', rfl⟩ := ownsRow_succ hown'; obtain ⟨hv1, hv2, -, hk2, -⟩ := hv.appended (n₀ := w.heap.size) (by decide) hrow' (by omega) (by omega) (own_base hown' (fun g hg => by have := (World.ownsRow.lt hown' g hg).1; omega)) hgrow; have hc1 := hv1.cell; have hf1 := hv1.frozen))
      have hr2 := hown'.kept (grownBy_setCell' w1 (ms + 1) (.slice (some ⟨g', 0, none⟩) (pre.length + 1) cap')) (.inr (hv1.not_row (by decide) hown').symm)
      have hA2 := ((Alt.alloc (S := AX W0.heap.size (ms + 1)) W _).trans (Alt.of_grown hgrow (fun i e => .inr (hge i e)))).trans (Alt.set w1 ⟨ms + 1, 0, none⟩ (.slice (some ⟨g', 0, none⟩) (pre.length + 1) cap') (.inl rfl))
      have hT2 := ((Tk.of_below ((Below.refl W.heap.size W).alloc (Nat.le_refl _) (.cells #[.int .i64 x0, .int .i64 x1, .int .i64 x2, .int .i64 x3, .int .i64 x4, .int .i64 x5, .int .i64 x6] 41))).trans (tk_grown (hrow.alloc _) hgrow)).trans (tk_set hv1 (.slice (some ⟨g', 0, none⟩) (pre.length + 1) cap'))
      exact ⟨hk2.from _, ⟨hA2, hT2⟩, ⟨_, hv2, by rw [ES.out]; simpa using hr2, trivial⟩, kp_trans hA ⟨hA2, hT2⟩⟩
    case done =>
      rintro D ys W hD rfl ⟨⟨v, hv, hrow, -⟩, hA⟩ hK
      have hc := hv.cell
      have bl : Below w.heap.size w W := Alt.below BL0.out hA.1 (by omega) (fun i h => by rcases h with h | h <;> omega)
      gi_wp2
      refine ⟨by simp, .inl ⟨_, _, rfl, run_takeDeferred hK, ?_⟩⟩
      refine ⟨_, results_tmp rfl _ _ _, v, rfl, ?_, bl.trans (belowK_b (w := w) (Nat.le_refl _) W D _ _ (by omega) hK rfl rfl)⟩
      rw [EL.out]
      exact ownsRow_putObj (own_base hrow (fun g hg => by have := (World.ownsRow.lt hrow g hg).1; omega)) _ hK rfl
    case stop =>
      rintro D c pre W _ _ h _
      exact h.elim
end Go.Proofs.YtlafeijkpnpdeaaGreat.Soh

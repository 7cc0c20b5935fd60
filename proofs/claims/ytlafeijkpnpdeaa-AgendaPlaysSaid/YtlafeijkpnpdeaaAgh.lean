/- Package agenda: Due. -/
import Derived.Test.YtlafeijkpnpdeaaAgg
namespace Go.Proofs.Ytlafeijkpnpdeaa.Agh
open Go.RowKit Base Kit Alt Held Agp Aga Agb Agc Agd Age Agf Agg
set_option linter.unusedVariables false
set_option linter.unusedSimpArgs false
attribute [local go_sem ↓] Go.wp_at_zero Go.wp_at_succ
/-- append of one entry to a row of the call's own -/
theorem append3 (w : World) {ops : Array Oper} {rest : List Oper} {o : Oper} {a : Act} {Q : Exit → Act → World → Prop} (hgd : o.guard = .none) (s x : Operand) (t : TypeId)
    (ho : o.op = .call { callee := .builtin .append, args := #[s, x], argTypes := #[t, t] }) (e : TypeId) (ht : Try.prog.underlying t = some (.slice e)) (hinfo : (Try.prog.info? e).map (fun i => (i.zero, i.size, i.bytes)) = some (some (.agg #[.int .i64 0, .int .i64 0, .int .i64 0]), 3, 24))
    (base : Nat) (v : Value) (M : List E) (hs : a.eval s = v) (hown : w.ownsRow base e 3 v M.length (encE M)) (y0 y1 y2 : Int) (hx : a.eval x = .slice (some ⟨w.heap.size, 0, .none⟩) 1 1) (hn : M.length ≤ 1000) (hbase : base ≤ w.heap.size)
    (h : ∀ v' w', w'.ownsRow base e 3 v' (M ++ [(y0, y1, y2)]).length (encE (M ++ [(y0, y1, y2)])) → (w.alloc (.cells #[.int .i64 y0, .int .i64 y1, .int .i64 y2] e)).grownBy w' v.ownBlock → (∀ g, v'.ownBlock = some g → v.ownBlock = some g ∨ w.heap.size < g) → wpList Try.prog ops Q rest (a.put o.dst v') w') :
    wpList Try.prog ops Q (o :: rest) a (w.alloc (.cells #[.int .i64 y0, .int .i64 y1, .int .i64 y2] e)) := by
  obtain ⟨i0, hi, hz0, hz1, hz2⟩ := info_parts hinfo
  refine wpList_append_lies _ hgd s x t ho base e i0 (.agg #[.int .i64 0, .int .i64 0, .int .i64 0]) 3 24 ht hi hz0 hz1 hz2 rfl (by decide) v M.length (encE M) hs (World.ownsRow.alloc hown _) ⟨w.heap.size, 0, none⟩ 1 1 [.int .i64 y0, .int .i64 y1, .int .i64 y2] hx rfl (World.news_of_block (heap_alloc_new _ _)) (by simp [Value.oneCell']) (by omega) (by unfold maxLen; omega) (by omega) (by rw [World.size_alloc]; omega) _ rfl ?_
  intro g cap w2 ho2 hg hat hlt
  refine h _ w2 ?_ hg (fun k hk => ?_)
  · rw [List.length_append, encE_app]
    exact ho2
  · simp only [Value.ownBlock, Option.some.injEq] at hk
    subst hk
    rcases hat with z | z
    · exact .inl z
    · rw [World.size_alloc] at z; exact .inr (by omega)
/-- an agenda, and a row of what is due -/
structure Du (w0 w : World) (ab : Nat) (v0 v : Value) (L : List E) (last most : Int) (u : Value) (M : List E) : Prop where
  alt : Alt (fun k => k = ab ∨ v0.ownBlock = some k) w0 w
  ag : Hid (Ag w ab v L last most)
  ow : v.ownBlock = v0.ownBlock
  row : w.ownsRow w0.heap.size 33 3 u M.length (encE M)
  lt : ab < w0.heap.size ∧ ∀ k, v0.ownBlock = some k → k < w0.heap.size
theorem own_altv {S : Nat → Prop} {w w1 : World} {base n : Nat} {e : TypeId} {size : Nat} {v : Value} {xs : List Value} (h : w.ownsRow base e size v n xs) (k : Alt S w w1) (hs : ∀ g, v.ownBlock = some g → ¬ S g) : w1.ownsRow base e size v n xs := by
  by_cases hv : v = .slice none 0 0
  · rw [hv] at h ⊢
    rcases h with ⟨o1, o2 | ⟨g, cap, cur, o2, _⟩⟩
    · exact ⟨o1, .inl o2⟩
    · simp at o2
  · obtain ⟨g, c, rfl, _, _⟩ := own_form h hv
    exact own_alt h k (hs g rfl)
theorem own_lo {w : World} {base n : Nat} {e : TypeId} {size : Nat} {v : Value} {xs : List Value} (h : w.ownsRow base e size v n xs) {g : Nat} (hg : v.ownBlock = some g) : base ≤ g ∧ g < w.heap.size := h.lt g hg
theorem du_next {w0 w w1 : World} {ab : Nat} {v0 v : Value} {L : List E} {last most : Int} {u : Value} {M : List E} (h : Hid (Du w0 w ab v0 v L last most u M)) (k : Below w.heap.size w w1) : Hid (Du w0 w1 ab v0 v L last most u M) :=
  Lib.hid ⟨h.out.alt.trans (Alt.of_below k), ag_next h.out.ag k, h.out.ow, own_below h.out.row k, h.out.lt⟩
theorem du_out {w0 w w1 : World} {ab g m cap : Nat} {v0 : Value} {L L1 : List E} {last most : Int} {u : Value} {M : List E} (h : Hid (Du w0 w ab v0 (.slice (some ⟨g, 0, none⟩) (m + 1) cap) L last most u M)) (k : Alt (fun k => k = g ∨ k = ab) w w1) (ha : Hid (Ag w1 ab (.slice (some ⟨g, 0, none⟩) m cap) L1 last most)) : Hid (Du w0 w1 ab v0 (.slice (some ⟨g, 0, none⟩) m cap) L1 last most u M) := by
  have e : v0.ownBlock = some g := h.out.ow.symm
  have l := h.out.lt
  refine Lib.hid ⟨h.out.alt.trans (k.mono fun i hi => ?_), ha, h.out.ow, own_altv h.out.row k (fun q hq z => ?_), l⟩
  · rcases hi with hi | hi
    · exact .inr (by rw [hi]; exact e)
    · exact .inl hi
  · have b := (own_lo h.out.row hq).1
    have := l.2 g e
    rcases z with z | z <;> omega
theorem du_app {w0 w w2 : World} {ab : Nat} {v0 v : Value} {L : List E} {last most : Int} {u u' : Value} {M M' : List E} {row : Option Nat} (h : Hid (Du w0 w ab v0 v L last most u M)) (hr : row = u.ownBlock) (hg : w.grownBy w2 row) (ho : w2.ownsRow w0.heap.size 33 3 u' M'.length (encE M')) : Hid (Du w0 w2 ab v0 v L last most u' M') := by
  have l := h.out.lt
  have A : Alt (fun k => u.ownBlock = some k) w w2 := Alt.of_grown hg (fun i hi => by rw [← hr]; exact hi)
  have nb : u.ownBlock ≠ some ab := own_neR h.out.row h.out.ag.out.box (by decide)
  have hn : ∀ k, u.ownBlock = some k → w0.heap.size ≤ k := fun k hk => (own_lo h.out.row hk).1
  refine Lib.hid ⟨⟨A.os.trans h.out.alt.os, A.tape.trans h.out.alt.tape, A.output.trans h.out.alt.output, Nat.le_trans h.out.alt.size A.size, fun i hi hs => (A.block i (Nat.lt_of_lt_of_le hi h.out.alt.size) (fun z => by have := hn i z; omega)).trans (h.out.alt.block i hi hs)⟩, Lib.hid ⟨box_alt h.out.ag.out.box A nb, own_altv h.out.ag.out.own A (fun g hg1 z => ?_), h.out.ag.out.len⟩, h.out.ow, ho, l⟩
  have e := h.out.ow.symm.trans hg1
  have := l.2 g e
  have := hn g z
  omega
def lenV : Value → Nat
  | .slice _ n _ => n
  | _ => 0
theorem own_lenV {w : World} {base n : Nat} {e : TypeId} {size : Nat} {v : Value} {xs : List Value} (h : w.ownsRow base e size v n xs) : lenV v = n := by
  obtain ⟨a, c, rfl⟩ := own_val h
  rfl
def DuePost (w : World) (ab : Nat) (v : Value) (S : List E) (last most now : Int) (r : Ending) (w' : World) : Prop :=
  ∃ u v' L', r = .returned u ∧ Hid (Ag w' ab v' L' last most) ∧ Inv L' (rstS now S) last ∧ Mov ab v v' w w' ∧ v'.ownBlock = v.ownBlock ∧ w'.ownsRow w.heap.size 33 3 u (dueS now S).length (encE (dueS now S))
theorem du_post {w w1 : World} {ab : Nat} {v v1 : Value} {L1 S : List E} {last most now : Int} {u : Value} {M : List E} (h : Hid (Du w w1 ab v v1 L1 last most u M)) (hI : Inv L1 (rstS now S) last) (hM : M = dueS now S) : DuePost w ab v S last most now (.returned u) w1 := by
  subst hM
  exact ⟨u, v1, L1, rfl, h.out.ag, hI, ⟨h.out.alt, fun g hg => .inl (h.out.ow.symm.trans hg)⟩, h.out.ow, h.out.row⟩
set_option maxRecDepth 100000 in
set_option maxHeartbeats 2000000 in
theorem Due_any (ab : Nat) (v : Value) (L S : List E) (last most now : Int) (w : World) (h : Hid (Ag w ab v L last most)) (hI : Inv L S last) : Calls Try.prog 10 #[.pointer (some ⟨ab, 0, none⟩), .int .i64 now] w (DuePost w ab v S last most now) := by
  have hl := h.out.len
  have D : Hid (Du w w ab v v L last most (.slice none 0 0) []) := Lib.hid ⟨Alt.refl _ _, h, rfl, ⟨by simp [encE], .inl ⟨rfl, rfl⟩⟩, h.out.box.lt, fun k hk => (own_lo h.out.own hk).2⟩
  have HI := Lib.hid hI
  have PO := Lib.hid (fun w1 v1 L1 u M (h : Hid (Du w w1 ab v v1 L1 last most u M)) (hI : Inv L1 (rstS now S) last) (hM : M = dueS now S) => du_post h hI hM)
  generalize hP : DuePost w ab v S last most now = PP at *
  clear hI h hP
  go_enter Try.func10, Try.ntmps10
  go_wp2_with fail
  go_loopw [5] (fun x wr => ∃ (v1 : Value) (L1 S1 : List E) (u : Value) (M : List E), x = u ∧ Hid (Du w wr ab v v1 L1 last most u M) ∧ Hid (Inv L1 S1 last ∧ M ++ dueS now S1 = dueS now S ∧ rstS now S1 = rstS now S) ∧ M.length + L1.length ≤ 1000) (fun x _ => 1000 - lenV x)
  case atStart => exact ⟨v, L, S, _, [], rfl, D, Lib.hid ⟨HI.out, rfl, rfl⟩, by simpa using hl⟩
  case round =>
    clear D HI hl
    obtain ⟨v1, L1, S1, u, M, rfl, D, HI, hl⟩ := hrel
    have HLU := Lib.hid (own_lenV D.out.row)
    obtain ⟨⟨y, b⟩, hy⟩ : ∃ z, nxt L1 = z := ⟨_, rfl⟩
    have CN := Lib.hid (Next_any ab v1 L1 last most y b wr D.out.ag (Lib.hid hy))
    unfold nxt at hy
    by_cases hn : L1.length = 0
    · rw [if_pos hn, Prod.mk.injEq] at hy
      obtain ⟨rfl, hb⟩ := hy
      subst hb
      obtain ⟨e1, e2⟩ := due_end (now := now) HI.out.1 (.inl hn)
      have R := Lib.hid (PO.out _ _ _ _ _ D (by rw [← HI.out.2.2, e2]; exact HI.out.1) (by rw [← HI.out.2.1, e1, List.append_nil]))
      clear PO HI D hl hn e1 e2 HLU
      go_wp2_with fail
      refine (CN.out).mono ?_
      rintro e w5 ⟨rfl, e9⟩
      cases e9
      go_wp2_with fail
      exact R.out
    · rw [if_neg hn, Prod.mk.injEq] at hy
      obtain ⟨hy, hb⟩ := hy
      subst hb
      by_cases hlt : now < y
      · obtain ⟨e1, e2⟩ := due_end (now := now) HI.out.1 (.inr (by rw [hy]; exact hlt))
        have R := Lib.hid (PO.out _ _ _ _ _ D (by rw [← HI.out.2.2, e2]; exact HI.out.1) (by rw [← HI.out.2.1, e1, List.append_nil]))
        clear PO HI D hl hn e1 e2 hy HLU
        go_wp2_with fail
        refine (CN.out).mono ?_
        rintro e w5 ⟨rfl, e9⟩
        cases e9
        go_wp2_with fail
        exact R.out
      · have hp : 0 < L1.length := by omega
        obtain ⟨e1, e2⟩ := due_pop (now := now) HI.out.1 hp (by omega)
        have IV := inv_pop HI.out.1 hp
        obtain ⟨g, cap, hv, _, _⟩ := ent_at D.out.ag hp
        obtain ⟨m, hm⟩ : ∃ m, L1.length = m + 1 := ⟨L1.length - 1, by omega⟩
        rw [hm] at hv
        subst hv
        obtain ⟨⟨x0, x1, x2⟩, hx⟩ : ∃ x, at_ L1 0 = x := ⟨_, rfl⟩
        have CO : Hid (Calls Try.prog 21 #[.pointer (some ⟨ab, 0, none⟩), .int .i64 0] wr _) := Lib.hid (out_any ab g m cap L1 last most 0 x0 x1 x2 wr D.out.ag hp (Lib.hid hx))
        have ND : Hid (Inv (outF L1 0) S1.tail last ∧ (M ++ [(x0, x1, x2)]) ++ dueS now S1.tail = dueS now S ∧ rstS now S1.tail = rstS now S) := Lib.hid ⟨IV, by rw [← HI.out.2.1, e1, hx]; simp, by rw [← HI.out.2.2, e2]⟩
        have OL := Lib.hid (out_len hp)
        have HM := Lib.hid hm
        have hl2 : M.length + m + 1 ≤ 1000 := by omega
        clear PO HI hl hn e1 e2 hy IV hm hx hp
        go_wp2_with fail
        refine (CN.out).mono ?_
        rintro e w5 ⟨rfl, e9⟩
        cases e9
        go_wp2_with fail
        refine (CO.out).mono ?_
        rintro e w6 ⟨rfl, AL, AG⟩
        have D2 := du_out D AL AG
        clear D CO CN AL AG
        go_wp2_with (at_builtin; go_loud (refine append3 w6 rfl _ _ 29 rfl 33 (by kernel_rfl) infoEntry w.heap.size _ M rfl (by exact D2.out.row) x0 x1 x2 rfl (by omega) (by have := D2.out.alt.size; exact this) ?_))
        intro u' w7 ho1 hg hf
        have ho : w7.ownsRow w.heap.size 33 3 u' (M ++ [(x0, x1, x2)]).length (encE (M ++ [(x0, x1, x2)])) := by rw [List.length_append]; exact ho1
        have D3 := du_app (du_next D2 ((Below.refl _ _).alloc (Nat.le_refl _) (.cells #[.int .i64 x0, .int .i64 x1, .int .i64 x2] 33))) rfl hg ho
        have HLU2 := Lib.hid (own_lenV ho)
        clear ho ho1 hg hf D2
        go_wp2_with fail
        go_roundw
        case rel => exact ⟨_, _, _, _, _, rfl, D3, ND, by rw [OL.out, HM.out]; simp; omega⟩
        case measure =>
          have e1 := HLU.out
          have e2 := HLU2.out
          rw [List.length_append] at e2
          simp at e2 ⊢
          omega
end Go.Proofs.Ytlafeijkpnpdeaa.Agh

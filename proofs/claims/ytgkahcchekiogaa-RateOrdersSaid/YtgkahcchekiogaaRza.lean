/- slices.Clone of processes. -/
import Derived.Test.YtgkahcchekiogaaRtz
import Derived.Test.YtgkahcchekiogaaPart
import Derived.Lib.SliceRun
namespace Go.Proofs.Ytgkahcchekiogaa.Rza
open Go.RowKit Go.Shelf Base Kit WideA WideB Plain RefA Alt Held Rtf Rto Rtq Rtj Rty Rtz
set_option linter.unusedVariables false
set_option linter.unusedSimpArgs false
theorem infoProc : (Try.prog.info? 102).map (fun i => (i.zero, i.size, i.bytes)) = some (some (.agg #[.int .i64 0, .int .i64 0, .int .i64 0]), 3, 24) := by kernel_rfl
/-- processes in a row -/
def prow (f : Nat → Nat → Int) (n : Nat) : List Value := row (fun t => f (t / 3) (t % 3)) (n * 3)
theorem own_empty (w : World) (e : TypeId) : (w.alloc (.cells #[] e)).ownsRow w.heap.size e 3 (.slice (some ⟨w.heap.size, 0, none⟩) 0 0) 0 [] :=
  ⟨rfl, .inr ⟨w.heap.size, 0, #[], rfl, Nat.le_refl _, heap_alloc_new _ _, Nat.le_refl _, Nat.zero_le _, rfl, rfl⟩⟩
theorem append_procs (w : World) {ops : Array Oper} {rest : List Oper} {o : Oper} {a : Act} {Q : Exit → Act → World → Prop} (hgd : o.guard = .none) (s x : Operand) (t : TypeId)
    (ho : o.op = .call { callee := .builtin .append, args := #[s, x], argTypes := #[t, t] }) (ht : Try.prog.underlying t = some (.slice 102))
    (base : Nat) (v : Value) (hs : a.eval s = v) (hown : w.ownsRow base 102 3 v 0 []) (A : Option Addr) (m c : Nat) (f : Nat → Nat → Int) (hA : A ≠ none) (hx : a.eval x = .slice A m c) (hr : Hid (Open.RowsIn w A m 3 f)) (hn2 : m ≤ 1000) (hbase : base ≤ w.heap.size)
    (h : ∀ v' w', w'.ownsRow base 102 3 v' m (prow f m) → w.grownBy w' v.ownBlock → wpList Try.prog ops Q rest (a.put o.dst v') w') :
    wpList Try.prog ops Q (o :: rest) a w := by
  obtain ⟨i0, hi, hz0, hz1, hz2⟩ := info_parts infoProc
  cases A with
  | none => exact absurd rfl hA
  | some ad =>
    refine wpList_append_own w hgd s x t ho base 102 i0 (.agg #[.int .i64 0, .int .i64 0, .int .i64 0]) 3 24 ht hi hz0 hz1 hz2 rfl (by decide) v 0 [] hs hown ad m c (prow f m) hx (by unfold prow; rw [row_len]) (fun j u hj => ?_) (fun u hu => ?_) (by unfold maxLen; omega) (by omega) hbase ?_
    · have hjm : j < m * 3 := by
        refine Nat.lt_of_not_le fun hle => ?_
        unfold prow at hj
        rw [List.getElem?_eq_none (by rw [row_len]; exact hle)] at hj; cases hj
      unfold prow at hj
      rw [row_get _ _ j hjm] at hj
      cases hj
      obtain ⟨b, off, e, _, hc, _⟩ := rows_at hr (j / 3) (by omega)
      cases e
      have := hc (j % 3) (by omega)
      rw [show j / 3 * 3 + j % 3 = j by omega] at this
      rw [Open.add_none]; exact this
    · simp only [prow, row, List.mem_map] at hu
      obtain ⟨_, _, rfl⟩ := hu
      rfl
    · intro v' w' h1 h2 _
      exact h v' w' (by simpa using h1) h2
set_option maxHeartbeats 1000000 in
set_option maxRecDepth 100000 in
theorem clone_any (a : Option Addr) (n c : Nat) (f : Nat → Nat → Int) (w : World) (h : Hid (Open.RowsIn w a n 3 f)) (hn : n ≤ 1000) :
    Calls Try.prog 115 #[.slice a n c] w fun e w' => ∃ v, e = .returned v ∧ w'.ownsRow w.heap.size 102 3 v n (prow f n) ∧ Below w.heap.size w w' := by
  have q1 := fun w => Lib.run_eql_slice_nil w 67 102 a n c 0 0 Try.underlying67
  cases a with
  | none =>
    have hz : n = 0 := by
      rcases h.out.2.1 with q | ⟨b, off, q, _⟩
      · exact q
      · cases q
    subst hz
    go_enter Try.func115, Try.ntmps115
    go_wp2_with fail
    go_ret
    exact ⟨_, rfl, World.ownsRow_nil _ _ _ _, Below.refl _ _⟩
  | some ad =>
    have o1 : Hid ((w.alloc (.cells #[] 102)).ownsRow w.heap.size 102 3 (.slice (some ⟨w.heap.size, 0, none⟩) 0 0) 0 []) := Lib.hid (own_empty w _)
    have h1 := rows_alloc h (.cells #[] 102)
    go_enter Try.func115, Try.ntmps115
    go_wp2_with (at_builtin; go_loud (refine append_procs _ rfl _ _ 67 rfl Try.underlying67 w.heap.size (.slice (some ⟨w.heap.size, 0, none⟩) 0 0) rfl (by exact o1.out) (some ad) n c f (by simp) rfl (by exact h1) hn (by simp) ?_))
    intro v' w1 hown1 hg
    have HB : Hid (Below w.heap.size w w1) := Lib.hid (((Below.refl w.heap.size w).alloc (Nat.le_refl _) (.cells #[] 102)).grown hg (by simp) (fun k hk => by cases hk; exact Nat.le_refl _))
    have O := Lib.hid hown1
    clear hown1 hg
    go_wp2_with fail
    go_ret
    exact ⟨_, rfl, O.out, HB.out⟩
end Go.Proofs.Ytgkahcchekiogaa.Rza

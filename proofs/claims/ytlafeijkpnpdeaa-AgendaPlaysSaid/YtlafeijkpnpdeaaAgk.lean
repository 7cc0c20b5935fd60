/- The law AgendaNone. -/
import Derived.RangeFuncNested
import Derived.RangeFuncBound
import Derived.RangeFuncCalls
import Derived.RangeFuncBox
import Derived.RangeFuncLeaves
import Derived.RangeFuncFrom
import Derived.Shelf.Abstract
import Derived.OwnWalkIn
import Derived.TacticsInMore
import Derived.LoopNIn
import Derived.LoopIn
import Derived.Test.YtlafeijkpnpdeaaAgi
namespace Go.Proofs.Ytlafeijkpnpdeaa.Agk
open Go.RowKit Go.Shelf Base Kit Alt Held Agp Aga Agb Agc Agd Age Agf Agg Agh Agi
set_option linter.unusedVariables false
set_option linter.unusedSimpArgs false
attribute [local go_sem] Oper.semAt_some
attribute [local go_sem] fne Agi.feq
def Dead (p : Value) (w : World) : Prop := ∀ w', Below w.heap.size w w' → Calls Try.prog 18 #[p] w' fun e w'' => e = .returned (.bool true) ∧ w' = w''
theorem dead_next {p : Value} {w w1 : World} (h : Hid (Dead p w)) (k : Below w.heap.size w w1) : Hid (Dead p w1) := Lib.hid (fun w' b => h.out w' (below_next k b))
theorem dead_of_nil (w : World) : Hid (Dead (.pointer none) w) := Lib.hid (fun w' _ => dead_nil w')
theorem dead_of_box {w : World} {b : Nat} {vs : Array Value} {T : TypeId} (h : Box w b vs T) (h3 : vs[3]? = some (.bool false)) : Hid (Dead (.pointer (some ⟨b, 0, none⟩)) w) := Lib.hid (fun w' k => dead_zero b w' (by rw [(h.next k).cell 3]; exact h3))
theorem Add0 (p : Option Addr) (at1 what : Int) (w : World) (D : Hid (Dead (.pointer p) w)) : Calls Try.prog 8 #[.pointer p, .int .i64 at1, .int .i64 what] w fun e w' => e = .returned (.tuple #[.int .i64 0, .int .i64 1]) ∧ w = w' := by
  have C := Lib.hid (D.out w (Below.refl _ _))
  go_enter Try.func8, Try.ntmps8
  go_wp2_with fail
  refine C.out.mono ?_
  rintro e1 w5 ⟨rfl, e9⟩
  cases e9
  go_wp2_with fail
  go_ret2
  exact ⟨rfl, rfl⟩
theorem Len0 (p : Option Addr)  (w : World) (D : Hid (Dead (.pointer p) w)) : Calls Try.prog 11 #[.pointer p] w fun e w' => e = .returned (.int .i64 0) ∧ w = w' := by
  have C := Lib.hid (D.out w (Below.refl _ _))
  go_enter Try.func11, Try.ntmps11
  go_wp2_with fail
  refine C.out.mono ?_
  rintro e1 w5 ⟨rfl, e9⟩
  cases e9
  go_wp2_with fail
  go_ret
  exact ⟨rfl, rfl⟩
theorem Next0 (p : Option Addr) (w : World) (D : Hid (Dead (.pointer p) w)) : Calls Try.prog 13 #[.pointer p] w fun e w' => e = .returned (.tuple #[.int .i64 0, .bool false]) ∧ w = w' := by
  have C := Lib.hid (D.out w (Below.refl _ _))
  go_enter Try.func13, Try.ntmps13
  go_wp2_with fail
  refine C.out.mono ?_
  rintro e1 w5 ⟨rfl, e9⟩
  cases e9
  go_wp2_with fail
  refine bodyPost_ret (v := .tuple #[.int .i64 0, .bool false]) ?_ rfl ⟨rfl, rfl⟩
  simp [results, Try.results13, go_sem]
theorem Due0 (p : Option Addr) (now : Int) (w : World) (D : Hid (Dead (.pointer p) w)) : Calls Try.prog 10 #[.pointer p, .int .i64 now] w fun e w' => e = .returned (.slice none 0 0) ∧ w = w' := by
  have C := Lib.hid (Next0 p w D)
  go_enter Try.func10, Try.ntmps10
  go_wp2_with fail
  go_loopw [5] (fun x wr => x = .slice none 0 0 ∧ wr = w) (fun _ _ => 0)
  case atStart => exact ⟨rfl, rfl⟩
  case round =>
    obtain ⟨rfl, rfl⟩ := hrel
    go_wp2_with fail
    refine C.out.mono ?_
    rintro e1 w5 ⟨rfl, e9⟩
    cases e9
    go_wp2_with fail
    go_ret
    exact ⟨rfl, rfl⟩
set_option maxRecDepth 100000 in
set_option maxHeartbeats 2000000 in
theorem Drop0 (p : Option Addr) (id : Int) (w : World) (D : Hid (Dead (.pointer p) w)) : Calls Try.prog 16 #[.pointer p, .int .i64 id] w fun e w' => e = .returned (.bool false) ∧ Below w.heap.size w w' := by
  refine (callsIn_wide (n := 3)).1 ?_
  refine callsIn_of_wp_marks Try.func16 rfl trivial ?_ rfl
  simp only [Try.ntmps16, List.size_toArray, List.length_cons, List.length_nil, Nat.reduceAdd, Nat.reduceSub, Array.replicate_succ, Array.replicate_zero, List.push_toArray, List.append_toArray, List.nil_append, List.cons_append]
  have K := Lib.hid ((((Below.refl w.heap.size w).alloc (Nat.le_refl _) (.cells #[.pointer p] 23)).alloc (by simp) (.cells #[.int .i64 id] 3)).alloc (by simp; omega) (.cells #[.bool false] 4))
  gi_wp2_with fail
  refine ⟨trivial, ?_⟩
  refine (callsIn_wide.2 (D.out _ K.out)).mono ?_
  rintro e w5 ⟨rfl, e9⟩
  cases e9
  gi_wp2_with fail
  refine ⟨.bool false, ?_, rfl, K.out⟩
  simp [results, Try.results16, go_sem]
theorem wide_fn (f : FuncId) : Fence.wide.fn f = True := eq_true trivial
theorem box_own {β : Type} (B : Nat) (t : TypeId) (f : β → Array Value) : Own (fun s W => Box W B (f s) t) := fun s X Y row hs hg hrow => by
  refine Box.grown hs hg (fun e => ?_)
  obtain ⟨o, ho, hc⟩ := hrow B e.symm
  unfold Box at hs
  rw [hs] at ho
  cases ho
  simp [Obj.isCells] at hc
theorem all1_dead (d : Nat) (hd : 1 ≤ d) (l Bc : Nat) (p : Option Addr) (W : World) (hc : W.cell? ⟨Bc, 0, none⟩ = some (.pointer p)) (D : Hid (Dead (.pointer p) W)) :
    CallsIn Fence.wide d Try.prog 27 #[.func (.yield l) #[] #[], .pointer (some ⟨Bc, 0, none⟩)] W fun e W' => (∃ v, e = .returned v) ∧ W' = W := by
  refine callsIn_of_wp Try.func27 rfl trivial ?_ rfl
  simp only [Try.ntmps27, List.size_toArray, List.length_cons, List.length_nil, Nat.reduceAdd, Nat.reduceSub, Array.replicate_succ, Array.replicate_zero, List.push_toArray, List.append_toArray, List.nil_append, List.cons_append]
  gi_wp2_with fail
  refine ⟨trivial, ?_⟩
  refine (callsIn_wide.2 (D.out _ (Below.refl _ _))).mono ?_
  rintro e w5 ⟨rfl, e9⟩
  cases e9
  gi_wp2_with fail
  exact bodyPost_ret (results_none rfl _ _ _) rfl ⟨⟨_, rfl⟩, rfl⟩
theorem dead_stops (d : Nat) (hd : 1 ≤ d) (Bc n₀ : Nat) (p : Option Addr) (w : World) (hB : Bc < w.heap.size) (hc : w.cell? ⟨Bc, 0, none⟩ = some (.pointer p)) (D : Hid (Dead (.pointer p) w)) (hn : n₀ = w.heap.size) :
    SeqStopsK Fence.wide d Try.prog 27 #[.pointer (some ⟨Bc, 0, none⟩)] (fun z : E => #[Value.agg (ev z).toArray]) (Below n₀) (fun ys => ys = []) (fun _ => False) 0 w := fun l J Jx W hW _ _ hY h0 => by
  subst hn
  refine (all1_dead d hd l Bc p W ((hW.cell (p := ⟨Bc, 0, none⟩) hB).trans hc) (dead_next D hW)).mono ?_
  rintro e W' ⟨h1, rfl⟩
  exact ⟨h1, .inl ⟨[], rfl, h0⟩⟩
set_option maxRecDepth 100000 in
set_option maxHeartbeats 2000000 in
theorem all0 (p : Option Addr) (w : World) (D : Hid (Dead (.pointer p) w)) : Calls Try.prog 15 #[.pointer p] w fun e w' => e = .returned (.slice none 0 0) ∧ Below w.heap.size w w' := by
  refine (callsIn_wide (n := 3)).1 ?_
  refine callsIn_of_wp_marks Try.func15 rfl trivial ?_ rfl
  simp only [Try.ntmps15, List.size_toArray, List.length_cons, List.length_nil, Nat.reduceAdd, Nat.reduceSub, Array.replicate_succ, Array.replicate_zero, List.push_toArray, List.append_toArray, List.nil_append, List.cons_append]
  gi_wp2_with fail
  refine ⟨trivial, ?_⟩
  refine (callsIn_wide.2 (All_any p _)).mono ?_
  rintro e w5 ⟨rfl, rfl⟩
  gi_wp2_with fail
  have c1 := (Box.new w #[.slice none 0 0] 29).alloc (.cells #[.pointer p] 23)
  have c2 := Box.new (w.alloc (.cells #[.slice none 0 0] 29)) #[.pointer p] 23
  rw [World.size_alloc] at c2
  have K0 : Below w.heap.size w ((w.alloc (.cells #[.slice none 0 0] 29)).alloc (.cells #[.pointer p] 23)) := ((Below.refl _ w).alloc (Nat.le_refl _) _).alloc (by simp) _
  have sz : ((w.alloc (.cells #[.slice none 0 0] 29)).alloc (.cells #[.pointer p] 23)).heap.size = w.heap.size + 2 := by simp
  generalize (w.alloc (.cells #[.slice none 0 0] 29)).alloc (.cells #[.pointer p] 23) = W0 at *
  refine wpIn_rangeFunc_ownH rfl (by omega) (gf := 27) (lb := #[.pointer (some ⟨w.heap.size + 1, 0, none⟩)]) rfl trivial (enters_of Try.func27 (by kernel_rfl) rfl)
    (dead_stops (3 - 1) (by omega) (w.heap.size + 1) W0.heap.size p W0 (by omega) (c2.cell 0) (dead_next D K0) rfl)
    belowK_t (belowK_b (Nat.le_refl _)) (Below.refl _ _) (fun _ => rfl)
    (fun pre W => Box W w.heap.size #[.slice none 0 0] 29 ∧ Below W0.heap.size W0 W)
    (fun _ _ _ => False)
    (OwnFrom.and (Own.from (box_own w.heap.size 29 (fun _ => #[.slice none 0 0])) _) (ownFrom_below (Nat.le_refl _) (Nat.le_refl _)))
    (fun _ _ _ _ _ hs _ _ => hs)
    ⟨c1, Below.refl _ _⟩
    (fun z a' W => ∃ Bx, W0.heap.size ≤ Bx ∧ Box W Bx (ev z).toArray 33 ∧ a' = { tmps := #[.pointer p, undef, .slice none 0 0, .pointer (some ⟨w.heap.size, 0, none⟩), .func (.func 27) #[] #[.pointer (some ⟨w.heap.size + 1, 0, none⟩)], .pointer (some ⟨Bx, 0, none⟩), .pointer p, .func (.func 27) #[] #[.pointer (some ⟨w.heap.size + 1, 0, none⟩)], .func (.func 27) #[] #[.pointer (some ⟨w.heap.size + 1, 0, none⟩)], .bool false, .func (.func 27) #[] #[.pointer (some ⟨w.heap.size + 1, 0, none⟩)], .agg (ev z).toArray, undef, undef, undef, undef, undef], defers := [] })
    ?hax ?assign ?body ?done ?stop
  case hax =>
    rintro z a' _ X Y row ⟨Bx, h1, h2, h3⟩ hg hr
    exact ⟨Bx, h1, box_own Bx 33 (fun (_ : Unit) => (ev z).toArray) () X Y row h2 hg (fun r e => (hr r e).2), h3⟩
  case assign =>
    rintro l pre z W K ⟨hv, hA⟩ hK
    have hsz := hA.size
    obtain ⟨x0, x1, x2, hz⟩ : ∃ x0 x1 x2 : Int, ev z = [.int .i64 x0, .int .i64 x1, .int .i64 x2] := ⟨_, _, _, rfl⟩
    rw [hz] at hK ⊢
    clear hz
    gi_wp2
    have hb := (Below.refl W.heap.size W).alloc (Nat.le_refl _) (.cells #[.int .i64 x0, .int .i64 x1, .int .i64 x2] 33)
    exact hK _ _ ((KeepsOthers.alloc _ _).from _) (hb.mono hsz) ⟨hv.alloc _, hA.trans (hb.mono hsz)⟩ ⟨W.heap.size, hsz, Box.new _ _ _, rfl⟩
  case body =>
    rintro l pre z a' W hl hrr _ _ hlt
    exact absurd hlt (Nat.not_lt_zero _)
  case done =>
    rintro D0 ys W hD rfl ⟨hv, hA⟩ hK
    have hc := hv.cell
    have bl : Below w.heap.size w W := K0.trans (hA.mono (by omega))
    gi_wp2
    refine ⟨by simp, .inl ⟨_, _, rfl, run_takeDeferred hK, ?_⟩⟩
    exact ⟨_, results_tmp rfl _ _ _, rfl, bl.trans (belowK_b (w := w) (Nat.le_refl _) W D0 _ _ (by omega) hK rfl rfl)⟩
  case stop =>
    rintro D0 c pre W _ _ h _
    exact h.elim
end Go.Proofs.Ytlafeijkpnpdeaa.Agk

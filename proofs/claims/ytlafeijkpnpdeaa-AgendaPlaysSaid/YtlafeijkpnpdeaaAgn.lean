/- Package agenda: Drop. -/
import Derived.Test.YtlafeijkpnpdeaaAgm
namespace Go.Proofs.Ytlafeijkpnpdeaa.Agn
open Go.RowKit Go.Shelf Base Kit Alt Held Agp Aga Agb Agc Agd Age Agf Agg Agh Agi Agk Agm
set_option linter.unusedVariables false
set_option linter.unusedSimpArgs false
attribute [local go_sem] Oper.semAt_some
def has (id : Int) (S : List E) : Bool := S.any fun e => decide (e.2.1 = id)
theorem has_iff {id : Int} {S : List E} : has id S = true ↔ ∃ e, e ∈ S ∧ e.2.1 = id := by simp [has]
theorem at_mem {L : List E} {i : Nat} (h : i < L.length) : at_ L i ∈ L := by rw [at_lt h]; exact List.getElem_mem h
theorem no_has {L S : List E} {last id : Int} (v : Inv L S last) (h : ∀ i, i < L.length → (at_ L i).2.1 ≠ id) : has id S = false ∧ del id S = S := by
  have h2 : ∀ e, e ∈ S → e.2.1 ≠ id := fun e he => by
    obtain ⟨i, hi, e1⟩ := List.getElem_of_mem (v.pm.mem_iff.2 he)
    have := h i hi
    rw [at_lt hi, e1] at this
    exact this
  refine ⟨?_, del_no h2⟩
  cases hh : has id S
  · rfl
  · obtain ⟨e, he, h3⟩ := has_iff.1 hh
    exact absurd h3 (h2 e he)
theorem yes_has {L S : List E} {last id : Int} (v : Inv L S last) {i : Nat} (hi : i < L.length) (h : (at_ L i).2.1 = id) : has id S = true := has_iff.2 ⟨at_ L i, v.pm.mem_iff.1 (at_mem hi), h⟩
theorem box_kept {X Y : World} {b : Nat} {vs : Array Value} {T : TypeId} {row : Option Nat} (h : Box X b vs T) (hg : X.grownBy Y row) (hr : ∀ r, row = some r → ∃ o : Obj, X.heap[r]? = some o ∧ o.isCells = false) : Box Y b vs T := box_own b T (fun (_ : Unit) => vs) () X Y row h hg hr
theorem row_kept {X Y : World} {base n size : Nat} {e : TypeId} {v : Value} {xs : List Value} {row : Option Nat} (h : X.ownsRow base e size v n xs) (hg : X.grownBy Y row) (hr : ∀ r, row = some r → ∃ o : Obj, X.heap[r]? = some o ∧ o.isCells = false) : Y.ownsRow base e size v n xs := by
  obtain ⟨h1, h2⟩ := h
  refine ⟨h1, ?_⟩
  rcases h2 with h2 | ⟨g, cap, cur, hv, hb, hh, r⟩
  · exact .inl h2
  · exact .inr ⟨g, cap, cur, hv, hb, box_kept (show Box X g cur e from hh) hg hr, r⟩
theorem ag_kept {X Y : World} {ab : Nat} {v : Value} {L : List E} {last most : Int} {row : Option Nat} (h : Hid (Ag X ab v L last most)) (hg : X.grownBy Y row) (hr : ∀ r, row = some r → ∃ o : Obj, X.heap[r]? = some o ∧ o.isCells = false) : Hid (Ag Y ab v L last most) :=
  Lib.hid ⟨box_kept h.out.box hg hr, row_kept h.out.own hg hr, h.out.len⟩
theorem alt_above {S : Nat → Prop} {w X Y : World} {row : Option Nat} (h : Alt S w X) (hg : X.grownBy Y row) (hr : ∀ r, row = some r → w.heap.size ≤ r) : Alt S w Y :=
  ⟨hg.os.trans h.os, hg.tape.trans h.tape, hg.output.trans h.output, Nat.le_trans h.size hg.size, fun k hk hs => (hg.block k (Nat.lt_of_lt_of_le hk h.size) (fun e => by have := hr k e.symm; omega)).trans (h.block k hk hs)⟩
/-- an entry was dropped -/
structure Dx (w : World) (ab br : Nat) (v : Value) (L : List E) (last most id : Int) (W : World) : Prop where
  alt : Alt (fun k => k = ab ∨ v.ownBlock = some k) w W
  ex : ∃ (i : Fin L.length) (v' : Value), (at_ L i.1).2.1 = id ∧ Hid (Ag W ab v' (outF L i.1) last most) ∧ v'.ownBlock = v.ownBlock
  res : Box W br #[.bool true] 4
theorem dx_own {α : Type} (B : Nat) (w : World) (ab br : Nat) (v : Value) (L : List E) (last most id : Int) (hB : w.heap.size ≤ B) : OwnFrom B (fun (_ : α) W => Dx w ab br v L last most id W) := fun _ X Y row hs hg hr => by
  obtain ⟨i, v', h1, h2, h3⟩ := hs.ex
  exact ⟨alt_above hs.alt hg (fun r e => Nat.le_trans hB (hr r e).1), ⟨i, v', h1, ag_kept h2 hg (fun r e => (hr r e).2), h3⟩, box_kept hs.res hg (fun r e => (hr r e).2)⟩
def DropPost (w : World) (ab : Nat) (v : Value) (S : List E) (last most id : Int) (r : Ending) (w' : World) : Prop :=
  r = .returned (.bool (has id S)) ∧ ∃ v' L', Hid (Ag w' ab v' L' last most) ∧ Inv L' (del id S) last ∧ Mov ab v v' w w'
set_option maxRecDepth 100000 in
set_option maxHeartbeats 4000000 in
theorem Drop_any (ab : Nat) (v : Value) (L S : List E) (last most id : Int) (w : World) (h : Hid (Ag w ab v L last most)) (hI : Inv L S last) : Calls Try.prog 16 #[.pointer (some ⟨ab, 0, none⟩), .int .i64 id] w (DropPost w ab v S last most id) := by
  obtain ⟨a, cap, rfl⟩ := own_val h.out.own
  have hab := h.out.box.lt
  have HI := Lib.hid hI
  clear hI
  refine (callsIn_wide (n := 3)).1 ?_
  refine callsIn_of_wp_marks Try.func16 rfl trivial ?_ rfl
  simp only [Try.ntmps16, List.size_toArray, List.length_cons, List.length_nil, Nat.reduceAdd, Nat.reduceSub, Array.replicate_succ, Array.replicate_zero, List.push_toArray, List.append_toArray, List.nil_append, List.cons_append]
  gi_wp2_with fail
  have b1 := (Box.new w #[.pointer (some ⟨ab, 0, none⟩)] 23)
  have b2 := (Box.new (w.alloc (.cells #[.pointer (some ⟨ab, 0, none⟩)] 23)) #[.int .i64 id] 3)
  have b3 := (Box.new ((w.alloc (.cells #[.pointer (some ⟨ab, 0, none⟩)] 23)).alloc (.cells #[.int .i64 id] 3)) #[.bool false] 4)
  simp only [World.size_alloc] at b1 b2 b3
  replace b1 := (b1.alloc (.cells #[.int .i64 id] 3)).alloc (.cells #[.bool false] 4)
  replace b2 := b2.alloc (.cells #[.bool false] 4)
  have K := Lib.hid ((((Below.refl w.heap.size w).alloc (Nat.le_refl _) (.cells #[.pointer (some ⟨ab, 0, none⟩)] 23)).alloc (by simp) (.cells #[.int .i64 id] 3)).alloc (by simp; omega) (.cells #[.bool false] 4))
  have sz : ((((w.alloc (.cells #[.pointer (some ⟨ab, 0, none⟩)] 23)).alloc (.cells #[.int .i64 id] 3)).alloc (.cells #[.bool false] 4))).heap.size = w.heap.size + 3 := by simp
  generalize ((w.alloc (.cells #[.pointer (some ⟨ab, 0, none⟩)] 23)).alloc (.cells #[.int .i64 id] 3)).alloc (.cells #[.bool false] 4) = W1 at *
  have A1 := ag_next h K.out
  refine ⟨trivial, ?_⟩
  refine (callsIn_wide.2 (live A1)).mono ?_
  rintro e w5 ⟨rfl, e9⟩
  cases e9
  have c1 := b1.cell
  have l1 := b1.lt
  gi_wp2_with fail
  refine ⟨trivial, ?_⟩
  refine (callsIn_wide.2 (places_any ab a L.length cap W1 (A1.out.box.cell 0))).mono ?_
  rintro e w5 ⟨rfl, rfl⟩
  gi_wp2_with fail
  clear c1 l1
  have A2 := ag_next A1 ((Below.refl _ _).alloc (Nat.le_refl _) (.cells #[.slice a L.length cap] 29))
  have B1 := Lib.hid (b1.alloc (.cells #[.slice a L.length cap] 29))
  have B2 := Lib.hid (b2.alloc (.cells #[.slice a L.length cap] 29))
  have B3 := Lib.hid (b3.alloc (.cells #[.slice a L.length cap] 29))
  have B4 := Lib.hid (Box.new W1 #[.slice a L.length cap] 29)
  have K2 := below_hid K ((Below.refl _ _).alloc (Nat.le_refl _) (.cells #[.slice a L.length cap] 29))
  have sz2 : (W1.alloc (.cells #[.slice a L.length cap] 29)).heap.size = w.heap.size + 4 := by simp [sz]
  rw [sz] at B4
  replace sz2 := Lib.hid sz2
  try simp only [sz]
  clear A1 b1 b2 b3 K sz
  generalize W1.alloc (.cells #[.slice a L.length cap] 29) = W0 at *
  refine wpIn_rangeFunc_ownH rfl (by omega) (gf := 38) (lb := #[.pointer (some ⟨w.heap.size + 3, 0, none⟩)]) rfl trivial (enters_of Try.func38 (by kernel_rfl) rfl)
    (all_stops (3 - 1) (by omega) (w.heap.size + 3) W0.heap.size cap ab a L last most W0 (by rw [sz2.out]; omega) (B4.out.cell 0) A2 rfl)
    belowK_t (belowK_b (Nat.le_refl _)) (Below.refl _ _) ?hsz
    (fun pre W => Below W0.heap.size W0 W ∧ Hid (∀ z, z ∈ pre → (at_ L z.1).2.1 ≠ id))
    (fun c _ W => c = .ret ∧ Dx w ab (w.heap.size + 1 + 1) (.slice a L.length cap) L last most id W)
    (OwnFrom.and (ownFrom_below (Nat.le_refl _) (Nat.le_refl _)) (fun _ _ _ _ hs _ _ => hs))
    (fun c => OwnFrom.and (fun _ _ _ _ hs _ _ => hs) (dx_own W0.heap.size w ab (w.heap.size + 1 + 1) (.slice a L.length cap) L last most id (by rw [sz2.out]; omega)))
    ⟨Below.refl _ _, Lib.hid (fun z hz => by cases hz)⟩
    (fun z a' W => ∃ Bx, W0.heap.size ≤ Bx ∧ Box W Bx #[.int .i64 (at_ L z.1).1, .int .i64 (at_ L z.1).2.1, .int .i64 (at_ L z.1).2.2] 33 ∧ a' = { tmps := #[.pointer (some ⟨ab, 0, none⟩), .int .i64 id, .pointer (some ⟨w.heap.size, 0, none⟩), .pointer (some ⟨w.heap.size + 1, 0, none⟩), .pointer (some ⟨w.heap.size + 1 + 1, 0, none⟩), .int .i64 ((z.1 : Nat) : Int), .pointer (some ⟨Bx, 0, none⟩), .pointer (some ⟨ab, 0, none⟩), .bool false, .pointer (some ⟨ab, 0, none⟩), .func (.func 38) #[] #[.pointer (some ⟨w.heap.size + 3, 0, none⟩)], .int .i64 ((z.1 : Nat) : Int), .agg #[.int .i64 (at_ L z.1).1, .int .i64 (at_ L z.1).2.1, .int .i64 (at_ L z.1).2.2], undef, undef, undef, undef, undef, undef, undef], defers := [] })
    ?hax ?assign ?body ?done ?stop
  case hsz => exact fun z => rfl
  case hax =>
    rintro z a' _ X Y row ⟨Bx, h1, h2, h3⟩ hg hr
    exact ⟨Bx, h1, box_kept h2 hg (fun r e => (hr r e).2), h3⟩
  case assign =>
    rintro l pre z W K ⟨hA, hP⟩ hK
    have hsz := hA.size
    unfold encA
    obtain ⟨⟨x0, x1, x2⟩, hz⟩ : ∃ x, at_ L z.1 = x := ⟨_, rfl⟩
    rw [hz] at hK ⊢
    clear hz
    gi_wp2
    have hb := (Below.refl W.heap.size W).alloc (Nat.le_refl _) (.cells #[.int .i64 x0, .int .i64 x1, .int .i64 x2] 33)
    exact hK _ _ ((KeepsOthers.alloc _ _).from _) (hb.mono hsz) ⟨hA.trans (hb.mono hsz), hP⟩ ⟨W.heap.size, hsz, Box.new _ _ _, rfl⟩
  case body =>
    rintro l pre z a' W hl hrr ⟨hA, hP⟩ ⟨Bx, hBx, hB, rfl⟩ hlt
    have hsz := hA.size
    obtain ⟨⟨x0, x1, x2⟩, hz⟩ : ∃ x, at_ L z.1 = x := ⟨_, rfl⟩
    rw [hz] at hB ⊢
    have hb := hB.cell
    have hbl := hB.lt
    have c2 := (B2.out.next hA).cell
    by_cases he : x1 = id
    · have he' : (x1 == id) = true := by simpa using he
      have c1 := (B1.out.next hA).cell
      have A3 := ag_next A2 hA
      obtain ⟨g, cap2, hv, hglt, hgab⟩ := ent_at A2 (by omega)
      simp only [Value.slice.injEq] at hv
      obtain ⟨rfl, -, rfl⟩ := hv
      obtain ⟨m, hm⟩ : ∃ m, L.length = m + 1 := ⟨L.length - 1, by have := z.2; omega⟩
      have A4 : Hid (Ag W ab (.slice (some ⟨g, 0, none⟩) (m + 1) cap) L last most) := by rw [← hm]; exact A3
      have C := Lib.hid (out_any ab g m cap L last most z.1 x0 x1 x2 W A4 z.2 (Lib.hid hz))
      have B3W := B3.out.next hA
      have n1 : g ≠ w.heap.size + 1 + 1 := fun q => own_neR A3.out.own B3W (by decide) (by rw [q]; rfl)
      have n2 : ab ≠ w.heap.size + 1 + 1 := by omega
      have HZ : Hid ((at_ L z.1).2.1 = id) := Lib.hid (by rw [hz]; exact he)
      clear hm A4 A3 hz he
      gi_wp2_with fail
      refine ⟨trivial, ?_⟩
      refine (CallsIn.inRound l (callsIn_wide.2 C.out)).mono ?_
      rintro e w5 ⟨rfl, AL, AG⟩
      have B3X := box_alt B3W AL (fun q => by rcases q with q | q; exact n1 q.symm; exact n2 q.symm)
      have c3 := B3X.cell
      have f3 := B3X.frozen
      gi_wp2_with fail
      have A6 : Alt (fun k => k = w.heap.size + 1 + 1) w5 (w5.setCell ⟨w.heap.size + 1 + 1, 0, none⟩ (.bool true)) := Alt.set _ _ _ rfl
      refine ⟨⟨A6.size |> Nat.le_trans AL.size, fun k o hk ho _ => ?_⟩, rfl, ⟨?_, ⟨z, _, HZ.out, Lib.hid ⟨box_alt AG.out.box A6 (fun q => n2 q), own_altv AG.out.own A6 (fun q hq hq2 => ?_), AG.out.len⟩, rfl⟩, B3X.set 0 _⟩⟩
      · rw [sz2.out] at hk hglt
        rw [A6.block k (Nat.lt_of_lt_of_le (Array.getElem?_eq_some_iff.1 ho).1 AL.size) (by omega), AL.block k (Array.getElem?_eq_some_iff.1 ho).1 (by omega)]
        exact ho
      · exact alt_new ((Alt.of_below (below_next K2.out hA)).trans (AL.mono fun i hi => by rcases hi with hi | hi; exact .inr (by rw [hi]; rfl); exact .inl hi)) (by omega)
      · simp only [Value.ownBlock, Option.some.injEq] at hq
        omega
    · have he' : (x1 == id) = false := by simpa using he
      gi_wp2
      refine ⟨KeepsFrom.refl _ _, Below.refl _ _, hA, Lib.hid (fun q hq => ?_)⟩
      rcases List.mem_append.1 hq with hq | hq
      · exact hP.out q hq
      · obtain rfl := List.mem_singleton.1 hq
        rw [hz]; exact he
  case done =>
    rintro D0 ys W hD rfl ⟨hA, hP⟩ hK
    rw [sz2.out] at hD
    have B3W := B3.out.next hA
    have c3 := B3W.cell
    have f3 := B3W.frozen
    have A3 := ag_next A2 hA
    have n2 : ab ≠ w.heap.size + 1 + 1 := by omega
    have NH := no_has HI.out (id := id) (fun i hi => hP.out ⟨i, hi⟩ (by simp))
    gi_wp2
    have A6 : Alt (fun k => k = w.heap.size + 1 + 1) W (W.setCell ⟨w.heap.size + 1 + 1, 0, none⟩ (.bool false)) := Alt.set _ _ _ rfl
    have hK' : (W.setCell ⟨w.heap.size + 1 + 1, 0, none⟩ (.bool false)).heap[D0]? = some (Obj.deferred (some [])) := by
      rw [Below.heap_setCell _ _ _ _ (by simp only; omega)]; exact hK
    have A7 : Hid (Ag (W.setCell ⟨w.heap.size + 1 + 1, 0, none⟩ (.bool false)) ab (.slice a L.length cap) L last most) := Lib.hid ⟨box_alt A3.out.box A6 (fun q => n2 q), own_altv A3.out.own A6 (fun q hq hq2 => by have := (own_lo h.out.own hq).2; omega), A3.out.len⟩
    have KK : Below w.heap.size w (W.setCell ⟨w.heap.size + 1 + 1, 0, none⟩ (.bool false)) := (below_next K2.out hA).setCell (p := ⟨w.heap.size + 1 + 1, 0, none⟩) (by simp only; omega) _
    have R3 : (W.setCell ⟨w.heap.size + 1 + 1, 0, none⟩ (.bool false)).cell? ⟨w.heap.size + 1 + 1, 0, none⟩ = some (.bool false) := (B3W.set 0 (.bool false)).cell 0
    refine ⟨by simp, .inl ⟨_, _, rfl, run_takeDeferred hK', ?_⟩⟩
    refine ⟨.bool false, ?_, ?_, _, L, ag_kept A7 (grownBy_putObj' _ D0 _) (fun r e => by cases e; exact ⟨_, hK', rfl⟩), by rw [NH.2]; exact HI.out, Mov.below (KK.trans (belowK_b (w := w) (Nat.le_refl _) _ D0 _ _ (by omega) hK' rfl rfl))⟩
    · have R4 : ((W.setCell ⟨w.heap.size + 1 + 1, 0, none⟩ (.bool false)).putObj D0 (Obj.deferred none)).cell? ⟨w.heap.size + 1 + 1, 0, none⟩ = some (.bool false) := (box_kept (B3W.set 0 (.bool false)) (grownBy_putObj' _ D0 _) (fun r e => by cases e; exact ⟨_, hK', rfl⟩)).cell 0
      simp [results, Try.results16, go_sem, R4]
    · rw [NH.1]
  case stop =>
    rintro D0 c pre W hD _ ⟨rfl, X⟩ hK
    rw [sz2.out] at hD
    obtain ⟨z, v', hz, AG, ow⟩ := X.ex
    have c3 := X.res.cell
    gi_wp2
    refine ⟨by simp, .inl ⟨_, _, rfl, run_takeDeferred hK, ?_⟩⟩
    refine ⟨.bool true, ?_, ?_, v', outF L z.1, ag_kept AG (grownBy_putObj' _ D0 _) (fun r e => by cases e; exact ⟨_, hK, rfl⟩), ?_, alt_above X.alt (grownBy_putObj' _ D0 _) (fun r e => by cases e; omega), fun g hg => .inl (by rw [← ow]; exact hg)⟩
    · have R4 : (W.putObj D0 (Obj.deferred none)).cell? ⟨w.heap.size + 1 + 1, 0, none⟩ = some (.bool true) := (box_kept X.res (grownBy_putObj' _ D0 _) (fun r e => by cases e; exact ⟨_, hK, rfl⟩)).cell 0
      simp [results, Try.results16, go_sem, R4]
    · rw [yes_has HI.out z.2 hz]
    · rw [← hz]; exact inv_del HI.out z.2
end Go.Proofs.Ytlafeijkpnpdeaa.Agn

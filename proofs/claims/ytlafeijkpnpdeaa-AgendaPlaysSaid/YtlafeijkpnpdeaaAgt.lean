/- The reference of agenda: Add, Drop, Due. -/
import Derived.Test.YtlafeijkpnpdeaaAgj
import Derived.Test.YtlafeijkpnpdeaaAgn
namespace Go.Proofs.Ytlafeijkpnpdeaa.Agt
open Go.RowKit Base Kit RefA Alt Held Agp Aga Agb Agc Agd Age Agf Agg Agh Agi Agj Agn
set_option linter.unusedVariables false
set_option linter.unusedSimpArgs false
theorem infoEntR : (Try.prog.info? 45).map (fun i => (i.zero, i.size, i.bytes)) = some (some (.agg #[.int .i64 0, .int .i64 0, .int .i64 0]), 3, 24) := by kernel_rfl
/-- the reference's agenda -/
structure Rf (w : World) (rb : Nat) (u : Value) (S : List E) (last most : Int) : Prop where
  box : Box w rb #[u, .int .i64 last, .int .i64 most] 39
  own : w.ownsRow 0 45 3 u S.length (encE S)
  len : S.length ≤ 1000
theorem rf_next {w w1 : World} {rb : Nat} {u : Value} {S : List E} {last most : Int} (h : Hid (Rf w rb u S last most)) (k : Below w.heap.size w w1) : Hid (Rf w1 rb u S last most) := Lib.hid ⟨h.out.box.next k, own_below h.out.own k, h.out.len⟩
theorem rf_alt {Q : Nat → Prop} {w w1 : World} {rb : Nat} {u : Value} {S : List E} {last most : Int} (h : Hid (Rf w rb u S last most)) (k : Alt Q w w1) (h1 : ¬ Q rb) (h2 : ∀ g, u.ownBlock = some g → ¬ Q g) : Hid (Rf w1 rb u S last most) := Lib.hid ⟨box_alt h.out.box k h1, own_altv h.out.own k h2, h.out.len⟩
/-- where a reference's entry lies -/
theorem rent {w : World} {rb : Nat} {a : Option Addr} {n cap : Nat} {S : List E} {last most : Int} (h : Hid (Rf w rb (.slice a n cap) S last most)) (i : Nat) (hi : i < S.length) {x0 x1 x2 : Int} (e : Hid (at_ S i = (x0, x1, x2))) : ∃ g, a = some ⟨g, 0, none⟩ ∧ n = S.length ∧ g < w.heap.size ∧ EC w g i x0 x1 x2 := by
  obtain ⟨g, c, hv, _, hlt⟩ := own_form h.out.own (fun e => by
    have h1 := h.out.own.2
    rw [e] at h1
    rcases h1 with ⟨_, h2⟩ | ⟨g, cap, cur, hv, _⟩
    · omega
    · simp at hv)
  simp only [Value.slice.injEq] at hv
  obtain ⟨rfl, rfl, rfl⟩ := hv
  obtain ⟨p, q, r⟩ := enc_at S i hi
  rw [e.out] at p q r
  refine ⟨g, rfl, rfl, hlt, ?_⟩
  unfold EC
  rw [World.ownsRow.cellAt h.out.own (i * 3) (by omega), World.ownsRow.cellAt h.out.own (i * 3 + 1) (by omega), World.ownsRow.cellAt h.out.own (i * 3 + 2) (by omega)]
  exact ⟨p, q, r⟩
/-- and a new list -/
structure Ra (w0 w : World) (rb : Nat) (u : Value) (S : List E) (last most : Int) (v : Value) (M : List E) : Prop where
  alt : Alt (fun k => k = rb) w0 w
  rf : Hid (Rf w rb u S last most)
  row : w.ownsRow w0.heap.size 45 3 v M.length (encE M)
  lt : rb < w0.heap.size ∧ ∀ k, u.ownBlock = some k → k < w0.heap.size
theorem ra_next {w0 w w1 : World} {rb : Nat} {u : Value} {S : List E} {last most : Int} {v : Value} {M : List E} (h : Hid (Ra w0 w rb u S last most v M)) (k : Below w.heap.size w w1) : Hid (Ra w0 w1 rb u S last most v M) :=
  Lib.hid ⟨h.out.alt.trans (Alt.of_below k), rf_next h.out.rf k, own_below h.out.row k, h.out.lt⟩
theorem ra_app {w0 w w2 : World} {rb : Nat} {u : Value} {S : List E} {last most : Int} {v v' : Value} {M M' : List E} {row : Option Nat} (h : Hid (Ra w0 w rb u S last most v M)) (hr : row = v.ownBlock) (hg : w.grownBy w2 row) (ho : w2.ownsRow w0.heap.size 45 3 v' M'.length (encE M')) : Hid (Ra w0 w2 rb u S last most v' M') := by
  have l := h.out.lt
  have A : Alt (fun k => v.ownBlock = some k) w w2 := Alt.of_grown hg (fun i hi => by rw [← hr]; exact hi)
  have hn : ∀ k, v.ownBlock = some k → w0.heap.size ≤ k := fun k hk => (own_lo h.out.row hk).1
  refine Lib.hid ⟨⟨A.os.trans h.out.alt.os, A.tape.trans h.out.alt.tape, A.output.trans h.out.alt.output, Nat.le_trans h.out.alt.size A.size, fun i hi hs => (A.block i (Nat.lt_of_lt_of_le hi h.out.alt.size) (fun z => by have := hn i z; omega)).trans (h.out.alt.block i hi hs)⟩, rf_alt h.out.rf A (fun z => by have := hn _ z; omega) (fun g hg1 z => by have := l.2 g hg1; have := hn g z; omega), ho, l⟩
/-- what is altered by a call on it -/
structure Rov (rb : Nat) (u' : Value) (w w' : World) : Prop where
  alt : Alt (fun k => k = rb) w w'
  new : ∀ g, u'.ownBlock = some g → w.heap.size ≤ g
theorem ra_end {w0 w : World} {rb : Nat} {u : Value} {S : List E} {last most : Int} {v : Value} {M : List E} (h : Hid (Ra w0 w rb u S last most v M)) (hl : M.length ≤ 1000) : Hid (Rf (w.setCell ⟨rb, 0, none⟩ v) rb v M last most) ∧ Rov rb v w0 (w.setCell ⟨rb, 0, none⟩ v) := by
  have A : Alt (fun k => k = rb) w (w.setCell ⟨rb, 0, none⟩ v) := Alt.set _ _ _ rfl
  have hn : ∀ k, v.ownBlock = some k → w0.heap.size ≤ k := fun k hk => (own_lo h.out.row hk).1
  exact ⟨Lib.hid ⟨h.out.rf.out.box.set 0 _, own_altv (own_base h.out.row (fun _ _ => Nat.zero_le _)) A (fun g hg z => by have := hn g hg; have := h.out.lt.1; omega), hl⟩, h.out.alt.trans A, hn⟩
theorem ins_all {x : E} {P : List E} (h : ∀ e, e ∈ P → e.1 ≤ x.1) : ins x P = P ++ [x] := by
  induction P with
  | nil => rfl
  | cons s P ih => rw [ins_cons, if_pos (h s (by simp)), ih (fun e he => h e (by simp [he]))]; rfl
theorem ins_hit {x s : E} {P : List E} (h : ∀ e, e ∈ P → e.1 ≤ x.1) (hs : ¬ s.1 ≤ x.1) : ins x (P ++ [s]) = P ++ [x] ++ [s] := by
  induction P with
  | nil => rw [List.nil_append, ins_cons, if_neg hs]; rfl
  | cons t P ih => rw [List.cons_append, ins_cons, if_pos (h t (by simp)), ih (fun e he => h e (by simp [he]))]; simp
theorem ins_more {x s : E} {P : List E} (h : ∃ e, e ∈ P ∧ ¬ e.1 ≤ x.1) : ins x (P ++ [s]) = ins x P ++ [s] := by
  induction P with
  | nil => obtain ⟨e, he, _⟩ := h; simp at he
  | cons t P ih =>
    rw [List.cons_append, ins_cons, ins_cons]
    by_cases c : t.1 ≤ x.1
    · rw [if_pos c, if_pos c, ih]
      · rfl
      · obtain ⟨e, he, h2⟩ := h
        rcases List.mem_cons.1 he with rfl | he
        · exact absurd c h2
        · exact ⟨e, he, h2⟩
    · rw [if_neg c, if_neg c]; simp
theorem take_snoc {S : List E} {k : Nat} (h : k < S.length) : S.take (k + 1) = S.take k ++ [at_ S k] := by
  rw [List.take_succ_eq_append_getElem h, at_lt h]
/-- an add under way -/
def Ai (S : List E) (x : E) (k : Nat) (dn : Bool) (M : List E) : Prop :=
  (dn = false ∧ M = S.take k ∧ ∀ e, e ∈ S.take k → e.1 ≤ x.1) ∨ (dn = true ∧ M = ins x (S.take k) ∧ ∃ e, e ∈ S.take k ∧ ¬ e.1 ≤ x.1)
theorem ai_len {S : List E} {x : E} {k : Nat} {dn : Bool} {M : List E} (h : Ai S x k dn M) (hk : k ≤ S.length) : M.length ≤ k + 1 := by
  have e : (S.take k).length = k := by simp; omega
  rcases h with ⟨_, h, _⟩ | ⟨_, h, _⟩
  · rw [h, e]; omega
  · rw [h, (ins_perm _ _).length_eq, List.length_append, e]; simp
theorem ai_end {S : List E} {x : E} {dn : Bool} {M : List E} (h : Ai S x S.length dn M) : ins x S = if dn = true then M else M ++ [x] := by
  unfold Ai at h
  rw [List.take_length] at h
  rcases h with ⟨h1, h2, h3⟩ | ⟨h1, h2, h3⟩
  · rw [h1, if_neg (by decide), h2]; exact ins_all h3
  · rw [h1, if_pos rfl, h2]
theorem ai_go {S : List E} {x : E} {k : Nat} {dn : Bool} {M : List E} (h : Ai S x k dn M) (hk : k < S.length) : ((dn = false ∧ x.1 < (at_ S k).1) ∧ Ai S x (k + 1) true (M ++ [x] ++ [at_ S k])) ∨ (¬ (dn = false ∧ x.1 < (at_ S k).1) ∧ Ai S x (k + 1) dn (M ++ [at_ S k])) := by
  unfold Ai at *
  rw [take_snoc hk]
  rcases h with ⟨h1, h2, h3⟩ | ⟨h1, h2, h3⟩
  · subst h2
    by_cases c : (at_ S k).1 ≤ x.1
    · refine .inr ⟨fun z => by omega, .inl ⟨h1, rfl, fun e he => ?_⟩⟩
      rcases List.mem_append.1 he with he | he
      · exact h3 e he
      · obtain rfl := List.mem_singleton.1 he; exact c
    · exact .inl ⟨⟨h1, by omega⟩, .inr ⟨rfl, (ins_hit h3 c).symm, at_ S k, by simp, c⟩⟩
  · refine .inr ⟨fun z => Bool.noConfusion (h1.symm.trans z.1), .inr ⟨h1, by rw [ins_more h3, h2], ?_⟩⟩
    obtain ⟨e, he, h4⟩ := h3
    exact ⟨e, by simp [he], h4⟩
end Go.Proofs.Ytlafeijkpnpdeaa.Agt

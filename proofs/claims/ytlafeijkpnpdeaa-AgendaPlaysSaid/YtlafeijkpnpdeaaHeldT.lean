/- A region that draws its order: a load may be taken first where its cell stays as it is until one operation that waits for it, through others or not, has come up. -/
import Derived.Test.YtlafeijkpnpdeaaHeld
namespace Go.Proofs.Ytlafeijkpnpdeaa.HeldT
open Go Held

section
variable {P : Program} {ops : Array Oper} {Q : Exit → Act → World → Prop} {md : Region.Mode} {A B : World → Prop} {b : Nat}

/-- number j waits for number i, through others or not -/
def reach (md : Region.Mode) (ops : Array Oper) : Nat → Nat → Nat → Bool
  | 0, _, _ => false
  | f + 1, j, i => match ops[j]? with
    | some o => o.after.any fun e => Region.binds md e && (e.on == i || reach md ops f e.on i)
    | none => false
/-- what is listed has all that it waits for listed -/
def Shut (md : Region.Mode) (ops : Array Oper) (listed : Array Bool) : Prop :=
  ∀ j o, ops[j]? = some o → listed.getD j false = true → ∀ e ∈ o.after, Region.binds md e = true → listed.getD e.on false = true
def shutB (md : Region.Mode) (ops : Array Oper) (listed : Array Bool) : Bool :=
  (List.range ops.size).all fun j => !listed.getD j false || ((ops[j]?).map (·.after.all fun e => !Region.binds md e || listed.getD e.on false)).getD true
theorem shut_of {listed : Array Bool} (h : shutB md ops listed = true) : Shut md ops listed := by
  intro j o ho hl e he hb
  have hlt : j < ops.size := (Array.getElem?_eq_some_iff.1 ho).1
  have h1 := List.all_eq_true.1 h j (List.mem_range.2 hlt)
  rw [ho, hl] at h1
  simp only [Bool.not_true, Bool.false_or, Option.map_some, Option.getD_some, Array.all_eq_true_iff_forall_mem] at h1
  have h2 := h1 e he
  rw [hb] at h2
  simpa using h2
theorem shut_set {listed : Array Bool} {i : Nat} (h : Shut md ops listed) (hi : i ∈ Region.ready md ops listed) : Shut md ops (listed.setIfInBounds i true) := by
  obtain ⟨_, oi, hoi, hall⟩ := mem_ready.1 hi
  intro j o ho hl e he hb
  by_cases hij : i = j
  · subst hij
    have : o = oi := Option.some.inj (ho.symm.trans hoi)
    subst this
    exact getD_set_true (hall e he hb)
  · rw [getD_set_ne false hij] at hl
    exact getD_set_true (h j o ho hl e he hb)
theorem reach_listed {listed : Array Bool} (hs : Shut md ops listed) {i : Nat} : ∀ (f j : Nat), reach md ops f j i = true → (∀ o, ops[j]? = some o → ∀ e ∈ o.after, Region.binds md e = true → listed.getD e.on false = true) → listed.getD i false = true
  | 0, _, h, _ => by cases h
  | f + 1, j, h, hj => by
    unfold reach at h
    split at h
    · rename_i o ho
      obtain ⟨e, he, hh⟩ := Array.any_eq_true'.1 h
      simp only [Bool.and_eq_true, Bool.or_eq_true, beq_iff_eq] at hh
      have h1 := hj o ho e he hh.1
      rcases hh.2 with h2 | h2
      · rw [← h2]; exact h1
      · exact reach_listed hs f e.on h2 (fun o' ho' e' he' hb' => hs e.on o' ho' h1 e' he' hb')
    · cases h

theorem wpTill_firstT {z : Bool} {i : Nat} {oi : Oper} {v : Value} (hi : ops[i]? = some oi) (hsel : ∀ (j : Nat) (o : Oper) cs b, ops[j]? = some o → o.op ≠ .select cs b)
    (hQ : ∀ c a w, Q (.panic c) (a.put oi.dst v) w → Q (.panic c) a w) (hib : i ≠ b) (f : Nat) (hwt : z = true → reach md ops f b i = true) :
    ∀ (n : Nat) (listed : Array Bool) (a : Act) (w : World),
      (∀ j oj, ops[j]? = some oj → j ≠ i → listed.getD j true = false → (∀ e ∈ oj.after, Region.binds md e = true → e.on ≠ i) → oi.apart ops oj = true) →
      i ∈ Region.ready md ops listed → (z = true → listed.getD b true = false) → Shut md ops listed → YieldsIf P ops (Lean1 A B z) oi v a → Till A B b listed w →
      wpTill P md ops Q A B b n (listed.setIfInBounds i true) (a.put oi.dst v) w → wpTill P md ops Q A B b (n + 1) listed a w := by
  intro n
  induction n with
  | zero =>
    intro listed a w _ hr hz _ hy hS H
    refine ⟨fun h => (by rw [h] at hr; cases hr), fun j hj => ?_⟩
    by_cases hji : j = i
    · subst hji
      exact hy.wpOp hi ⟨hS.1, fun e => hS.2 (hz e)⟩ ⟨⟨hS.1, fun e => hS.2 (by rwa [getD_set_ne true hib] at e)⟩, H⟩
    · have := ready_mono hj hji
      rw [H.1] at this
      cases this
  | succ n ih =>
    intro listed a w hfree hr hz hsh hy hS H
    refine ⟨fun h => (by rw [h] at hr; cases hr), fun j hj => ?_⟩
    by_cases hji : j = i
    · subst hji
      exact hy.wpOp hi ⟨hS.1, fun e => hS.2 (hz e)⟩ ⟨⟨hS.1, fun e => hS.2 (by rwa [getD_set_ne true hib] at e)⟩, H⟩
    · have h1 := H.2 j (ready_mono hj hji)
      obtain ⟨hjun, oj, hoj, hall⟩ := mem_ready.1 hj
      have hi0 := (mem_ready.1 hr).1
      have hnot : ∀ e ∈ oj.after, Region.binds md e = true → e.on ≠ i := fun e he hb heq => by
        have h1 := Held.getD_both (hall e he hb)
        rw [heq, hi0] at h1
        cases h1
      have h2 := wpOp_putIf hoj (hfree j oj hoj hji hjun hnot) (fun cs b => hsel i oi cs b hi) (fun cs b => hsel j oj cs b hoj) hQ hy h1
      have hfree' : ∀ k ok, ops[k]? = some ok → k ≠ i → (listed.setIfInBounds j true).getD k true = false →
          (∀ e ∈ ok.after, Region.binds md e = true → e.on ≠ i) → oi.apart ops ok = true := fun k ok hk hki hun hno => by
        refine hfree k ok hk hki ?_ hno
        by_cases hjk : j = k
        · subst hjk; exact hjun
        · rw [getD_set_ne true hjk] at hun; exact hun
      have hz' : z = true → (listed.setIfInBounds j true).getD b true = false := fun e => by
        have hjb : j ≠ b := fun e2 => by
          subst e2
          have := Held.getD_both (reach_listed hsh f j (hwt e) (fun o ho e' he' hb' => by
            have : o = oj := Option.some.inj (ho.symm.trans hoj)
            subst this
            exact hall e' he' hb'))
          rw [hi0] at this
          cases this
        rw [getD_set_ne true hjb]
        exact hz e
      have hT : ∀ w', Till A B b ((listed.setIfInBounds i true).setIfInBounds j true) w' → Till A B b (listed.setIfInBounds j true) w' := fun w' h => ⟨h.1, fun e => h.2 (by rw [Array.setIfInBounds_comm _ _ (Ne.symm hji), getD_set_ne true hib]; exact e)⟩
      refine wpOp_mono (fun a' w' h3 => ⟨hT _ h3.2.1, ih (listed.setIfInBounds j true) a' w' hfree' (ready_mono hr (Ne.symm hji)) hz' (shut_set hsh hj) h3.1 (hT _ h3.2.1) ?_⟩) h2
      rw [Array.setIfInBounds_comm _ _ hji]
      exact h3.2.2

/-- as wpTill_take; number b waits for the load through others or not -/
theorem wpTill_takeT (z : Bool) {i : Nat} {oi : Oper} {v : Value} {n : Nat} {listed : Array Bool} {a : Act} {w : World} (hi : ops[i]? = some oi)
    (hs : Region.noSelect ops = true) (hf : Region.free md ops listed i = true) (hr : (Region.ready md ops listed).contains i = true)
    (hQ : ∀ c a w, Q (.panic c) (a.put oi.dst v) w → Q (.panic c) a w) (hz : (i != b && (!z || (reach md ops ops.size b i && !listed.getD b true)) && shutB md ops listed) = true) (hy : YieldsIf P ops (Lean1 A B z) oi v a) (hS : Till A B b listed w)
    (h : Till A B b (listed.setIfInBounds i true) w → wpTill P md ops Q A B b n (listed.setIfInBounds i true) (a.put oi.dst v) w) : wpTill P md ops Q A B b (n + 1) listed a w := by
  simp only [Bool.and_eq_true, bne_iff_ne, ne_eq, Bool.or_eq_true, Bool.not_eq_true'] at hz
  obtain ⟨⟨hib, hz⟩, hsh⟩ := hz
  exact wpTill_firstT hi (Region.noSelect_spec hs) hQ hib ops.size (fun e => by rcases hz with h | h; rw [h] at e; cases e; exact h.1) n listed a w (Region.free_spec hi hf) (by simpa using hr)
    (fun e => by rcases hz with h | h; rw [h] at e; cases e; exact h.2) (shut_of hsh) hy hS (h ⟨hS.1, fun e => hS.2 (by rwa [getD_set_ne true hib] at e)⟩)
end
end Go.Proofs.Ytlafeijkpnpdeaa.HeldT

/- A region that draws its order: a load may be taken first where its cell stays as it is until one operation that waits for the load has come up. -/
import Derived.OrdersHeld
import Derived.Test.YtgkahcchekiogaaKit
namespace Go.Proofs.Ytgkahcchekiogaa.Held
open Go

section
variable {P : Program} {ops : Array Oper} {Q : Exit → Act → World → Prop} {md : Region.Mode} {A B : World → Prop} {b : Nat}

/-- what is held: A for good, B until number b has come up -/
def Till (A B : World → Prop) (b : Nat) (listed : Array Bool) (w : World) : Prop := A w ∧ (listed.getD b true = false → B w)
/-- whatever comes up, what is held is held behind it -/
def wpTill (P : Program) (md : Region.Mode) (ops : Array Oper) (Q : Exit → Act → World → Prop) (A B : World → Prop) (b : Nat) : Nat → Array Bool → Act → World → Prop
  | 0, listed, a, w => Region.ready md ops listed = [] ∧ Q .normal a w
  | n + 1, listed, a, w => (Region.ready md ops listed = [] → Q .normal a w) ∧
      ∀ i ∈ Region.ready md ops listed, wpOp P ops Q i (fun a' w' => Till A B b (listed.setIfInBounds i true) w' ∧ wpTill P md ops Q A B b n (listed.setIfInBounds i true) a' w') a w
theorem wpTill_any : ∀ (n : Nat) (listed : Array Bool) (a : Act) (w : World), wpTill P md ops Q A B b n listed a w → wpAny P md ops Q n listed a w
  | 0, _, _, _, h => h
  | n + 1, _, _, _, h => ⟨h.1, fun i hi => wpOp_mono (fun a' w' h' => wpTill_any n _ a' w' h'.2) (h.2 i hi)⟩

/-- number b waits for number i -/
def waits (md : Region.Mode) (ops : Array Oper) (b i : Nat) : Bool := match ops[b]? with
  | some o => o.after.any fun e => Region.binds md e && e.on == i
  | none => false
theorem waits_spec {i : Nat} {listed : Array Bool} (h : waits md ops b i = true) (hb : b ∈ Region.ready md ops listed) : listed.getD i false = true := by
  obtain ⟨_, o, ho, hall⟩ := mem_ready.1 hb
  unfold waits at h
  rw [ho] at h
  simp only [Array.any_eq_true] at h
  obtain ⟨e, he, hh⟩ := h
  simp only [Bool.and_eq_true, beq_iff_eq] at hh
  have := hall _ (Array.getElem_mem he) hh.1
  rw [hh.2] at this
  exact this
theorem getD_both {listed : Array Bool} {i : Nat} (h : listed.getD i false = true) : listed.getD i true = true := by
  rcases Nat.lt_or_ge i listed.size with h' | h'
  · simp [h'] at h ⊢; exact h
  · simp [Array.getElem?_eq_none h'] at h
/-- what a load may lean on -/
def Lean1 (A B : World → Prop) (z : Bool) (w : World) : Prop := A w ∧ (z = true → B w)

theorem wpTill_first {z : Bool} {i : Nat} {oi : Oper} {v : Value} (hi : ops[i]? = some oi) (hsel : ∀ (j : Nat) (o : Oper) cs b, ops[j]? = some o → o.op ≠ .select cs b)
    (hQ : ∀ c a w, Q (.panic c) (a.put oi.dst v) w → Q (.panic c) a w) (hib : i ≠ b) (hwt : z = true → waits md ops b i = true) :
    ∀ (n : Nat) (listed : Array Bool) (a : Act) (w : World),
      (∀ j oj, ops[j]? = some oj → j ≠ i → listed.getD j true = false → (∀ e ∈ oj.after, Region.binds md e = true → e.on ≠ i) → oi.apart ops oj = true) →
      i ∈ Region.ready md ops listed → (z = true → listed.getD b true = false) → YieldsIf P ops (Lean1 A B z) oi v a → Till A B b listed w →
      wpTill P md ops Q A B b n (listed.setIfInBounds i true) (a.put oi.dst v) w → wpTill P md ops Q A B b (n + 1) listed a w := by
  intro n
  induction n with
  | zero =>
    intro listed a w _ hr hz hy hS H
    refine ⟨fun h => (by rw [h] at hr; cases hr), fun j hj => ?_⟩
    by_cases hji : j = i
    · subst hji
      exact hy.wpOp hi ⟨hS.1, fun e => hS.2 (hz e)⟩ ⟨⟨hS.1, fun e => hS.2 (by rwa [getD_set_ne true hib] at e)⟩, H⟩
    · have := ready_mono hj hji
      rw [H.1] at this
      cases this
  | succ n ih =>
    intro listed a w hfree hr hz hy hS H
    refine ⟨fun h => (by rw [h] at hr; cases hr), fun j hj => ?_⟩
    by_cases hji : j = i
    · subst hji
      exact hy.wpOp hi ⟨hS.1, fun e => hS.2 (hz e)⟩ ⟨⟨hS.1, fun e => hS.2 (by rwa [getD_set_ne true hib] at e)⟩, H⟩
    · have h1 := H.2 j (ready_mono hj hji)
      obtain ⟨hjun, oj, hoj, hall⟩ := mem_ready.1 hj
      have hi0 := (mem_ready.1 hr).1
      have hnot : ∀ e ∈ oj.after, Region.binds md e = true → e.on ≠ i := fun e he hb heq => by
        have h1 := getD_both (hall e he hb)
        rw [heq, hi0] at h1
        cases h1
      have h2 := wpOp_putIf hoj (hfree j oj hoj hji hjun hnot) (fun cs b => hsel i oi cs b hi) (fun cs b => hsel j oj cs b hoj) hQ hy h1
      have hfree' : ∀ k ok, ops[k]? = some ok → k ≠ i → (listed.setIfInBounds j true).getD k true = false →
          (∀ e ∈ ok.after, Region.binds md e = true → e.on ≠ i) → oi.apart ops ok = true := fun k ok hk hki hun hno => by
        refine hfree k ok hk hki ?_ hno
        by_cases hjk : j = k
        · subst hjk; exact hjun
        · rw [getD_set_ne true hjk] at hun; exact hun
      have hz' : z = true → (listed.setIfInBounds j true).getD b true = false := fun e => by
        have hjb : j ≠ b := fun e2 => by
          subst e2
          have := getD_both (waits_spec (hwt e) hj)
          rw [hi0] at this
          cases this
        rw [getD_set_ne true hjb]
        exact hz e
      have hT : ∀ w', Till A B b ((listed.setIfInBounds i true).setIfInBounds j true) w' → Till A B b (listed.setIfInBounds j true) w' := fun w' h => ⟨h.1, fun e => h.2 (by rw [Array.setIfInBounds_comm _ _ (Ne.symm hji), getD_set_ne true hib]; exact e)⟩
      refine wpOp_mono (fun a' w' h3 => ⟨hT _ h3.2.1, ih (listed.setIfInBounds j true) a' w' hfree' (ready_mono hr (Ne.symm hji)) hz' h3.1 (hT _ h3.2.1) ?_⟩) h2
      rw [Array.setIfInBounds_comm _ _ hji]
      exact h3.2.2

/-- the moves -/
theorem wpTill_take (z : Bool) {i : Nat} {oi : Oper} {v : Value} {n : Nat} {listed : Array Bool} {a : Act} {w : World} (hi : ops[i]? = some oi)
    (hs : Region.noSelect ops = true) (hf : Region.free md ops listed i = true) (hr : (Region.ready md ops listed).contains i = true)
    (hQ : ∀ c a w, Q (.panic c) (a.put oi.dst v) w → Q (.panic c) a w) (hz : (i != b && (!z || (waits md ops b i && !listed.getD b true))) = true) (hy : YieldsIf P ops (Lean1 A B z) oi v a) (hS : Till A B b listed w)
    (h : Till A B b (listed.setIfInBounds i true) w → wpTill P md ops Q A B b n (listed.setIfInBounds i true) (a.put oi.dst v) w) : wpTill P md ops Q A B b (n + 1) listed a w := by
  simp only [Bool.and_eq_true, bne_iff_ne, ne_eq, Bool.or_eq_true, Bool.not_eq_true'] at hz
  have hib := hz.1
  exact wpTill_first hi (Region.noSelect_spec hs) hQ hib (fun e => by rcases hz.2 with h | h; rw [h] at e; cases e; exact h.1) n listed a w (Region.free_spec hi hf) (by simpa using hr)
    (fun e => by rcases hz.2 with h | h; rw [h] at e; cases e; exact h.2) hy hS (h ⟨hS.1, fun e => hS.2 (by rwa [getD_set_ne true hib] at e)⟩)
theorem wpTill_one {i : Nat} {o : Oper} {n : Nat} {listed : Array Bool} {a : Act} {w : World} (hr : Region.ready md ops listed = [i]) (ho : ops[i]? = some o)
    (h : ∀ K : Act → World → Prop, (∀ a' w', Till A B b (listed.setIfInBounds i true) w' → (Till A B b (listed.setIfInBounds i true) w' → wpTill P md ops Q A B b n (listed.setIfInBounds i true) a' w') → K a' w') → if Region.wanted o (yielded ops a.tmps) = true then Oper.wp P o a w K Q else K (a.put o.dst undef) w) : wpTill P md ops Q A B b (n + 1) listed a w :=
  ⟨fun h0 => (by rw [hr] at h0; cases h0), fun j hj => by
    rw [hr] at hj
    obtain rfl : j = i := by simpa using hj
    exact wpOp_step ho fun K hK => h K fun a' w' hT hh => hK a' w' ⟨hT, hh hT⟩⟩
theorem wpTill_done {listed : Array Bool} {a : Act} {w : World} (hr : Region.ready md ops listed = []) (h : Q .normal a w) : ∀ n, wpTill P md ops Q A B b n listed a w
  | 0 => ⟨hr, h⟩
  | _ + 1 => ⟨fun _ => h, by rw [hr]; simp⟩
theorem wp_region_till (A B : World → Prop) (b : Nat) (n : Nat) (listed : Array Bool) {id : Nat} {a : Act} {w : World} (hm : P.follows .mixedOrders = true) (hn : ops.size = n) (hl : Array.replicate n false = listed) (hS : A w.drew ∧ B w.drew)
    (h : Till A B b listed w.drew → wpTill P .any ops Q A B b n listed a w.drew) : (Code.region id ops true).wp P Q a w := by
  subst hn hl
  exact wp_region_any hm (wpTill_any _ _ _ _ (h ⟨hS.1, fun _ => hS.2⟩))
end
end Go.Proofs.Ytgkahcchekiogaa.Held

import Derived.OrdersIn
import Derived.Test.YtlafeijkpnpdeaaGreatMg9

/- A region that draws its order, inside a fence: a load may be taken first where its cell stays as it is until one operation that waits for it has come up. -/
namespace Go.Proofs.YtlafeijkpnpdeaaGreat.HeldI
open Go Held HeldT

section
variable {F : Fence} {m : Nat} {P : Program} {ops : Array Oper} {Q : Exit → Act → World → Prop} {md : Region.Mode} {A B S : World → Prop} {b : Nat}

/-- in every world that meets S the operation yields v, and it is about to make no call -/
def YieldsCalm (P : Program) (ops : Array Oper) (S : World → Prop) (o : Oper) (v : Value) (a : Act) : Prop := YieldsIf P ops S o v a ∧ ∀ w, o.about P w a.eval = none
theorem YieldsCalm.wpOpIn {i : Nat} {o : Oper} {v : Value} {a : Act} (hro : F.round = none) (hi : ops[i]? = some o) (hy : YieldsCalm P ops S o v a)
    {K : Act → World → Prop} {w : World} (hS : S w) (h : K (a.put o.dst v) w) : wpOpIn F m P ops Q i K a w := by
  unfold Go.wpOpIn
  simp only [hi]
  have hab : ∀ f, o.about P w a.eval = some f → F.fn f := fun f hf => by rw [hy.2 w] at hf; cases hf
  rcases hy.1 with ⟨hw, hv⟩ | ⟨hw, rfl⟩
  · simp only [hw, if_true, Oper.wpIn, hro, Oper.semAt_none, hv w hS, Oper.uponIn]; exact ⟨hab, h⟩
  · simp only [hw, Bool.false_eq_true, if_false]; exact ⟨hab, h⟩
theorem YieldsCalm.of_same {o : Oper} {v : Value} {a a' : Act} (hy : YieldsCalm P ops S o v a) (he : execOp a'.eval o = execOp a.eval o)
    (hw : Region.wanted o (yielded ops a'.tmps) = Region.wanted o (yielded ops a.tmps)) (hb : ∀ w, o.about P w a'.eval = o.about P w a.eval) : YieldsCalm P ops S o v a' :=
  ⟨hy.1.of_same he hw, fun w => by rw [hb w]; exact hy.2 w⟩
theorem wpOpIn_putIf {j : Nat} {oi oj : Oper} {v : Value} (hro : F.round = none) (hj : ops[j]? = some oj) (hap : oi.apart ops oj = true)
    (hsi : ∀ cs b, oi.op ≠ .select cs b) (hsj : ∀ cs b, oj.op ≠ .select cs b)
    (hQ : ∀ c a w, Q (.panic c) (a.put oi.dst v) w → Q (.panic c) a w) {K : Act → World → Prop} {a : Act} {w : World}
    (hy : YieldsCalm P ops S oi v a) (h : wpOpIn F m P ops Q j K (a.put oi.dst v) w) :
    wpOpIn F m P ops Q j (fun a' w' => YieldsCalm P ops S oi v a' ∧ K (a'.put oi.dst v) w') a w := by
  obtain ⟨h1, h2, h3⟩ := Oper.apart_spec hap
  have keep : ∀ (a : Act), YieldsCalm P ops S oi v a → ∀ u, YieldsCalm P ops S oi v (a.put oj.dst u) := fun a hy u =>
    hy.of_same (execOp_put oi hsi a oj.dst u h3) (wanted_put oi a oj.dst u h3) (fun w => about_put oi w a oj.dst u h3)
  have keepD : ∀ d, YieldsCalm P ops S oi v { a with defers := d :: a.defers } := fun d => hy.of_same rfl rfl (fun _ => rfl)
  unfold wpOpIn at *
  simp only [hj] at *
  rw [wanted_put oj a oi.dst v h1, about_put oj w a oi.dst v h1] at h
  split
  · rename_i hw
    simp only [hw, if_true] at h
    unfold Oper.wpIn at *
    rw [about_put oj w a oi.dst v h1] at h
    refine ⟨h.1, ?_⟩
    have h := h.2
    rw [hro, Oper.semAt_none, execOp_put oj hsj a oi.dst v h1] at h
    rw [hro, Oper.semAt_none]
    generalize (execOp a.eval oj).run P w = r at *
    cases r with
    | ok x w' =>
      cases x <;> simp only [Oper.uponIn] at h ⊢
      case value u => exact ⟨keep a hy u, by rw [← Act.put_comm a v u h2]; exact h⟩
      case skip => exact ⟨keep a hy _, by rw [← Act.put_comm a v undef h2]; exact h⟩
      case defer d =>
        refine ⟨keep _ (keepD d) _, ?_⟩
        rw [← Act.put_comm _ v undef h2, ← Act.put_defers]
        exact h
      case enter f args =>
        refine ⟨h.1, CallsIn.mono h.2 fun e w'' he => ?_⟩
        cases e with
        | returned u => exact ⟨keep a hy u, by rw [← Act.put_comm a v u h2]; exact he⟩
        | panicked c => exact hQ _ _ _ he
        | outgrown => exact he
      case row row args => exact ⟨h.1, RowsIn.mono h.2 fun u w'' he => ⟨keep a hy u, by rw [← Act.put_comm a v u h2]; exact he⟩⟩
      case round l f tmps assign body =>
        refine ⟨h.1, RoundIn.mono h.2 fun e w'' he => ?_⟩
        cases e with
        | returned u => exact ⟨keep a hy u, by rw [← Act.put_comm a v u h2]; exact he⟩
        | panicked c => exact hQ _ _ _ he
        | outgrown => exact he
    | halt x w' =>
      cases x <;> simp only [Oper.uponIn] at h ⊢
      case panic u => exact hQ _ _ _ h
  · rename_i hw
    simp only [hw] at h
    exact ⟨h.1, keep a hy _, by rw [← Act.put_comm a v undef h2]; exact h.2⟩

def wpTillIn (F : Fence) (m : Nat) (P : Program) (md : Region.Mode) (ops : Array Oper) (Q : Exit → Act → World → Prop) (A B : World → Prop) (b : Nat) : Nat → Array Bool → Act → World → Prop
  | 0, listed, a, w => Region.ready md ops listed = [] ∧ Q .normal a w
  | n + 1, listed, a, w => (Region.ready md ops listed = [] → Q .normal a w) ∧
      ∀ i ∈ Region.ready md ops listed, wpOpIn F m P ops Q i (fun a' w' => Till A B b (listed.setIfInBounds i true) w' ∧ wpTillIn F m P md ops Q A B b n (listed.setIfInBounds i true) a' w') a w
theorem wpTillIn_any : ∀ (n : Nat) (listed : Array Bool) (a : Act) (w : World), wpTillIn F m P md ops Q A B b n listed a w → wpAnyIn F m P md ops Q n listed a w
  | 0, _, _, _, h => h
  | n + 1, _, _, _, h => ⟨h.1, fun i hi => wpOpIn_mono (fun a' w' h' => wpTillIn_any n _ a' w' h'.2) (h.2 i hi)⟩

theorem wpTillIn_first (hro : F.round = none) {z : Bool} {i : Nat} {oi : Oper} {v : Value} (hi : ops[i]? = some oi) (hsel : ∀ (j : Nat) (o : Oper) cs b, ops[j]? = some o → o.op ≠ .select cs b)
    (hQ : ∀ c a w, Q (.panic c) (a.put oi.dst v) w → Q (.panic c) a w) (hib : i ≠ b) (f : Nat) (hwt : z = true → reach md ops f b i = true) :
    ∀ (n : Nat) (listed : Array Bool) (a : Act) (w : World),
      (∀ j oj, ops[j]? = some oj → j ≠ i → listed.getD j true = false → (∀ e ∈ oj.after, Region.binds md e = true → e.on ≠ i) → oi.apart ops oj = true) →
      i ∈ Region.ready md ops listed → (z = true → listed.getD b true = false) → HeldT.Shut md ops listed → YieldsCalm P ops (Lean1 A B z) oi v a → Till A B b listed w →
      wpTillIn F m P md ops Q A B b n (listed.setIfInBounds i true) (a.put oi.dst v) w → wpTillIn F m P md ops Q A B b (n + 1) listed a w := by
  intro n
  induction n with
  | zero =>
    intro listed a w _ hr hz _ hy hS H
    refine ⟨fun h => (by rw [h] at hr; cases hr), fun j hj => ?_⟩
    by_cases hji : j = i
    · subst hji
      exact hy.wpOpIn hro hi ⟨hS.1, fun e => hS.2 (hz e)⟩ ⟨⟨hS.1, fun e => hS.2 (by rwa [getD_set_ne true hib] at e)⟩, H⟩
    · have := ready_mono hj hji
      rw [H.1] at this
      cases this
  | succ n ih =>
    intro listed a w hfree hr hz hsh hy hS H
    refine ⟨fun h => (by rw [h] at hr; cases hr), fun j hj => ?_⟩
    by_cases hji : j = i
    · subst hji
      exact hy.wpOpIn hro hi ⟨hS.1, fun e => hS.2 (hz e)⟩ ⟨⟨hS.1, fun e => hS.2 (by rwa [getD_set_ne true hib] at e)⟩, H⟩
    · have h1 := H.2 j (ready_mono hj hji)
      obtain ⟨hjun, oj, hoj, hall⟩ := mem_ready.1 hj
      have hi0 := (mem_ready.1 hr).1
      have hnot : ∀ e ∈ oj.after, Region.binds md e = true → e.on ≠ i := fun e he hb heq => by
        have h1 := Held.getD_both (hall e he hb)
        rw [heq, hi0] at h1
        cases h1
      have h2 := wpOpIn_putIf hro hoj (hfree j oj hoj hji hjun hnot) (fun cs b => hsel i oi cs b hi) (fun cs b => hsel j oj cs b hoj) hQ hy h1
      have hfree' : ∀ k ok, ops[k]? = some ok → k ≠ i → (listed.setIfInBounds j true).getD k true = false →
          (∀ e ∈ ok.after, Region.binds md e = true → e.on ≠ i) → oi.apart ops ok = true := fun k ok hk hki hun hno => by
        refine hfree k ok hk hki ?_ hno
        by_cases hjk : j = k
        · subst hjk; exact hjun
        · rw [getD_set_ne true hjk] at hun; exact hun
      have hz' : z = true → (listed.setIfInBounds j true).getD b true = false := fun e => by
        have hjb : j ≠ b := fun e2 => by
          subst e2
          have := Held.getD_both (reach_listed hsh f j (hwt e) (fun o ho e' he' hb' => by
            have : o = oj := Option.some.inj (ho.symm.trans hoj)
            subst this
            exact hall e' he' hb'))
          rw [hi0] at this
          cases this
        rw [getD_set_ne true hjb]
        exact hz e
      have hT : ∀ w', Till A B b ((listed.setIfInBounds i true).setIfInBounds j true) w' → Till A B b (listed.setIfInBounds j true) w' := fun w' h => ⟨h.1, fun e => h.2 (by rw [Array.setIfInBounds_comm _ _ (Ne.symm hji), getD_set_ne true hib]; exact e)⟩
      refine wpOpIn_mono (fun a' w' h3 => ⟨hT _ h3.2.1, ih (listed.setIfInBounds j true) a' w' hfree' (ready_mono hr (Ne.symm hji)) hz' (shut_set hsh hj) h3.1 (hT _ h3.2.1) ?_⟩) h2
      rw [Array.setIfInBounds_comm _ _ hji]
      exact h3.2.2
theorem wpTillIn_take (z : Bool) {i : Nat} {oi : Oper} {v : Value} {n : Nat} {listed : Array Bool} {a : Act} {w : World} (hro : F.round = none) (hi : ops[i]? = some oi)
    (hs : Region.noSelect ops = true) (hf : Region.free md ops listed i = true) (hr : (Region.ready md ops listed).contains i = true)
    (hQ : ∀ c a w, Q (.panic c) (a.put oi.dst v) w → Q (.panic c) a w) (hz : (i != b && (!z || (reach md ops ops.size b i && !listed.getD b true)) && shutB md ops listed) = true) (hy : YieldsIf P ops (Lean1 A B z) oi v a) (hab : ∀ w, oi.about P w a.eval = none) (hS : Till A B b listed w)
    (h : Till A B b (listed.setIfInBounds i true) w → wpTillIn F m P md ops Q A B b n (listed.setIfInBounds i true) (a.put oi.dst v) w) : wpTillIn F m P md ops Q A B b (n + 1) listed a w := by
  simp only [Bool.and_eq_true, bne_iff_ne, ne_eq, Bool.or_eq_true, Bool.not_eq_true'] at hz
  obtain ⟨⟨hib, hz⟩, hsh⟩ := hz
  exact wpTillIn_first hro hi (Region.noSelect_spec hs) hQ hib ops.size (fun e => by rcases hz with h | h; rw [h] at e; cases e; exact h.1) n listed a w (Region.free_spec hi hf) (by simpa using hr)
    (fun e => by rcases hz with h | h; rw [h] at e; cases e; exact h.2) (shut_of hsh) ⟨hy, hab⟩ hS (h ⟨hS.1, fun e => hS.2 (by rwa [getD_set_ne true hib] at e)⟩)
theorem wpTillIn_one {i : Nat} {o : Oper} {n : Nat} {listed : Array Bool} {a : Act} {w : World} (hr : Region.ready md ops listed = [i]) (ho : ops[i]? = some o)
    (h : ∀ K : Act → World → Prop, (∀ a' w', Till A B b (listed.setIfInBounds i true) w' → (Till A B b (listed.setIfInBounds i true) w' → wpTillIn F m P md ops Q A B b n (listed.setIfInBounds i true) a' w') → K a' w') → if Region.wanted o (yielded ops a.tmps) = true then Oper.wpIn F m P o a w K Q else (∀ f, o.about P w a.eval = some f → F.fn f) ∧ K (a.put o.dst undef) w) : wpTillIn F m P md ops Q A B b (n + 1) listed a w :=
  ⟨fun h0 => (by rw [hr] at h0; cases h0), fun j hj => by
    rw [hr] at hj
    obtain rfl : j = i := by simpa using hj
    exact wpOpIn_step ho fun K hK => h K fun a' w' hT hh => hK a' w' ⟨hT, hh hT⟩⟩
theorem wpTillIn_done {listed : Array Bool} {a : Act} {w : World} (hr : Region.ready md ops listed = []) (h : Q .normal a w) : ∀ n, wpTillIn F m P md ops Q A B b n listed a w
  | 0 => ⟨hr, h⟩
  | _ + 1 => ⟨fun _ => h, by rw [hr]; simp⟩
theorem wpIn_region_till (A B : World → Prop) (b : Nat) (n : Nat) (listed : Array Bool) {id : Nat} {a : Act} {w : World} (hm : P.follows .mixedOrders = true) (hn : ops.size = n) (hl : Array.replicate n false = listed) (hS : A w.drew ∧ B w.drew)
    (h : Till A B b listed w.drew → wpTillIn F m P .any ops Q A B b n listed a w.drew) : (Code.region id ops true).wpIn F m P Q a w := by
  subst hn hl
  exact wpIn_region_any hm (wpTillIn_any _ _ _ _ (h ⟨hS.1, fun _ => hS.2⟩))
end
end Go.Proofs.YtlafeijkpnpdeaaGreat.HeldI

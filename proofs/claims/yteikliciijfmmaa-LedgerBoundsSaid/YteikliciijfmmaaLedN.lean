/- Package ledger: a ledger under way in New. -/
import Derived.Test.YteikliciijfmmaaLedD
import Derived.Test.YteikliciijfmmaaFitR
namespace Go.Proofs.Yteikliciijfmmaa.LedN
open Go.RowKit Base Kit WideA WideB Plain FitA FitB FitC Conf Conf2 Alt RefA LedA LedB LedC LedD Short FitR
set_option linter.unusedVariables false
set_option linter.unusedSimpArgs false

theorem infoPtr : (Try.prog.info? 119).map (fun i => (i.zero, i.size, i.bytes)) = some (some (.pointer none), 1, 8) := by kernel_rfl
def qm (c : ConfC) : Int := if 1 < c.w.qu then c.w.qu else 1
theorem own_ne' {w : World} {base : Nat} {e T : TypeId} {size n b : Nat} {v : Value} {xs : List Value} {vs : Array Value} (h : w.ownsRow base e size v n xs) (k : Box w b vs T) (hne : e ≠ T) : v.ownBlock ≠ some b := by
  rcases h.2 with ⟨h', _⟩ | ⟨g', cap', cur, hv, hg, hh, r⟩
  · rw [h']; simp [Value.ownBlock]
  · rw [hv]
    intro e1
    have e1 : g' = b := by simpa [Value.ownBlock] using e1
    subst e1
    unfold Box at k
    rw [hh] at k
    simp at k
    exact hne k.2
/-- a configuration's block, and its ledger's, under way -/
structure Nw (w0 w : World) (c : ConfC) (k : Nat) (v : Value) (a : Nat → Nat) : Prop where
  box : Box w w0.heap.size #[.slice c.pa c.pn c.pc, .slice c.ca c.cn c.cc, .slice c.ma c.mn c.mc, .slice c.w.la c.w.ln c.w.lc, .slice c.w.na c.w.nn c.w.nc, .int .i64 c.w.sw, .int .i64 c.w.id, .int .i64 c.w.ch, .int .i64 c.w.qu, .int .i64 c.w.sl, .int .i64 c.w.pp, .slice c.da c.dn c.dc, .slice c.ua c.un c.uc] 45
  ls : Hid (Ls w0 w c.w (qm c) (fun i => (c.p i).bud) k (w0.heap.size + 1) v a (fun _ => 0))
def updn (a : Nat → Nat) (k x : Nat) : Nat → Nat := fun i => if i = k then x else a i
theorem nw_app {w0 W1 w2 : World} {c : ConfC} {k : Nat} {v : Value} {a : Nat → Nat} {g cap : Nat} {o2 : Obj} (S1 : Hid (Nw w0 W1 c k v a)) (hk : k < c.pn) (hpn : c.pn ≤ 100) (bI : I64 (c.p k).bud)
    (hown : w2.ownsRow 0 119 1 (.slice (some ⟨g, 0, none⟩) (k + 1) cap) (k + 1) (prow a k ++ [.pointer (some ⟨W1.heap.size, 0, none⟩)]))
    (hgrow : ((W1.drew.alloc (.cells #[.int .i64 (c.p k).bud, .int .i64 (qm c), .slice c.w.la c.w.ln c.w.lc, .slice c.w.na c.w.nn c.w.nc, .int .i64 c.w.sw, .int .i64 c.w.id, .int .i64 c.w.ch, .int .i64 c.w.qu, .int .i64 c.w.sl, .int .i64 c.w.pp, .int .i64 0] 123)).alloc o2).grownBy w2 v.ownBlock) (hat : v.ownBlock = some g ∨ W1.heap.size + 2 ≤ g) :
    Hid (Nw w0 (w2.setCell ⟨w0.heap.size + 1, 0, none⟩ (.slice (some ⟨g, 0, none⟩) (k + 1) cap)) c (k + 1) (.slice (some ⟨g, 0, none⟩) (k + 1) cap) (updn a k W1.heap.size)) := by
  have L := S1.out.ls.out
  have B := L.lm.out.box
  have sz := L.bel.size
  have NE : ∀ {b : Nat} {vs : Array Value} {T : TypeId}, Box W1 b vs T → 119 ≠ T → some b ≠ v.ownBlock := fun h hne e => own_ne' L.lm.out.own h hne e.symm
  have GB : ∀ {b : Nat} {vs : Array Value} {T : TypeId}, Box W1 b vs T → 119 ≠ T → Box w2 b vs T := fun h hne => ((Box.alloc (show Box W1.drew _ _ _ from h) _).alloc _).grown hgrow (NE h hne)
  have B2 := GB B (by decide)
  have N2 : Box w2 W1.heap.size #[.int .i64 (c.p k).bud, .int .i64 (qm c), .slice c.w.la c.w.ln c.w.lc, .slice c.w.na c.w.nn c.w.nc, .int .i64 c.w.sw, .int .i64 c.w.id, .int .i64 c.w.ch, .int .i64 c.w.qu, .int .i64 c.w.sl, .int .i64 c.w.pp, .int .i64 0] 123 := ((Box.new W1.drew _ _).alloc _).grown hgrow (fun e => by
    have := (World.ownsRow.lt L.lm.out.own W1.heap.size e.symm).2
    omega)
  have hA : Alt (fun i => i = w0.heap.size + 1) w2 (w2.setCell ⟨w0.heap.size + 1, 0, none⟩ (.slice (some ⟨g, 0, none⟩) (k + 1) cap)) := Alt.set _ _ _ rfl
  have bel2 : Below w0.heap.size w0 w2 := (((L.bel.drew).alloc (by simpa using sz) _).alloc (by simp; omega) _).grown hgrow (by simp; omega) (fun g hg => L.hv g hg)
  refine Lib.hid ⟨(GB S1.out.box (by decide)).setOther _ _ (by simp), Lib.hid ⟨hA.below bel2 bel2.size (fun i hi => by omega), L.hl, fun i hi => ?_, fun g' hg' => ?_, Lib.hid ⟨?_, ?_, fun i hi => ?_, fun i j hi hj => ?_⟩, L.lev, fun i hi => by omega, by omega, fun i hi => ?_, L.qI⟩⟩
  · unfold updn; split
    · exact sz
    · exact L.ha i (by omega)
  · have : g = g' := by simpa [Value.ownBlock] using hg'
    subst this
    rcases hat with h | h
    · exact L.hv g h
    · omega
  · exact B2.set 0 _
  · rw [prow_succ, prow_congr (b := a) (fun i hi => by unfold updn; rw [if_neg (by omega)])]
    have : updn a k W1.heap.size k = W1.heap.size := by unfold updn; rw [if_pos rfl]
    rw [this]
    exact own_alt hown hA (own_ne hown B2 (by decide))
  · unfold updn
    by_cases e : i = k
    · subst e
      rw [if_pos rfl]
      exact N2.setOther _ _ (box_ne N2 B2 (by decide))
    · rw [if_neg e]
      have h := L.lm.out.acc i (by omega)
      exact (GB h (by decide)).setOther _ _ (box_ne h B (by decide))
  · have lt := fun i (h : i < k) => (L.lm.out.acc i h).lt
    have inj := L.lm.out.inj
    unfold updn
    intro e
    by_cases e1 : i = k <;> by_cases e2 : j = k
    · omega
    · rw [if_pos e1, if_neg e2] at e; have := lt j (by omega); omega
    · rw [if_neg e1, if_pos e2] at e; have := lt i (by omega); omega
    · rw [if_neg e1, if_neg e2] at e; exact inj i j (by omega) (by omega) e
  · by_cases e : i = k
    · subst e; exact bI
    · exact L.budI i (by omega)
end Go.Proofs.Yteikliciijfmmaa.LedN

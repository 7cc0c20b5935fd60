/- The law of meter: Plays. -/
import Derived.Test.YteikliciijfmmaaMetQ
namespace Go.Proofs.Yteikliciijfmmaa.MetP
open Go.RowKit Base Kit RefA Alt WideA WideB Plain MetA MetB MetC MetL MetR MetQ
set_option linter.unusedVariables false
set_option linter.unusedSimpArgs false

/-- both meters -/
structure Du (w0 w : World) (m g r q n cap : Nat) (s s' : MS) : Prop where
  bel : Below w0.heap.size w0 w
  hm : w0.heap.size ≤ m
  hg : w0.heap.size ≤ g
  hr : w0.heap.size ≤ r
  hq : w0.heap.size ≤ q
  gq : g ≠ q
  met : Hid (Mtr w m g n n s)
  ref : Hid (RMt w r q n cap s')
  ok : MOk n s
  ok' : MOk n s'
theorem du_next {w0 w w1 : World} {m g r q n cap : Nat} {s s' : MS} (h : Hid (Du w0 w m g r q n cap s s')) (k : Below w.heap.size w w1) : Hid (Du w0 w1 m g r q n cap s s') :=
  Lib.hid ⟨below_next h.out.bel k, h.out.hm, h.out.hg, h.out.hr, h.out.hq, h.out.gq, Lib.hid (h.out.met.out.below k), Lib.hid (h.out.ref.out.below k), h.out.ok, h.out.ok'⟩
theorem du_drew {w0 w : World} {m g r q n cap : Nat} {s s' : MS} (h : Hid (Du w0 w m g r q n cap s s')) : Hid (Du w0 w.drew m g r q n cap s s') := du_next h ((Below.refl _ _).drew)
theorem du_take {w0 w : World} {m g r q n cap : Nat} {s s' : MS} (h : Hid (Du w0 w m g r q n cap s s')) (k p pw ns : Int) (i1 : I64 pw) (i2 : I64 ns) {x : Int} {s2 : MS} (hr : Hid (tk n s k p pw ns = (x, s2))) :
    Calls Try.prog 35 #[.pointer (some ⟨m, 0, none⟩), .int .i64 k, .int .i64 p, .int .i64 pw, .int .i64 ns] w fun e w' => e = .returned (.int .i64 x) ∧ Hid (Du w0 w' m g r q n cap s2 s') ∧ Alt (fun i => i = m ∨ i = g) w w' := by
  have hok := tk_ok n s k p pw ns h.out.ok
  have := take_any w m g n n s k p pw ns h.out.met h.out.ok i1 i2
  rw [hr.out] at this hok
  have e1 : r ≠ m := (box_ne h.out.met.out.box h.out.ref.out.box (by decide)).symm
  have e2 : r ≠ g := fun e => by have := own_ne h.out.met.out.own h.out.ref.out.box (by decide); omega
  have e3 : q ≠ m := fun e => by have := own_ne h.out.ref.out.own h.out.met.out.box (by decide); omega
  exact this.mono fun e w' hh => ⟨hh.1, Lib.hid ⟨hh.2.1.below h.out.bel h.out.bel.size (fun i hi => by have := h.out.hm; have := h.out.hg; rcases hi with rfl | rfl <;> omega), h.out.hm, h.out.hg, h.out.hr, h.out.hq, h.out.gq, hh.2.2,
    Lib.hid (h.out.ref.out.alt hh.2.1 (fun e => by rcases e with e | e <;> omega) (fun e => by rcases e with e | e; omega; exact h.out.gq e.symm)), hok, h.out.ok'⟩, hh.2.1⟩
theorem du_rtake {w0 w : World} {m g r q n cap : Nat} {s s' : MS} (h : Hid (Du w0 w m g r q n cap s s')) (k p pw ns : Int) (i1 : I64 pw) (i2 : I64 ns) {x : Int} {s2 : MS} (hr : Hid (tk n s' k p pw ns = (x, s2))) :
    Calls Try.prog 36 #[.pointer (some ⟨r, 0, none⟩), .int .i64 k, .int .i64 p, .int .i64 pw, .int .i64 ns] w fun e w' => e = .returned (.int .i64 x) ∧ ∃ q' cap', Hid (Du w0 w' m g r q' n cap' s s2) ∧ Alt (fun i => i = r) w w' := by
  have hok := tk_ok n s' k p pw ns h.out.ok'
  have := rtake_any w r q n cap s' k p pw ns h.out.ref h.out.ok' i1 i2
  rw [hr.out] at this hok
  have e1 : m ≠ r := box_ne h.out.met.out.box h.out.ref.out.box (by decide)
  have e2 : g ≠ r := own_ne h.out.met.out.own h.out.ref.out.box (by decide)
  have hgl := (h.out.met.out.own.lt g rfl).2
  have hwl := h.out.bel.size
  refine this.mono ?_
  rintro e w' ⟨q', cap', rfl, ha, hq, hR⟩
  refine ⟨rfl, q', cap', Lib.hid ⟨ha.below h.out.bel h.out.bel.size (fun i hi => by have := h.out.hr; omega), h.out.hm, h.out.hg, h.out.hr, ?_, ?_, Lib.hid (h.out.met.out.alt ha e1 e2), hR, h.out.ok, hok⟩, ha⟩
  · rcases hq with rfl | hq
    · exact h.out.hq
    · omega
  · rcases hq with rfl | hq
    · exact h.out.gq
    · omega
/-- the same, beside a block of an act -/
theorem du_take2 {w0 w : World} {m g r q n cap b : Nat} {s s' : MS} {vs : Array Value} (h : Hid (Du w0 w m g r q n cap s s' ∧ Box w b vs 66)) (k p pw ns : Int) (i1 : I64 pw) (i2 : I64 ns) {x : Int} {s2 : MS} (hr : Hid (tk n s k p pw ns = (x, s2))) :
    Calls Try.prog 35 #[.pointer (some ⟨m, 0, none⟩), .int .i64 k, .int .i64 p, .int .i64 pw, .int .i64 ns] w fun e w' => e = .returned (.int .i64 x) ∧ Hid (Du w0 w' m g r q n cap s2 s' ∧ Box w' b vs 66) := by
  have e1 := box_ne h.out.2 h.out.1.met.out.box (by decide)
  have e2 := own_ne h.out.1.met.out.own h.out.2 (by decide)
  exact (du_take (Lib.hid h.out.1) k p pw ns i1 i2 hr).mono fun e w' hh => ⟨hh.1, Lib.hid ⟨hh.2.1.out, box_alt h.out.2 hh.2.2 (fun e => by rcases e with e | e <;> omega)⟩⟩
theorem du_rtake2 {w0 w : World} {m g r q n cap b : Nat} {s s' : MS} {vs : Array Value} (h : Hid (Du w0 w m g r q n cap s s' ∧ Box w b vs 66)) (k p pw ns : Int) (i1 : I64 pw) (i2 : I64 ns) {x : Int} {s2 : MS} (hr : Hid (tk n s' k p pw ns = (x, s2))) :
    Calls Try.prog 36 #[.pointer (some ⟨r, 0, none⟩), .int .i64 k, .int .i64 p, .int .i64 pw, .int .i64 ns] w fun e w' => e = .returned (.int .i64 x) ∧ ∃ q' cap', Hid (Du w0 w' m g r q' n cap' s s2 ∧ Box w' b vs 66) := by
  have e1 := box_ne h.out.2 h.out.1.ref.out.box (by decide)
  refine (du_rtake (Lib.hid h.out.1) k p pw ns i1 i2 hr).mono ?_
  rintro e w' ⟨rfl, q', cap', hD, ha⟩
  exact ⟨rfl, q', cap', Lib.hid ⟨hD.out, box_alt h.out.2 ha e1⟩⟩
theorem du_read {w0 w : World} {m g r q n cap : Nat} {s s' : MS} (h : Hid (Du w0 w m g r q n cap s s')) {t u : Int} (ht : Hid (tot n s = t)) (hu : Hid (s.tim = u)) :
    (Calls Try.prog 39 #[.pointer (some ⟨m, 0, none⟩)] w fun e w' => e = .returned (.int .i64 t) ∧ Hid (Du w0 w' m g r q n cap s s')) ∧
    (Calls Try.prog 41 #[.pointer (some ⟨m, 0, none⟩)] w fun e w' => e = .returned (.int .i64 u) ∧ Hid (Du w0 w' m g r q n cap s s')) := by
  have := ht.out; subst this
  have := hu.out; subst this
  exact ⟨(total_any w m g n n s h.out.met).mono fun e w' hh => ⟨hh.1, by rw [← hh.2]; exact h⟩, (time_any w m g n n s h.out.met).mono fun e w' hh => ⟨hh.1, by rw [← hh.2]; exact h⟩⟩
theorem du_rtotal {w0 w : World} {m g r q n cap : Nat} {s s' : MS} (h : Hid (Du w0 w m g r q n cap s s')) {t : Int} (ht : Hid (tot n s' = t)) :
    Calls Try.prog 40 #[.pointer (some ⟨r, 0, none⟩)] w fun e w' => e = .returned (.int .i64 t) ∧ Hid (Du w0 w' m g r q n cap s s') :=
  (totalr_any w r q n cap s' h.out.ref h.out.ok' t ht).mono fun e w' hh => ⟨hh.1, du_next h hh.2⟩
theorem du_charge {w0 w : World} {m g r q n cap : Nat} {s s' : MS} (h : Hid (Du w0 w m g r q n cap s s')) :
    Calls Try.prog 38 #[.pointer (some ⟨m, 0, none⟩)] w fun e w' => ∃ g' c, e = .returned (.agg #[.slice (some ⟨g', 0, none⟩) n c, .int .i64 s.id, .int .i64 s.sl, .int .i64 s.ch]) ∧ Hid (Du w0 w' m g r q n cap s s' ∧ Hid (Open.RowsIn w' (some ⟨g', 0, none⟩) n 1 (fun i _ => s.run i))) := by
  refine (charge_any w m g n n s h.out.met h.out.ok).mono ?_
  rintro e w' ⟨g', c, rfl, hb, hr⟩
  exact ⟨g', c, rfl, Lib.hid ⟨(du_next h hb).out, hr⟩⟩
theorem du_same {w0 w : World} {m g r q n cap g' c : Nat} {s : MS} (h : Hid (Du w0 w m g r q n cap s s ∧ Hid (Open.RowsIn w (some ⟨g', 0, none⟩) n 1 (fun i _ => s.run i)))) :
    Calls Try.prog 37 #[.agg #[.slice (some ⟨g', 0, none⟩) n c, .int .i64 s.id, .int .i64 s.sl, .int .i64 s.ch], .agg #[.slice (some ⟨q, 0, none⟩) n cap, .int .i64 s.id, .int .i64 s.sl, .int .i64 s.ch]] w fun e w' => e = .returned (.bool true) ∧ Hid (Du w0 w' m g r q n cap s s) :=
  (samec_any (some ⟨g', 0, none⟩) (some ⟨q, 0, none⟩) n c cap s.id s.sl s.ch s.run w h.out.2 (rows_own h.out.1.ref.out.own (by have := h.out.1.ok.hn; omega) (run_i64 h.out.1.ok))).mono fun e w' hh => ⟨hh.1, du_next (Lib.hid h.out.1) hh.2⟩

set_option maxRecDepth 100000 in
set_option maxHeartbeats 4000000 in
theorem plays_law (p : Int) (a : Option Addr) (n c : Nat) (f : Nat → Nat → Int) (w : World) (hp : -9223372036854775808 ≤ p ∧ p ≤ 9223372036854775807) (hin : Hid (Open.RowsIn w a n 4 f)) :
    Calls Try.prog 7 #[.int .i64 p, .slice a n c] w fun e w' => e = .returned (.bool true) ∧ Below w.heap.size w w' := by
  have hn := hin.out.1
  have C0 := Lib.hid (fun w' h => st_new w w' p h)
  have C1 := Lib.hid (fun w' => newr_any w' p)
  generalize many p = N at C0 C1
  go_enter Try.func7, Try.ntmps7
  go_wp2_with fail
  refine (works_any _).mono ?_
  rintro e0 w1 ⟨rfl, hb1⟩
  have HB := Lib.hid hb1
  clear hb1
  go_wp2_with fail
  refine (C0.out _ HB).mono ?_
  rintro e0 w2 ⟨m, g, rfl, S⟩
  clear HB C0
  go_wp2_with fail
  refine (C1.out _).mono ?_
  rintro e0 w3 ⟨r, q, rfl, hr, hq, hb3, hR⟩
  have D : Hid (Du w w3 m g r q N N nil nil) := by
    have S3 := st_next S hb3
    have hgl := (S.out.met.out.own.lt g rfl).2
    have hs := S.out.bel.size
    exact Lib.hid ⟨S3.out.bel, S3.out.hm, S3.out.hg, by omega, by omega, by omega, S3.out.met, hR, S3.out.ok, S3.out.ok⟩
  clear S C1 hr hq hb3 hR
  go_wp2_with fail
  go_loopw [7] (fun i wr => ∃ (k : Nat) (s : MS) (q' cap : Nat), k ≤ n ∧ i = .int .i64 k ∧ Hid (Du w wr m g r q' N cap s s)) (fun i _ => n - (intOf i).toNat)
  case atStart => exact ⟨0, nil, q, N, by omega, rfl, D⟩
  case round =>
    clear D q
    obtain ⟨k, s, q, cap, hk, rfl, D⟩ := hrel
    by_cases h1 : k < n
    · by_cases h2 : k < 60
      · obtain ⟨b, off, rfl, hlt, c0, c1, c2, c3, i0, i1, i2, i3⟩ := rows_at4 hin k h1
        have d0 := keep D.out.bel c0 hlt
        have d1 := keep D.out.bel c1 hlt
        have d2 := keep D.out.bel c2 hlt
        have d3 := keep D.out.bel c3 hlt
        obtain ⟨x0, e0⟩ : ∃ x, f k 0 = x := ⟨_, rfl⟩
        obtain ⟨x1, e1⟩ : ∃ x, f k 1 = x := ⟨_, rfl⟩
        obtain ⟨x2, e2⟩ : ∃ x, f k 2 = x := ⟨_, rfl⟩
        obtain ⟨x3, e3⟩ : ∃ x, f k 3 = x := ⟨_, rfl⟩
        rw [e0] at d0 i0
        rw [e1] at d1 i1
        rw [e2] at d2 i2
        rw [e3] at d3 i3
        obtain ⟨x, hx⟩ : ∃ x, (tk N s x0 x1 x2 x3).1 = x := ⟨_, rfl⟩
        obtain ⟨s', hs⟩ : ∃ s', (tk N s x0 x1 x2 x3).2 = s' := ⟨_, rfl⟩
        obtain ⟨tb, q2⟩ : ∃ t, tot N s' = t := ⟨_, rfl⟩
        obtain ⟨mb, q4⟩ : ∃ t, s'.tim = t := ⟨_, rfl⟩
        have TK := Lib.hid (Prod.ext hx hs : tk N s x0 x1 x2 x3 = (x, s'))
        have Q2 := Lib.hid q2; have Q4 := Lib.hid q4
        clear c0 c1 c2 c3 e0 e1 e2 e3 hx hs q2 q4
        have D1 : Hid (Du w (wr.alloc (.cells #[.int .i64 x0, .int .i64 x1, .int .i64 x2, .int .i64 x3] 66)) m g r q N cap s s ∧ Box (wr.alloc (.cells #[.int .i64 x0, .int .i64 x1, .int .i64 x2, .int .i64 x3] 66)) wr.heap.size #[.int .i64 x0, .int .i64 x1, .int .i64 x2, .int .i64 x3] 66) :=
          Lib.hid ⟨(du_next D ((Below.refl _ _).alloc (Nat.le_refl _) _)).out, Box.new _ _ _⟩
        go_wp2_with fail
        generalize wr.alloc (.cells #[.int .i64 x0, .int .i64 x1, .int .i64 x2, .int .i64 x3] 66) = w4 at D1 ⊢
        generalize wr.heap.size = bA at D1 ⊢
        clear d0 d1 d2 d3 D
        have D1 : Hid (Du w w4.drew m g r q N cap s s ∧ Box w4.drew bA _ _) := Lib.hid ⟨(du_drew (Lib.hid D1.out.1)).out, D1.out.2.drew⟩
        have r1 := D1.out.2.cell
        go_region_held3 (fun w' => ∀ i, w'.cell? ⟨bA, i, none⟩ = (#[.int .i64 x0, .int .i64 x1, .int .i64 x2, .int .i64 x3] : Array Value)[i]?)
          (first
            | exact r1
            | exact D5.out.2.cell
            | exact D6.out.2.cell)
          (first
            | (go_at_call 35; refine (du_take2 D1 x0 x1 x2 x3 i2 i3 TK).mono ?_; rintro e1 w5 ⟨rfl, D5⟩)
            | (go_at_call 36; refine (du_rtake2 D5 x0 x1 x2 x3 i2 i3 TK).mono ?_; rintro e1 w6 ⟨rfl, q', cap', D6⟩))
        clear r1 D1 D5
        have D := Lib.hid D6.out.1
        clear D6
        go_wp2_with fail
        have D := du_drew D
        have rD := D.out.ref.out.box.cell
        go_region_held3 (fun w' => ∀ i, w'.cell? ⟨r, i, none⟩ = (#[.slice (some ⟨q', 0, none⟩) N cap', .int .i64 s'.id, .int .i64 s'.sl, .int .i64 s'.ch, .int .i64 s'.tim] : Array Value)[i]?)
          (first
            | exact rD
            | exact D8.out.ref.out.box.cell
            | exact D7.out.1.ref.out.box.cell)
          (first
            | (go_at_call 38; refine (du_charge D).mono ?_; rintro e1 w7 ⟨g7, c7, rfl, D7⟩)
            | (go_at_call 37; refine (du_same D7).mono ?_; rintro e1 w8 ⟨rfl, D8⟩)
            | (go_at_call 39; refine (du_read D8 Q2 (Lib.hid rfl)).1.mono ?_; rintro e1 w8 ⟨rfl, D8⟩)
            | (go_at_call 40; refine (du_rtotal D8 Q2).mono ?_; rintro e1 w8 ⟨rfl, D8⟩)
            | (go_at_call 41; refine (du_read D8 Q2 (Lib.hid rfl)).2.mono ?_; rintro e1 w8 ⟨rfl, D8⟩))
        clear rD D D7
        go_wp2_with fail
        go_roundw
        case rel => exact ⟨k + 1, s', q', cap', by omega, by go_num, D8⟩
        case measure => simp [intOf]; omega
      · go_wp2_with fail
        have D := du_drew D
        have rD := D.out.ref.out.box.cell
        go_region_held3 (fun w' => ∀ i, w'.cell? ⟨r, i, none⟩ = (#[.slice (some ⟨q, 0, none⟩) N cap, .int .i64 s.id, .int .i64 s.sl, .int .i64 s.ch, .int .i64 s.tim] : Array Value)[i]?)
          (first
            | exact rD
            | exact D8.out.ref.out.box.cell
            | exact D7.out.1.ref.out.box.cell)
          (first
            | (go_at_call 38; refine (du_charge D).mono ?_; rintro e1 w7 ⟨g7, c7, rfl, D7⟩)
            | (go_at_call 37; refine (du_same D7).mono ?_; rintro e1 w8 ⟨rfl, D8⟩))
        go_wp2_with fail
        go_ret
        exact ⟨rfl, D8.out.bel⟩
    · obtain rfl : k = n := by omega
      go_wp2_with fail
      have D := du_drew D
      have rD := D.out.ref.out.box.cell
      go_region_held3 (fun w' => ∀ i, w'.cell? ⟨r, i, none⟩ = (#[.slice (some ⟨q, 0, none⟩) N cap, .int .i64 s.id, .int .i64 s.sl, .int .i64 s.ch, .int .i64 s.tim] : Array Value)[i]?)
        (first
          | exact rD
          | exact D8.out.ref.out.box.cell
          | exact D7.out.1.ref.out.box.cell)
        (first
          | (go_at_call 38; refine (du_charge D).mono ?_; rintro e1 w7 ⟨g7, c7, rfl, D7⟩)
          | (go_at_call 37; refine (du_same D7).mono ?_; rintro e1 w8 ⟨rfl, D8⟩))
      go_wp2_with fail
      go_ret
      exact ⟨rfl, D8.out.bel⟩
end Go.Proofs.Yteikliciijfmmaa.MetP

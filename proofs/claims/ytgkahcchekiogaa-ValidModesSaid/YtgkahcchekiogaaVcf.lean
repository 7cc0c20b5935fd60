/- Package valid: what may be of channels and modes; find. -/
import Derived.Test.YtgkahcchekiogaaVsr
import Derived.Test.YtgkahcchekiogaaShort
namespace Go.Proofs.Ytgkahcchekiogaa.Vcf
open Go.RowKit Base Kit Conf Conf2 PowA PowB Vfa Vfb Val Vld Vpa Vpr Short
set_option linter.unusedVariables false
set_option linter.unusedSimpArgs false
def isE (c : ConfC) (p q : Int) : Bool := inB p 0 ((c.pn : Int) - 1) && inB q 0 (((c.p p.toNat).on : Int) - 1)
def findR (c : ConfC) (p q : Int) : Bool × Bool × Bool × Int × Int := if isE c p q then (true, (c.p p.toNat).oq q.toNat, (c.p p.toNat).oi q.toNat, (c.p p.toNat).os q.toNat, (c.p p.toNat).od q.toNat) else (false, false, false, 0, 0)
/-- a function's world: a configuration's box -/
structure Cs (w0 w : World) (b : Nat) (c : ConfC) : Prop where
  bel : Below w0.heap.size w0 w
  box : Box w b #[.slice c.pa c.pn c.pc, .slice c.ca c.cn c.cc, .slice c.ma c.mn c.mc, .slice c.w.la c.w.ln c.w.lc, .slice c.w.na c.w.nn c.w.nc, .int .i64 c.w.sw, .int .i64 c.w.id, .int .i64 c.w.ch, .int .i64 c.w.qu, .int .i64 c.w.sl, .int .i64 c.w.pp, .slice c.da c.dn c.dc, .slice c.ua c.un c.uc] 59
theorem cs_next {w0 w w1 : World} {b : Nat} {c : ConfC} (h : Hid (Cs w0 w b c)) (k : Below w.heap.size w w1) : Hid (Cs w0 w1 b c) := Lib.hid ⟨below_next h.out.bel k, h.out.box.next k⟩
theorem cs_in (w : World) (c : ConfC) : Hid (Cs w (w.alloc (.cells #[.slice c.pa c.pn c.pc, .slice c.ca c.cn c.cc, .slice c.ma c.mn c.mc, .slice c.w.la c.w.ln c.w.lc, .slice c.w.na c.w.nn c.w.nc, .int .i64 c.w.sw, .int .i64 c.w.id, .int .i64 c.w.ch, .int .i64 c.w.qu, .int .i64 c.w.sl, .int .i64 c.w.pp, .slice c.da c.dn c.dc, .slice c.ua c.un c.uc] 59)) w.heap.size c) := Lib.hid ⟨(Below.refl _ _).alloc (Nat.le_refl _) _, Box.new _ _ _⟩
theorem cs_alloc {w0 w : World} {b : Nat} {c : ConfC} (h : Hid (Cs w0 w b c)) (o : Obj) : Hid (Cs w0 (w.alloc o) b c) := cs_next h ((Below.refl _ _).alloc (Nat.le_refl _) _)
theorem cs_quiet {w0 w : World} {b : Nat} {c : ConfC} (h : Hid (Cs w0 w b c)) (n : Nat) : Hid (Cs w0 (w.drewN n) b c) := Lib.hid ⟨below_drewN' h.out.bel n, h.out.box.drewN n⟩
theorem box_new1 (w : World) (o : Obj) (vs : Array Value) (T : TypeId) : Box ((w.alloc o).alloc (.cells vs T)) (w.heap.size + 1) vs T := by
  have := Box.new (w.alloc o) vs T
  rwa [show (w.alloc o).heap.size = w.heap.size + 1 from by simp] at this
theorem box_new2 (w : World) (o p : Obj) (vs : Array Value) (T : TypeId) : Box (((w.alloc o).alloc p).alloc (.cells vs T)) (w.heap.size + 1 + 1) vs T := by
  have := Box.new ((w.alloc o).alloc p) vs T
  rwa [show ((w.alloc o).alloc p).heap.size = w.heap.size + 1 + 1 from by simp] at this
set_option maxRecDepth 100000 in
set_option maxHeartbeats 2000000 in
theorem find_any (c : ConfC) (p q : Int) (g vq vi : Bool) (vs vd : Int) (w : World) (ok : c.Ok w) (ip : I64 p) (iq : I64 q) (hr : Hid (findR c p q = (g, vq, vi, vs, vd))) :
    Calls Try.prog 94 #[.agg #[.slice c.pa c.pn c.pc, .slice c.ca c.cn c.cc, .slice c.ma c.mn c.mc, .slice c.w.la c.w.ln c.w.lc, .slice c.w.na c.w.nn c.w.nc, .int .i64 c.w.sw, .int .i64 c.w.id, .int .i64 c.w.ch, .int .i64 c.w.qu, .int .i64 c.w.sl, .int .i64 c.w.pp, .slice c.da c.dn c.dc, .slice c.ua c.un c.uc], .agg #[.int .i64 p, .int .i64 q]] w fun e w' => e = .returned (.tuple #[.agg #[.bool vq, .bool vi, .int .i64 vs, .int .i64 vd], .bool g]) ∧ Below w.heap.size w w' := by
  have h1 := ok.parts.out.1
  obtain ⟨ip0, ip1⟩ := ip
  obtain ⟨iq0, iq1⟩ := iq
  have hr := hr.out
  unfold findR isE at hr
  obtain ⟨r0, d0⟩ : ∃ z, inB p 0 ((c.pn : Int) - 1) = z := ⟨_, rfl⟩
  have C0 := Lib.hid (fun w => in_any p 0 ((c.pn : Int) - 1) r0 w (Lib.hid d0))
  rw [d0] at hr
  cases r0
  · rw [Bool.false_and, if_neg (by decide)] at hr
    simp only [Prod.mk.injEq] at hr
    obtain ⟨rfl, rfl, rfl, rfl, rfl⟩ := hr
    have C1 := C0
    clear d0
    have S := cs_in w c
    go_enter Try.func94, Try.ntmps94
    go_wp2_with fail
    have S := cs_alloc (cs_alloc S (.cells #[.int .i64 p, .int .i64 q] 151)) (.cells #[.bool false, .bool false, .int .i64 0, .int .i64 0] 140)
    have bc := S.out.box.cell
    have X := Lib.hid ((box_new1 w (.cells #[.slice c.pa c.pn c.pc, .slice c.ca c.cn c.cc, .slice c.ma c.mn c.mc, .slice c.w.la c.w.ln c.w.lc, .slice c.w.na c.w.nn c.w.nc, .int .i64 c.w.sw, .int .i64 c.w.id, .int .i64 c.w.ch, .int .i64 c.w.qu, .int .i64 c.w.sl, .int .i64 c.w.pp, .slice c.da c.dn c.dc, .slice c.ua c.un c.uc] 59) #[.int .i64 p, .int .i64 q] 151).alloc (.cells #[.bool false, .bool false, .int .i64 0, .int .i64 0] 140))
    have Y := Lib.hid (box_new2 w (.cells #[.slice c.pa c.pn c.pc, .slice c.ca c.cn c.cc, .slice c.ma c.mn c.mc, .slice c.w.la c.w.ln c.w.lc, .slice c.w.na c.w.nn c.w.nc, .int .i64 c.w.sw, .int .i64 c.w.id, .int .i64 c.w.ch, .int .i64 c.w.qu, .int .i64 c.w.sl, .int .i64 c.w.pp, .slice c.da c.dn c.dc, .slice c.ua c.un c.uc] 59) (.cells #[.int .i64 p, .int .i64 q] 151) #[.bool false, .bool false, .int .i64 0, .int .i64 0] 140)
    have xc := X.out.cell
    have yc := Y.out.cell
    have yf := Y.out.frozen
    generalize ((w.alloc (.cells #[.slice c.pa c.pn c.pc, .slice c.ca c.cn c.cc, .slice c.ma c.mn c.mc, .slice c.w.la c.w.ln c.w.lc, .slice c.w.na c.w.nn c.w.nc, .int .i64 c.w.sw, .int .i64 c.w.id, .int .i64 c.w.ch, .int .i64 c.w.qu, .int .i64 c.w.sl, .int .i64 c.w.pp, .slice c.da c.dn c.dc, .slice c.ua c.un c.uc] 59)).alloc (.cells #[.int .i64 p, .int .i64 q] 151)).alloc (.cells #[.bool false, .bool false, .int .i64 0, .int .i64 0] 140) = W at *
    go_quiet (first
      | (go_at_call_of 75 (Value.int IntKind.i64 q); exact Calls.quiet_of_same ((C1.out _).mono (fun e w' h => ⟨h.1, h.2.symm⟩)))
      | (go_at_call_of 75 (Value.int IntKind.i64 p); exact Calls.quiet_of_same ((C0.out _).mono (fun e w' h => ⟨h.1, h.2.symm⟩))))
    go_wp2_with fail
    refine bodyPost_ret (v := .tuple #[.agg #[.bool false, .bool false, .int .i64 0, .int .i64 0], .bool false]) ?_ rfl ⟨rfl, ?_⟩
    · simp [results, Try.results94, go_sem, yc, yf]
    exact ((((below_drewN' S.out.bel _).setCell (by simp; omega) _).setCell (by simp; omega) _).setCell (by simp; omega) _).setCell (by simp; omega) _
  · obtain ⟨p0, p1⟩ := inB_iff.1 d0
    clear d0
    rw [Bool.true_and] at hr
    have hk : p.toNat < c.pn := by omega
    have hkI : p < (c.pn : Int) := by omega
    obtain ⟨b, off, ea, hlt, u2⟩ : ∃ b off, c.pa = some ⟨b, off, none⟩ ∧ b < w.heap.size ∧ w.cell? ⟨b, off + p.toNat * 11 + 2, none⟩ = some (.slice (c.p p.toNat).oa (c.p p.toNat).on (c.p p.toNat).oc) := by
      obtain ⟨b, off, ea, hlt, _, _, u2, _, _, _, _, _, _, _, _⟩ := part_at ok.parts p.toNat hk
      exact ⟨b, off, ea, hlt, u2⟩
    replace ea := Lib.hid ea
    have PO := rv4 (ok.part p.toNat hk).port
    have h2 := (ok.part p.toNat hk).port.out.1
    generalize c.p p.toNat = P at *
    obtain ⟨r1, d1⟩ : ∃ z, inB q 0 ((P.on : Int) - 1) = z := ⟨_, rfl⟩
    rw [d1] at hr
    have C1 := Lib.hid (fun w => in_any q 0 ((P.on : Int) - 1) r1 w (Lib.hid d1))
    have HB := Lib.hid (((((Below.refl w.heap.size w).alloc (Nat.le_refl _) (.cells #[.slice c.pa c.pn c.pc, .slice c.ca c.cn c.cc, .slice c.ma c.mn c.mc, .slice c.w.la c.w.ln c.w.lc, .slice c.w.na c.w.nn c.w.nc, .int .i64 c.w.sw, .int .i64 c.w.id, .int .i64 c.w.ch, .int .i64 c.w.qu, .int .i64 c.w.sl, .int .i64 c.w.pp, .slice c.da c.dn c.dc, .slice c.ua c.un c.uc] 59)).alloc (by simp) (.cells #[.int .i64 p, .int .i64 q] 151))).alloc (by simp; omega) (.cells #[.bool false, .bool false, .int .i64 0, .int .i64 0] 140))
    replace u2 := keep HB.out u2 hlt
    cases r1
    · rw [if_neg (by decide)] at hr
      simp only [Prod.mk.injEq] at hr
      obtain ⟨rfl, rfl, rfl, rfl, rfl⟩ := hr
      clear d1 PO HB
      have S := cs_in w c
      go_enter Try.func94, Try.ntmps94
      go_wp2_with fail
      have S := cs_alloc (cs_alloc S (.cells #[.int .i64 p, .int .i64 q] 151)) (.cells #[.bool false, .bool false, .int .i64 0, .int .i64 0] 140)
      have bc := S.out.box.cell
      have X := Lib.hid ((box_new1 w (.cells #[.slice c.pa c.pn c.pc, .slice c.ca c.cn c.cc, .slice c.ma c.mn c.mc, .slice c.w.la c.w.ln c.w.lc, .slice c.w.na c.w.nn c.w.nc, .int .i64 c.w.sw, .int .i64 c.w.id, .int .i64 c.w.ch, .int .i64 c.w.qu, .int .i64 c.w.sl, .int .i64 c.w.pp, .slice c.da c.dn c.dc, .slice c.ua c.un c.uc] 59) #[.int .i64 p, .int .i64 q] 151).alloc (.cells #[.bool false, .bool false, .int .i64 0, .int .i64 0] 140))
      have Y := Lib.hid (box_new2 w (.cells #[.slice c.pa c.pn c.pc, .slice c.ca c.cn c.cc, .slice c.ma c.mn c.mc, .slice c.w.la c.w.ln c.w.lc, .slice c.w.na c.w.nn c.w.nc, .int .i64 c.w.sw, .int .i64 c.w.id, .int .i64 c.w.ch, .int .i64 c.w.qu, .int .i64 c.w.sl, .int .i64 c.w.pp, .slice c.da c.dn c.dc, .slice c.ua c.un c.uc] 59) (.cells #[.int .i64 p, .int .i64 q] 151) #[.bool false, .bool false, .int .i64 0, .int .i64 0] 140)
      have xc := X.out.cell
      have yc := Y.out.cell
      have yf := Y.out.frozen
      generalize ((w.alloc (.cells #[.slice c.pa c.pn c.pc, .slice c.ca c.cn c.cc, .slice c.ma c.mn c.mc, .slice c.w.la c.w.ln c.w.lc, .slice c.w.na c.w.nn c.w.nc, .int .i64 c.w.sw, .int .i64 c.w.id, .int .i64 c.w.ch, .int .i64 c.w.qu, .int .i64 c.w.sl, .int .i64 c.w.pp, .slice c.da c.dn c.dc, .slice c.ua c.un c.uc] 59)).alloc (.cells #[.int .i64 p, .int .i64 q] 151)).alloc (.cells #[.bool false, .bool false, .int .i64 0, .int .i64 0] 140) = W at *
      rw [ea.out] at bc
      clear ea
      go_quiet (first
        | (go_at_call_of 75 (Value.int IntKind.i64 q); exact Calls.quiet_of_same ((C1.out _).mono (fun e w' h => ⟨h.1, h.2.symm⟩)))
        | (go_at_call_of 75 (Value.int IntKind.i64 p); exact Calls.quiet_of_same ((C0.out _).mono (fun e w' h => ⟨h.1, h.2.symm⟩))))
      go_wp2_with fail
      refine bodyPost_ret (v := .tuple #[.agg #[.bool false, .bool false, .int .i64 0, .int .i64 0], .bool false]) ?_ rfl ⟨rfl, ?_⟩
      · simp [results, Try.results94, go_sem, yc, yf]
      exact ((((below_drewN' S.out.bel _).setCell (by simp; omega) _).setCell (by simp; omega) _).setCell (by simp; omega) _).setCell (by simp; omega) _
    · obtain ⟨q0, q1⟩ := inB_iff.1 d1
      clear d1
      rw [if_pos rfl] at hr
      simp only [Prod.mk.injEq] at hr
      obtain ⟨rfl, rfl, rfl, rfl, rfl⟩ := hr
      have hm : q.toNat < P.on := by omega
      have hmI : q < (P.on : Int) := by omega
      obtain ⟨b2, o2, e2, hl2, v0, v1, v2, v3⟩ := PO.out q.toNat hm
      replace v0 := keep HB.out v0 hl2
      replace v1 := keep HB.out v1 hl2
      replace v2 := keep HB.out v2 hl2
      replace v3 := keep HB.out v3 hl2
      generalize P.oq q.toNat = y0 at *
      generalize P.oi q.toNat = y1 at *
      generalize P.os q.toNat = y2 at *
      generalize P.od q.toNat = y3 at *
      rw [e2] at u2
      clear HB PO e2
      have S := cs_in w c
      go_enter Try.func94, Try.ntmps94
      go_wp2_with fail
      have S := cs_alloc (cs_alloc S (.cells #[.int .i64 p, .int .i64 q] 151)) (.cells #[.bool false, .bool false, .int .i64 0, .int .i64 0] 140)
      have bc := S.out.box.cell
      have X := Lib.hid ((box_new1 w (.cells #[.slice c.pa c.pn c.pc, .slice c.ca c.cn c.cc, .slice c.ma c.mn c.mc, .slice c.w.la c.w.ln c.w.lc, .slice c.w.na c.w.nn c.w.nc, .int .i64 c.w.sw, .int .i64 c.w.id, .int .i64 c.w.ch, .int .i64 c.w.qu, .int .i64 c.w.sl, .int .i64 c.w.pp, .slice c.da c.dn c.dc, .slice c.ua c.un c.uc] 59) #[.int .i64 p, .int .i64 q] 151).alloc (.cells #[.bool false, .bool false, .int .i64 0, .int .i64 0] 140))
      have Y := Lib.hid (box_new2 w (.cells #[.slice c.pa c.pn c.pc, .slice c.ca c.cn c.cc, .slice c.ma c.mn c.mc, .slice c.w.la c.w.ln c.w.lc, .slice c.w.na c.w.nn c.w.nc, .int .i64 c.w.sw, .int .i64 c.w.id, .int .i64 c.w.ch, .int .i64 c.w.qu, .int .i64 c.w.sl, .int .i64 c.w.pp, .slice c.da c.dn c.dc, .slice c.ua c.un c.uc] 59) (.cells #[.int .i64 p, .int .i64 q] 151) #[.bool false, .bool false, .int .i64 0, .int .i64 0] 140)
      have xc := X.out.cell
      have yc := Y.out.cell
      have yf := Y.out.frozen
      generalize ((w.alloc (.cells #[.slice c.pa c.pn c.pc, .slice c.ca c.cn c.cc, .slice c.ma c.mn c.mc, .slice c.w.la c.w.ln c.w.lc, .slice c.w.na c.w.nn c.w.nc, .int .i64 c.w.sw, .int .i64 c.w.id, .int .i64 c.w.ch, .int .i64 c.w.qu, .int .i64 c.w.sl, .int .i64 c.w.pp, .slice c.da c.dn c.dc, .slice c.ua c.un c.uc] 59)).alloc (.cells #[.int .i64 p, .int .i64 q] 151)).alloc (.cells #[.bool false, .bool false, .int .i64 0, .int .i64 0] 140) = W at *
      rw [ea.out] at bc
      clear ea
      go_quiet (first
        | (go_at_call_of 75 (Value.int IntKind.i64 q); exact Calls.quiet_of_same ((C1.out _).mono (fun e w' h => ⟨h.1, h.2.symm⟩)))
        | (go_at_call_of 75 (Value.int IntKind.i64 p); exact Calls.quiet_of_same ((C0.out _).mono (fun e w' h => ⟨h.1, h.2.symm⟩))))
      go_wp2_with fail
      have SK := Lib.hid (fun (w' : World) (h : Below (w.heap.size + 1 + 1) (W.drewN nq) w') => show (∀ i, w'.cell? ⟨w.heap.size, i, none⟩ = (#[.slice (some ⟨b, off, none⟩) c.pn c.pc, .slice c.ca c.cn c.cc, .slice c.ma c.mn c.mc, .slice c.w.la c.w.ln c.w.lc, .slice c.w.na c.w.nn c.w.nc, .int .i64 c.w.sw, .int .i64 c.w.id, .int .i64 c.w.ch, .int .i64 c.w.qu, .int .i64 c.w.sl, .int .i64 c.w.pp, .slice c.da c.dn c.dc, .slice c.ua c.un c.uc] : Array Value)[i]?) ∧ (∀ i, w'.cell? ⟨w.heap.size + 1, i, none⟩ = (#[.int .i64 p, .int .i64 q] : Array Value)[i]?) ∧ w'.cell? ⟨b, off + p.toNat * 11 + 2, none⟩ = some (.slice (some ⟨b2, o2, none⟩) P.on P.oc) ∧ w'.cell? ⟨b2, o2 + q.toNat * 4, none⟩ = some (.bool y0) ∧ w'.cell? ⟨b2, o2 + q.toNat * 4 + 1, none⟩ = some (.bool y1) ∧ w'.cell? ⟨b2, o2 + q.toNat * 4 + 2, none⟩ = some (.int .i64 y2) ∧ w'.cell? ⟨b2, o2 + q.toNat * 4 + 3, none⟩ = some (.int .i64 y3) from
        have K := fun (a : Addr) (hb : a.block < w.heap.size + 1 + 1) => (World.cell?_of_block (w := W) (w' := w') (a := a) (h.block a.block hb))
        ⟨fun i => (K _ (by show w.heap.size < _; omega)).trans (bc i), fun i => (K _ (by show w.heap.size + 1 < _; omega)).trans (xc i), (K _ (by show b < _; omega)).trans u2, (K _ (by show b2 < _; omega)).trans v0, (K _ (by show b2 < _; omega)).trans v1, (K _ (by show b2 < _; omega)).trans v2, (K _ (by show b2 < _; omega)).trans v3⟩)
      have yc : ∀ i, (W.drewN nq).drew.cell? ⟨w.heap.size + 1 + 1, i, none⟩ = (#[.bool false, .bool false, .int .i64 0, .int .i64 0] : Array Value)[i]? := yc
      have yf : ∀ i, (W.drewN nq).drew.frozen? ⟨w.heap.size + 1 + 1, i, none⟩ = false := yf
      have HBW := Lib.hid ((Below.refl (w.heap.size + 1 + 1) (W.drewN nq)).drew)
      clear bc xc u2 v0 v1 v2 v3
      go_region_held3 (fun w' => (∀ i, w'.cell? ⟨w.heap.size, i, none⟩ = (#[.slice (some ⟨b, off, none⟩) c.pn c.pc, .slice c.ca c.cn c.cc, .slice c.ma c.mn c.mc, .slice c.w.la c.w.ln c.w.lc, .slice c.w.na c.w.nn c.w.nc, .int .i64 c.w.sw, .int .i64 c.w.id, .int .i64 c.w.ch, .int .i64 c.w.qu, .int .i64 c.w.sl, .int .i64 c.w.pp, .slice c.da c.dn c.dc, .slice c.ua c.un c.uc] : Array Value)[i]?) ∧ (∀ i, w'.cell? ⟨w.heap.size + 1, i, none⟩ = (#[.int .i64 p, .int .i64 q] : Array Value)[i]?) ∧ w'.cell? ⟨b, off + p.toNat * 11 + 2, none⟩ = some (.slice (some ⟨b2, o2, none⟩) P.on P.oc) ∧ w'.cell? ⟨b2, o2 + q.toNat * 4, none⟩ = some (.bool y0) ∧ w'.cell? ⟨b2, o2 + q.toNat * 4 + 1, none⟩ = some (.bool y1) ∧ w'.cell? ⟨b2, o2 + q.toNat * 4 + 2, none⟩ = some (.int .i64 y2) ∧ w'.cell? ⟨b2, o2 + q.toNat * 4 + 3, none⟩ = some (.int .i64 y3))
        (exact SK.out _ (by repeat (first | exact HBW.out | refine Below.setCell ?_ (by simp) _)))
        (fail)
      go_wp2_with fail
      have yc : ∀ i, (W.drewN (nq + 1)).cell? ⟨w.heap.size + 1 + 1, i, none⟩ = (#[.bool false, .bool false, .int .i64 0, .int .i64 0] : Array Value)[i]? := yc
      have yf : ∀ i, (W.drewN (nq + 1)).frozen? ⟨w.heap.size + 1 + 1, i, none⟩ = false := yf
      refine bodyPost_ret (v := .tuple #[.agg #[.bool y0, .bool y1, .int .i64 y2, .int .i64 y3], .bool true]) ?_ rfl ⟨rfl, ?_⟩
      · simp [results, Try.results94, go_sem, yc, yf]
      exact ((((below_drewN' S.out.bel _).drew.setCell (by simp; omega) _).setCell (by simp; omega) _).setCell (by simp; omega) _).setCell (by simp; omega) _
end Go.Proofs.Ytgkahcchekiogaa.Vcf

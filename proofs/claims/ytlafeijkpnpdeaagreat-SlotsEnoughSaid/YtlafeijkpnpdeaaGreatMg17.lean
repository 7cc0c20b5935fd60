import Derived.Laws.StructEq
import Derived.Test.YtlafeijkpnpdeaaGreatMg16
import Derived.Test.YtlafeijkpnpdeaaGreatMg11

/- Package valid: what may be of channels and modes; find. -/
namespace Go.Proofs.YtlafeijkpnpdeaaGreat.Vcf
open Go.RowKit Base Kit Conf Conf2 PowA PowB Vfa Vfb Val Vld Vpa Vpr Short
set_option linter.unusedVariables false
set_option linter.unusedSimpArgs false
def isE (c : ConfC) (p q : Int) : Bool := inB p 0 ((c.pn : Int) - 1) && inB q 0 (((c.p p.toNat).on : Int) - 1)
def findR (c : ConfC) (p q : Int) : Bool × Bool × Bool × Int × Int := if isE c p q then (true, (c.p p.toNat).oq q.toNat, (c.p p.toNat).oi q.toNat, (c.p p.toNat).os q.toNat, (c.p p.toNat).od q.toNat) else (false, false, false, 0, 0)
/-- a function's world: a configuration's box -/
structure Cs (w0 w : World) (b : Nat) (c : ConfC) : Prop where
  bel : Below w0.heap.size w0 w
  box : Box w b #[.slice c.pa c.pn c.pc, .slice c.ca c.cn c.cc, .slice c.ma c.mn c.mc, .slice c.w.la c.w.ln c.w.lc, .slice c.w.na c.w.nn c.w.nc, .int .i64 c.w.sw, .int .i64 c.w.id, .int .i64 c.w.ch, .int .i64 c.w.qu, .int .i64 c.w.sl, .int .i64 c.w.pp, .slice c.da c.dn c.dc, .slice c.ua c.un c.uc] 33
theorem cs_next {w0 w w1 : World} {b : Nat} {c : ConfC} (h : Hid (Cs w0 w b c)) (k : Below w.heap.size w w1) : Hid (Cs w0 w1 b c) := Lib.hid ⟨below_next h.out.bel k, h.out.box.next k⟩
theorem cs_in (w : World) (c : ConfC) : Hid (Cs w (w.alloc (.cells #[.slice c.pa c.pn c.pc, .slice c.ca c.cn c.cc, .slice c.ma c.mn c.mc, .slice c.w.la c.w.ln c.w.lc, .slice c.w.na c.w.nn c.w.nc, .int .i64 c.w.sw, .int .i64 c.w.id, .int .i64 c.w.ch, .int .i64 c.w.qu, .int .i64 c.w.sl, .int .i64 c.w.pp, .slice c.da c.dn c.dc, .slice c.ua c.un c.uc] 33)) w.heap.size c) := Lib.hid ⟨(Below.refl _ _).alloc (Nat.le_refl _) _, Box.new _ _ _⟩
theorem cs_alloc {w0 w : World} {b : Nat} {c : ConfC} (h : Hid (Cs w0 w b c)) (o : Obj) : Hid (Cs w0 (w.alloc o) b c) := cs_next h ((Below.refl _ _).alloc (Nat.le_refl _) _)
theorem cs_quiet {w0 w : World} {b : Nat} {c : ConfC} (h : Hid (Cs w0 w b c)) (n : Nat) : Hid (Cs w0 (w.drewN n) b c) := Lib.hid ⟨below_drewN' h.out.bel n, h.out.box.drewN n⟩
theorem box_new1 (w : World) (o : Obj) (vs : Array Value) (T : TypeId) : Box ((w.alloc o).alloc (.cells vs T)) (w.heap.size + 1) vs T := by
  have := Box.new (w.alloc o) vs T
  rwa [show (w.alloc o).heap.size = w.heap.size + 1 from by simp] at this
theorem box_new2 (w : World) (o p : Obj) (vs : Array Value) (T : TypeId) : Box (((w.alloc o).alloc p).alloc (.cells vs T)) (w.heap.size + 1 + 1) vs T := by
  have := Box.new ((w.alloc o).alloc p) vs T
  rwa [show ((w.alloc o).alloc p).heap.size = w.heap.size + 1 + 1 from by simp] at this
set_option maxRecDepth 100000 in
set_option maxHeartbeats 2000000 in
theorem find_any (c : ConfC) (p q : Int) (g vq vi : Bool) (vs vd : Int) (w : World) (ok : c.Ok w) (ip : I64 p) (iq : I64 q) (hr : Hid (findR c p q = (g, vq, vi, vs, vd))) :
    Calls Tryz.prog 117 #[.agg #[.slice c.pa c.pn c.pc, .slice c.ca c.cn c.cc, .slice c.ma c.mn c.mc, .slice c.w.la c.w.ln c.w.lc, .slice c.w.na c.w.nn c.w.nc, .int .i64 c.w.sw, .int .i64 c.w.id, .int .i64 c.w.ch, .int .i64 c.w.qu, .int .i64 c.w.sl, .int .i64 c.w.pp, .slice c.da c.dn c.dc, .slice c.ua c.un c.uc], .agg #[.int .i64 p, .int .i64 q]] w fun e w' => e = .returned (.tuple #[.agg #[.bool vq, .bool vi, .int .i64 vs, .int .i64 vd], .bool g]) ∧ Below w.heap.size w w' := by
  have h1 := ok.parts.out.1
  obtain ⟨ip0, ip1⟩ := ip
  obtain ⟨iq0, iq1⟩ := iq
  have hr := hr.out
  unfold findR isE at hr
  obtain ⟨r0, d0⟩ : ∃ z, inB p 0 ((c.pn : Int) - 1) = z := ⟨_, rfl⟩
  have C0 := Lib.hid (fun w => in_any p 0 ((c.pn : Int) - 1) r0 w (Lib.hid d0))
  rw [d0] at hr
  cases r0
  · rw [Bool.false_and, if_neg (by decide)] at hr
    simp only [Prod.mk.injEq] at hr
    obtain ⟨rfl, rfl, rfl, rfl, rfl⟩ := hr
    have C1 := C0
    clear d0
    have S := cs_in w c
    go_enter Tryz.func117, Tryz.ntmps117
    go_wp2_with fail
    have S := cs_alloc (cs_alloc S (.cells #[.int .i64 p, .int .i64 q] 134)) (.cells #[.bool false, .bool false, .int .i64 0, .int .i64 0] 130)
    have bc := S.out.box.cell
    have X := Lib.hid ((box_new1 w (.cells #[.slice c.pa c.pn c.pc, .slice c.ca c.cn c.cc, .slice c.ma c.mn c.mc, .slice c.w.la c.w.ln c.w.lc, .slice c.w.na c.w.nn c.w.nc, .int .i64 c.w.sw, .int .i64 c.w.id, .int .i64 c.w.ch, .int .i64 c.w.qu, .int .i64 c.w.sl, .int .i64 c.w.pp, .slice c.da c.dn c.dc, .slice c.ua c.un c.uc] 33) #[.int .i64 p, .int .i64 q] 134).alloc (.cells #[.bool false, .bool false, .int .i64 0, .int .i64 0] 130))
    have Y := Lib.hid (box_new2 w (.cells #[.slice c.pa c.pn c.pc, .slice c.ca c.cn c.cc, .slice c.ma c.mn c.mc, .slice c.w.la c.w.ln c.w.lc, .slice c.w.na c.w.nn c.w.nc, .int .i64 c.w.sw, .int .i64 c.w.id, .int .i64 c.w.ch, .int .i64 c.w.qu, .int .i64 c.w.sl, .int .i64 c.w.pp, .slice c.da c.dn c.dc, .slice c.ua c.un c.uc] 33) (.cells #[.int .i64 p, .int .i64 q] 134) #[.bool false, .bool false, .int .i64 0, .int .i64 0] 130)
    have xc := X.out.cell
    have yc := Y.out.cell
    have yf := Y.out.frozen
    generalize ((w.alloc (.cells #[.slice c.pa c.pn c.pc, .slice c.ca c.cn c.cc, .slice c.ma c.mn c.mc, .slice c.w.la c.w.ln c.w.lc, .slice c.w.na c.w.nn c.w.nc, .int .i64 c.w.sw, .int .i64 c.w.id, .int .i64 c.w.ch, .int .i64 c.w.qu, .int .i64 c.w.sl, .int .i64 c.w.pp, .slice c.da c.dn c.dc, .slice c.ua c.un c.uc] 33)).alloc (.cells #[.int .i64 p, .int .i64 q] 134)).alloc (.cells #[.bool false, .bool false, .int .i64 0, .int .i64 0] 130) = W at *
    go_quiet (first
      | (go_at_call_of 47 (Value.int IntKind.i64 q); exact Calls.quiet_of_same ((C1.out _).mono (fun e w' h => ⟨h.1, h.2.symm⟩)))
      | (go_at_call_of 47 (Value.int IntKind.i64 p); exact Calls.quiet_of_same ((C0.out _).mono (fun e w' h => ⟨h.1, h.2.symm⟩))))
    go_wp2_with fail
    refine bodyPost_ret (v := .tuple #[.agg #[.bool false, .bool false, .int .i64 0, .int .i64 0], .bool false]) ?_ rfl ⟨rfl, ?_⟩
    · simp [results, Tryz.results117, go_sem, yc, yf]
    exact ((((below_drewN' S.out.bel _).setCell (by simp; omega) _).setCell (by simp; omega) _).setCell (by simp; omega) _).setCell (by simp; omega) _
  · obtain ⟨p0, p1⟩ := inB_iff.1 d0
    clear d0
    rw [Bool.true_and] at hr
    have hk : p.toNat < c.pn := by omega
    have hkI : p < (c.pn : Int) := by omega
    obtain ⟨b, off, ea, hlt, u2⟩ : ∃ b off, c.pa = some ⟨b, off, none⟩ ∧ b < w.heap.size ∧ w.cell? ⟨b, off + p.toNat * 11 + 2, none⟩ = some (.slice (c.p p.toNat).oa (c.p p.toNat).on (c.p p.toNat).oc) := by
      obtain ⟨b, off, ea, hlt, _, _, u2, _, _, _, _, _, _, _, _⟩ := part_at ok.parts p.toNat hk
      exact ⟨b, off, ea, hlt, u2⟩
    replace ea := Lib.hid ea
    have PO := rv4 (ok.part p.toNat hk).port
    have h2 := (ok.part p.toNat hk).port.out.1
    generalize c.p p.toNat = P at *
    obtain ⟨r1, d1⟩ : ∃ z, inB q 0 ((P.on : Int) - 1) = z := ⟨_, rfl⟩
    rw [d1] at hr
    have C1 := Lib.hid (fun w => in_any q 0 ((P.on : Int) - 1) r1 w (Lib.hid d1))
    have HB := Lib.hid (((((Below.refl w.heap.size w).alloc (Nat.le_refl _) (.cells #[.slice c.pa c.pn c.pc, .slice c.ca c.cn c.cc, .slice c.ma c.mn c.mc, .slice c.w.la c.w.ln c.w.lc, .slice c.w.na c.w.nn c.w.nc, .int .i64 c.w.sw, .int .i64 c.w.id, .int .i64 c.w.ch, .int .i64 c.w.qu, .int .i64 c.w.sl, .int .i64 c.w.pp, .slice c.da c.dn c.dc, .slice c.ua c.un c.uc] 33)).alloc (by simp) (.cells #[.int .i64 p, .int .i64 q] 134))).alloc (by simp; omega) (.cells #[.bool false, .bool false, .int .i64 0, .int .i64 0] 130))
    replace u2 := keep HB.out u2 hlt
    cases r1
    · rw [if_neg (by decide)] at hr
      simp only [Prod.mk.injEq] at hr
      obtain ⟨rfl, rfl, rfl, rfl, rfl⟩ := hr
      clear d1 PO HB
      have S := cs_in w c
      go_enter Tryz.func117, Tryz.ntmps117
      go_wp2_with fail
      have S := cs_alloc (cs_alloc S (.cells #[.int .i64 p, .int .i64 q] 134)) (.cells #[.bool false, .bool false, .int .i64 0, .int .i64 0] 130)
      have bc := S.out.box.cell
      have X := Lib.hid ((box_new1 w (.cells #[.slice c.pa c.pn c.pc, .slice c.ca c.cn c.cc, .slice c.ma c.mn c.mc, .slice c.w.la c.w.ln c.w.lc, .slice c.w.na c.w.nn c.w.nc, .int .i64 c.w.sw, .int .i64 c.w.id, .int .i64 c.w.ch, .int .i64 c.w.qu, .int .i64 c.w.sl, .int .i64 c.w.pp, .slice c.da c.dn c.dc, .slice c.ua c.un c.uc] 33) #[.int .i64 p, .int .i64 q] 134).alloc (.cells #[.bool false, .bool false, .int .i64 0, .int .i64 0] 130))
      have Y := Lib.hid (box_new2 w (.cells #[.slice c.pa c.pn c.pc, .slice c.ca c.cn c.cc, .slice c.ma c.mn c.mc, .slice c.w.la c.w.ln c.w.lc, .slice c.w.na c.w.nn c.w.nc, .int .i64 c.w.sw, .int .i64 c.w.id, .int .i64 c.w.ch, .int .i64 c.w.qu, .int .i64 c.w.sl, .int .i64 c.w.pp, .slice c.da c.dn c.dc, .slice c.ua c.un c.uc] 33) (.cells #[.int .i64 p, .int .i64 q] 134) #[.bool false, .bool false, .int .i64 0, .int .i64 0] 130)
      have xc := X.out.cell
      have yc := Y.out.cell
      have yf := Y.out.frozen
      generalize ((w.alloc (.cells #[.slice c.pa c.pn c.pc, .slice c.ca c.cn c.cc, .slice c.ma c.mn c.mc, .slice c.w.la c.w.ln c.w.lc, .slice c.w.na c.w.nn c.w.nc, .int .i64 c.w.sw, .int .i64 c.w.id, .int .i64 c.w.ch, .int .i64 c.w.qu, .int .i64 c.w.sl, .int .i64 c.w.pp, .slice c.da c.dn c.dc, .slice c.ua c.un c.uc] 33)).alloc (.cells #[.int .i64 p, .int .i64 q] 134)).alloc (.cells #[.bool false, .bool false, .int .i64 0, .int .i64 0] 130) = W at *
      rw [ea.out] at bc
      clear ea
      go_quiet (first
        | (go_at_call_of 47 (Value.int IntKind.i64 q); exact Calls.quiet_of_same ((C1.out _).mono (fun e w' h => ⟨h.1, h.2.symm⟩)))
        | (go_at_call_of 47 (Value.int IntKind.i64 p); exact Calls.quiet_of_same ((C0.out _).mono (fun e w' h => ⟨h.1, h.2.symm⟩))))
      go_wp2_with fail
      refine bodyPost_ret (v := .tuple #[.agg #[.bool false, .bool false, .int .i64 0, .int .i64 0], .bool false]) ?_ rfl ⟨rfl, ?_⟩
      · simp [results, Tryz.results117, go_sem, yc, yf]
      exact ((((below_drewN' S.out.bel _).setCell (by simp; omega) _).setCell (by simp; omega) _).setCell (by simp; omega) _).setCell (by simp; omega) _
    · obtain ⟨q0, q1⟩ := inB_iff.1 d1
      clear d1
      rw [if_pos rfl] at hr
      simp only [Prod.mk.injEq] at hr
      obtain ⟨rfl, rfl, rfl, rfl, rfl⟩ := hr
      have hm : q.toNat < P.on := by omega
      have hmI : q < (P.on : Int) := by omega
      obtain ⟨b2, o2, e2, hl2, v0, v1, v2, v3⟩ := PO.out q.toNat hm
      replace v0 := keep HB.out v0 hl2
      replace v1 := keep HB.out v1 hl2
      replace v2 := keep HB.out v2 hl2
      replace v3 := keep HB.out v3 hl2
      generalize P.oq q.toNat = y0 at *
      generalize P.oi q.toNat = y1 at *
      generalize P.os q.toNat = y2 at *
      generalize P.od q.toNat = y3 at *
      rw [e2] at u2
      clear HB PO e2
      have S := cs_in w c
      go_enter Tryz.func117, Tryz.ntmps117
      go_wp2_with fail
      have S := cs_alloc (cs_alloc S (.cells #[.int .i64 p, .int .i64 q] 134)) (.cells #[.bool false, .bool false, .int .i64 0, .int .i64 0] 130)
      have bc := S.out.box.cell
      have X := Lib.hid ((box_new1 w (.cells #[.slice c.pa c.pn c.pc, .slice c.ca c.cn c.cc, .slice c.ma c.mn c.mc, .slice c.w.la c.w.ln c.w.lc, .slice c.w.na c.w.nn c.w.nc, .int .i64 c.w.sw, .int .i64 c.w.id, .int .i64 c.w.ch, .int .i64 c.w.qu, .int .i64 c.w.sl, .int .i64 c.w.pp, .slice c.da c.dn c.dc, .slice c.ua c.un c.uc] 33) #[.int .i64 p, .int .i64 q] 134).alloc (.cells #[.bool false, .bool false, .int .i64 0, .int .i64 0] 130))
      have Y := Lib.hid (box_new2 w (.cells #[.slice c.pa c.pn c.pc, .slice c.ca c.cn c.cc, .slice c.ma c.mn c.mc, .slice c.w.la c.w.ln c.w.lc, .slice c.w.na c.w.nn c.w.nc, .int .i64 c.w.sw, .int .i64 c.w.id, .int .i64 c.w.ch, .int .i64 c.w.qu, .int .i64 c.w.sl, .int .i64 c.w.pp, .slice c.da c.dn c.dc, .slice c.ua c.un c.uc] 33) (.cells #[.int .i64 p, .int .i64 q] 134) #[.bool false, .bool false, .int .i64 0, .int .i64 0] 130)
      have xc := X.out.cell
      have yc := Y.out.cell
      have yf := Y.out.frozen
      generalize ((w.alloc (.cells #[.slice c.pa c.pn c.pc, .slice c.ca c.cn c.cc, .slice c.ma c.mn c.mc, .slice c.w.la c.w.ln c.w.lc, .slice c.w.na c.w.nn c.w.nc, .int .i64 c.w.sw, .int .i64 c.w.id, .int .i64 c.w.ch, .int .i64 c.w.qu, .int .i64 c.w.sl, .int .i64 c.w.pp, .slice c.da c.dn c.dc, .slice c.ua c.un c.uc] 33)).alloc (.cells #[.int .i64 p, .int .i64 q] 134)).alloc (.cells #[.bool false, .bool false, .int .i64 0, .int .i64 0] 130) = W at *
      rw [ea.out] at bc
      clear ea
      go_quiet (first
        | (go_at_call_of 47 (Value.int IntKind.i64 q); exact Calls.quiet_of_same ((C1.out _).mono (fun e w' h => ⟨h.1, h.2.symm⟩)))
        | (go_at_call_of 47 (Value.int IntKind.i64 p); exact Calls.quiet_of_same ((C0.out _).mono (fun e w' h => ⟨h.1, h.2.symm⟩))))
      go_wp2_with fail
      have SK := Lib.hid (fun (w' : World) (h : Below (w.heap.size + 1 + 1) (W.drewN nq) w') => show (∀ i, w'.cell? ⟨w.heap.size, i, none⟩ = (#[.slice (some ⟨b, off, none⟩) c.pn c.pc, .slice c.ca c.cn c.cc, .slice c.ma c.mn c.mc, .slice c.w.la c.w.ln c.w.lc, .slice c.w.na c.w.nn c.w.nc, .int .i64 c.w.sw, .int .i64 c.w.id, .int .i64 c.w.ch, .int .i64 c.w.qu, .int .i64 c.w.sl, .int .i64 c.w.pp, .slice c.da c.dn c.dc, .slice c.ua c.un c.uc] : Array Value)[i]?) ∧ (∀ i, w'.cell? ⟨w.heap.size + 1, i, none⟩ = (#[.int .i64 p, .int .i64 q] : Array Value)[i]?) ∧ w'.cell? ⟨b, off + p.toNat * 11 + 2, none⟩ = some (.slice (some ⟨b2, o2, none⟩) P.on P.oc) ∧ w'.cell? ⟨b2, o2 + q.toNat * 4, none⟩ = some (.bool y0) ∧ w'.cell? ⟨b2, o2 + q.toNat * 4 + 1, none⟩ = some (.bool y1) ∧ w'.cell? ⟨b2, o2 + q.toNat * 4 + 2, none⟩ = some (.int .i64 y2) ∧ w'.cell? ⟨b2, o2 + q.toNat * 4 + 3, none⟩ = some (.int .i64 y3) from
        have K := fun (a : Addr) (hb : a.block < w.heap.size + 1 + 1) => (World.cell?_of_block (w := W) (w' := w') (a := a) (h.block a.block hb))
        ⟨fun i => (K _ (by show w.heap.size < _; omega)).trans (bc i), fun i => (K _ (by show w.heap.size + 1 < _; omega)).trans (xc i), (K _ (by show b < _; omega)).trans u2, (K _ (by show b2 < _; omega)).trans v0, (K _ (by show b2 < _; omega)).trans v1, (K _ (by show b2 < _; omega)).trans v2, (K _ (by show b2 < _; omega)).trans v3⟩)
      have yc : ∀ i, (W.drewN nq).drew.cell? ⟨w.heap.size + 1 + 1, i, none⟩ = (#[.bool false, .bool false, .int .i64 0, .int .i64 0] : Array Value)[i]? := yc
      have yf : ∀ i, (W.drewN nq).drew.frozen? ⟨w.heap.size + 1 + 1, i, none⟩ = false := yf
      have HBW := Lib.hid ((Below.refl (w.heap.size + 1 + 1) (W.drewN nq)).drew)
      clear bc xc u2 v0 v1 v2 v3
      go_region_held3 (fun w' => (∀ i, w'.cell? ⟨w.heap.size, i, none⟩ = (#[.slice (some ⟨b, off, none⟩) c.pn c.pc, .slice c.ca c.cn c.cc, .slice c.ma c.mn c.mc, .slice c.w.la c.w.ln c.w.lc, .slice c.w.na c.w.nn c.w.nc, .int .i64 c.w.sw, .int .i64 c.w.id, .int .i64 c.w.ch, .int .i64 c.w.qu, .int .i64 c.w.sl, .int .i64 c.w.pp, .slice c.da c.dn c.dc, .slice c.ua c.un c.uc] : Array Value)[i]?) ∧ (∀ i, w'.cell? ⟨w.heap.size + 1, i, none⟩ = (#[.int .i64 p, .int .i64 q] : Array Value)[i]?) ∧ w'.cell? ⟨b, off + p.toNat * 11 + 2, none⟩ = some (.slice (some ⟨b2, o2, none⟩) P.on P.oc) ∧ w'.cell? ⟨b2, o2 + q.toNat * 4, none⟩ = some (.bool y0) ∧ w'.cell? ⟨b2, o2 + q.toNat * 4 + 1, none⟩ = some (.bool y1) ∧ w'.cell? ⟨b2, o2 + q.toNat * 4 + 2, none⟩ = some (.int .i64 y2) ∧ w'.cell? ⟨b2, o2 + q.toNat * 4 + 3, none⟩ = some (.int .i64 y3))
        (exact SK.out _ (by repeat (first | exact HBW.out | refine Below.setCell ?_ (by simp) _)))
        (fail)
      go_wp2_with fail
      have yc : ∀ i, (W.drewN (nq + 1)).cell? ⟨w.heap.size + 1 + 1, i, none⟩ = (#[.bool false, .bool false, .int .i64 0, .int .i64 0] : Array Value)[i]? := yc
      have yf : ∀ i, (W.drewN (nq + 1)).frozen? ⟨w.heap.size + 1 + 1, i, none⟩ = false := yf
      refine bodyPost_ret (v := .tuple #[.agg #[.bool y0, .bool y1, .int .i64 y2, .int .i64 y3], .bool true]) ?_ rfl ⟨rfl, ?_⟩
      · simp [results, Tryz.results117, go_sem, yc, yf]
      exact ((((below_drewN' S.out.bel _).drew.setCell (by simp; omega) _).setCell (by simp; omega) _).setCell (by simp; omega) _).setCell (by simp; omega) _
end Go.Proofs.YtlafeijkpnpdeaaGreat.Vcf

/- Package valid: Channel. -/
namespace Go.Proofs.YtlafeijkpnpdeaaGreat.Vch
open Go.RowKit Base Kit Conf Conf2 PowA PowB Vfa Vfb Val Vld Vpa Vpr Short Vcf
set_option linter.unusedVariables false
set_option linter.unusedSimpArgs false
theorem end_eq (a b x y : Int) (w : World) : (binOp .eql 134 (.agg #[.int .i64 a, .int .i64 b]) (.agg #[.int .i64 x, .int .i64 y])).run Tryz.prog w = .ok (.bool (a == x && b == y)) w := by
  have h1 : Tryz.prog.underlying 134 = some (.struct (Tryz.prog.fieldsOf 134)) := by kernel_rfl
  have h2 : Tryz.prog.stoodInHeld 134 = false := by kernel_rfl
  rw [run_eql_struct, run_equalIn_struct w 9999 _ _ _ h1 h2]
  unfold Program.fieldsOf
  rw [Tryz.underlying134]
  simp [go_sem, run_equalIn_int (P := Tryz.prog) _ 9998 3 .i64 .i64 _ _ Tryz.underlying3]
  all_goals (by_cases h : a = x <;> by_cases h' : b = y <;> simp_all)

/-- may two channels stand side by side? -/
def cl (aq : Bool) (y0 y1 y2 y3 x0 x1 x2 x3 : Int) : Bool := (y2 == x2 && y3 == x3) || (aq && (y0 == x0 && y1 == x1))
def clB (f : Nat → Nat → Int) (aq : Bool) (k j : Nat) : Bool := !cl aq (f j 0) (f j 1) (f j 2) (f j 3) (f k 0) (f k 1) (f k 2) (f k 3)
set_option maxHeartbeats 1000000 in
theorem clash_any (aq ai : Bool) (az ad y0 y1 y2 y3 x0 x1 x2 x3 : Int) (bx ba : Nat) (r : Bool) (w : World) (hx : Hid (Box w bx #[.int .i64 x0, .int .i64 x1, .int .i64 x2, .int .i64 x3] 136)) (ha : Hid (Box w ba #[.bool aq, .bool ai, .int .i64 az, .int .i64 ad] 130)) (hr : Hid (cl aq y0 y1 y2 y3 x0 x1 x2 x3 = r)) :
    Calls Tryz.prog 119 #[.agg #[.int .i64 y0, .int .i64 y1, .int .i64 y2, .int .i64 y3], .pointer (some ⟨bx, 0, none⟩), .pointer (some ⟨ba, 0, none⟩)] w fun e w' => e = .returned (.bool r) ∧ Below w.heap.size w w' := by
  have xc := (hx.out.alloc (.cells #[.int .i64 y0, .int .i64 y1, .int .i64 y2, .int .i64 y3] 136)).cell
  have ac := (ha.out.alloc (.cells #[.int .i64 y0, .int .i64 y1, .int .i64 y2, .int .i64 y3] 136)).cell
  have hr := hr.out
  have f1 := fun w => end_eq y2 y3 x2 x3 w
  have f2 := fun w => end_eq y0 y1 x0 x1 w
  unfold cl at hr
  generalize (y2 == x2 && y3 == x3) = e1 at *
  generalize (y0 == x0 && y1 == x1) = e2 at *
  cases e1
  · cases aq
    · obtain rfl : r = false := by simpa using hr.symm
      go_enter Tryz.func119, Tryz.ntmps119
      go_wp2_with fail
      go_ret
      exact ⟨rfl, (Below.refl _ _).alloc (Nat.le_refl _) _⟩
    · obtain rfl : r = e2 := by simpa using hr.symm
      go_enter Tryz.func119, Tryz.ntmps119
      go_wp2_with fail
      go_ret
      exact ⟨rfl, (Below.refl _ _).alloc (Nat.le_refl _) _⟩
  · obtain rfl : r = true := by simpa using hr.symm
    go_enter Tryz.func119, Tryz.ntmps119
    go_wp2_with fail
    go_ret
    exact ⟨rfl, (Below.refl _ _).alloc (Nat.le_refl _) _⟩
set_option maxHeartbeats 2000000 in
theorem index_chan (a : Option Addr) (n c : Nat) (f : Nat → Nat → Int) (P : Nat → Bool) (h : FuncId) (caps : Array Value) (r : Int) (w : World) (hrow : Hid (Open.RowsIn w a n 4 f)) (hen : ∀ args w, (callFunc h args).run Tryz.prog w = .ok (.enter h args) w)
    (hcl : Hid (∀ k wr, k < n → Below w.heap.size w wr → Calls Tryz.prog h (#[.agg #[.int .i64 (f k 0), .int .i64 (f k 1), .int .i64 (f k 2), .int .i64 (f k 3)]] ++ caps) wr fun e w' => e = .returned (.bool (!P k)) ∧ Below wr.heap.size wr w')) (hr : Hid (frI P n = r)) :
    Calls Tryz.prog 135 #[.slice a n c, .func (.func h) #[] caps] w fun e w' => e = .returned (.int .i64 r) ∧ Below w.heap.size w w' := by
  have hn := hrow.out.1
  go_enter Tryz.func135, Tryz.ntmps135
  go_wp2_with fail
  go_loopw [8] (fun i wr => ∃ k : Nat, k ≤ n ∧ i = .int .i64 k ∧ Hid (∀ j, j < k → P j = true) ∧ Hid (Below w.heap.size w wr)) (fun i _ => n - (intOf i).toNat)
  case atStart => exact ⟨0, by omega, rfl, Lib.hid (fun j hj => by omega), Lib.hid (Below.refl _ _)⟩
  case round =>
    obtain ⟨k, hk, rfl, HL, HB⟩ := hrel
    by_cases hlt : k < n
    · obtain ⟨b, off, rfl, hbl, c0, c1, c2, c3, _, _, _, _⟩ := rows_at4 hrow k hlt
      replace c0 := keep HB.out c0 hbl
      replace c1 := keep HB.out c1 hbl
      replace c2 := keep HB.out c2 hbl
      replace c3 := keep HB.out c3 hbl
      obtain ⟨v, hv⟩ : ∃ v, P k = v := ⟨_, rfl⟩
      have HV := Lib.hid hv
      have C := hcl.out k _ hlt HB.out
      rw [hv] at C
      replace C := Lib.hid C
      clear hv
      generalize f k 0 = y0 at *
      generalize f k 1 = y1 at *
      generalize f k 2 = y2 at *
      generalize f k 3 = y3 at *
      cases v
      · go_wp2_with fail
        refine C.out.mono ?_
        rintro e1 w5 ⟨rfl, k5⟩
        have HB5 := Lib.hid (below_next HB.out k5)
        clear k5
        go_wp2_with fail
        go_ret
        refine ⟨Kit.ret_int ?_, HB5.out⟩
        have e := hr.out
        unfold frI at e
        rw [fb_hit HL.out HV.out n hlt, if_pos hlt] at e
        exact e
      · go_wp2_with fail
        refine C.out.mono ?_
        rintro e1 w5 ⟨rfl, k5⟩
        have HB5 := Lib.hid (below_next HB.out k5)
        clear k5
        go_wp2_with fail
        go_roundw
        case rel => exact ⟨k + 1, by omega, by go_num, Lib.hid (fun j hj => by
          by_cases e : j = k
          · subst e; exact HV.out
          · exact HL.out j (by omega)), HB5⟩
        case measure => simp [intOf]; omega
    · obtain rfl : k = n := by omega
      go_wp2_with fail
      go_ret
      refine ⟨Kit.ret_int ?_, HB.out⟩
      have e := hr.out
      unfold frI at e
      rw [fb_all k HL.out, if_neg (by omega)] at e
      exact e
theorem contains_chan (a : Option Addr) (n c : Nat) (f : Nat → Nat → Int) (P : Nat → Bool) (h : FuncId) (caps : Array Value) (r : Bool) (w : World) (hrow : Hid (Open.RowsIn w a n 4 f)) (hen : ∀ args w, (callFunc h args).run Tryz.prog w = .ok (.enter h args) w)
    (hcl : Hid (∀ k wr, k < n → Below w.heap.size w wr → Calls Tryz.prog h (#[.agg #[.int .i64 (f k 0), .int .i64 (f k 1), .int .i64 (f k 2), .int .i64 (f k 3)]] ++ caps) wr fun e w' => e = .returned (.bool (!P k)) ∧ Below wr.heap.size wr w')) (hr : Hid (decide (fb P n = n) = r)) :
    Calls Tryz.prog 118 #[.slice a n c, .func (.func h) #[] caps] w fun e w' => e = .returned (.bool (!r)) ∧ Below w.heap.size w w' := by
  have hr := hr.out
  obtain ⟨z, hz⟩ : ∃ z, frI P n = z := ⟨_, rfl⟩
  have C := Lib.hid (index_chan a n c f P h caps z w hrow hen hcl (Lib.hid hz))
  have zr := fr_neg hz hr
  clear hz hr hrow hen hcl
  rcases zr with ⟨hz, rfl⟩ | ⟨hz, rfl⟩
  all_goals
    go_enter Tryz.func118, Tryz.ntmps118
    go_wp2_with fail
    refine C.out.mono ?_
    rintro e1 w5 ⟨rfl, k5⟩
    have HB := Lib.hid k5
    clear k5
    go_wp2_with fail
    go_ret
    refine ⟨ret_bool ?_, HB.out⟩
    first | rfl | (simp; done) | (simp; omega)
end Go.Proofs.YtlafeijkpnpdeaaGreat.Vch

/- Package valid: numbered. -/
namespace Go.Proofs.YtlafeijkpnpdeaaGreat.Vnu
open Go.RowKit Base Kit Conf Conf2 PowA PowB Vfa Vfb Val Vld Vpa Vpr Short Vcf
set_option linter.unusedVariables false
set_option linter.unusedSimpArgs false
def zP (E : Nat → Int) (j : Nat) : Bool := decide (E j = 0)
def nuR (E : Nat → Int) (n : Nat) : Int × Int := if fb (zP E) n < n then (E (fb (zP E) n), (fb (zP E) n : Int)) else (0, 0)
theorem nu_hit {E : Nat → Int} {n k : Nat} (hk : k < n) (h1 : ∀ j, j < k → zP E j = true) (h2 : E k ≠ 0) : nuR E n = (E k, (k : Int)) := by
  unfold nuR
  rw [fb_hit h1 (by unfold zP; exact decide_eq_false h2) n hk, if_pos hk]
theorem nu_all {E : Nat → Int} {n : Nat} (h1 : ∀ j, j < n → zP E j = true) : nuR E n = (0, 0) := by
  unfold nuR
  rw [fb_all n h1, if_neg (by omega)]
set_option maxHeartbeats 2000000 in
theorem numbered_any (n : Nat) (E : Nat → Int) (h : FuncId) (caps : Array Value) (er kr : Int) (w : World) (hn : n ≤ 1000) (hen : ∀ args w, (callFunc h args).run Tryz.prog w = .ok (.enter h args) w)
    (hcl : Hid (∀ k wr, k < n → Below w.heap.size w wr → Calls Tryz.prog h (#[.int .i64 (k : Int)] ++ caps) wr fun e w' => e = .returned (.int .i64 (E k)) ∧ Below wr.heap.size wr w')) (hr : Hid (nuR E n = (er, kr))) :
    Calls Tryz.prog 48 #[.int .i64 (n : Int), .func (.func h) #[] caps] w fun e w' => e = .returned (.tuple #[.int .i64 er, .int .i64 kr]) ∧ Below w.heap.size w w' := by
  go_enter Tryz.func48, Tryz.ntmps48
  go_wp2_with fail
  go_loopw [9] (fun i wr => ∃ k : Nat, k ≤ n ∧ i = .int .i64 k ∧ Hid (∀ j, j < k → zP E j = true) ∧ Hid (Below w.heap.size w wr)) (fun i _ => n - (intOf i).toNat)
  case atStart => exact ⟨0, by omega, rfl, Lib.hid (fun j hj => by omega), Lib.hid (Below.refl _ _)⟩
  case round =>
    obtain ⟨k, hk, rfl, HL, HB⟩ := hrel
    by_cases hlt : k < n
    · obtain ⟨v, hv⟩ : ∃ v, E k = v := ⟨_, rfl⟩
      have HV := Lib.hid hv
      have C := hcl.out k _ hlt HB.out
      rw [hv] at C
      replace C := Lib.hid C
      clear hv
      by_cases hz : v = 0
      · have hb : (v != 0) = false := by rw [bne_eq_false_iff_eq]; exact hz
        have HZ := Lib.hid hz
        clear hz
        go_wp2_with fail
        refine C.out.mono ?_
        rintro e1 w5 ⟨rfl, k5⟩
        have HB5 := Lib.hid (below_next HB.out k5)
        clear k5
        go_wp2_with fail
        go_roundw
        case rel => exact ⟨k + 1, by omega, by go_num, Lib.hid (fun j hj => by
          by_cases e : j = k
          · subst e; unfold zP; rw [HV.out]; exact decide_eq_true HZ.out
          · exact HL.out j (by omega)), HB5⟩
        case measure => simp [intOf]; omega
      · have hb : (v != 0) = true := by rw [bne_iff_ne]; exact hz
        have HZ := Lib.hid hz
        clear hz
        go_wp2_with fail
        refine C.out.mono ?_
        rintro e1 w5 ⟨rfl, k5⟩
        have HB5 := Lib.hid (below_next HB.out k5)
        clear k5
        go_wp2_with fail
        go_ret2
        refine ⟨Kit.ret_pair ?_, HB5.out⟩
        rw [← hr.out, nu_hit hlt HL.out (by rw [HV.out]; exact HZ.out), HV.out]
    · obtain rfl : k = n := by omega
      go_wp2_with fail
      go_ret2
      refine ⟨Kit.ret_pair ?_, HB.out⟩
      rw [← hr.out, nu_all HL.out]
end Go.Proofs.YtlafeijkpnpdeaaGreat.Vnu

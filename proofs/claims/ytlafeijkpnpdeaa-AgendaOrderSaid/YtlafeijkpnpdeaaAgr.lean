/- The law AgendaOrder. -/
import Derived.Test.YtlafeijkpnpdeaaAgq1
import Derived.Test.YtlafeijkpnpdeaaAgq2
import Derived.Test.YtlafeijkpnpdeaaAgq3
namespace Go.Proofs.Ytlafeijkpnpdeaa.Agr
open Go.RowKit Base Kit Agq
theorem order_law (a : Option Addr) (n0 cp : Nat) (f : Nat → Int) (da : Option Addr) (dn dc : Nat) (df : Nat → Int) (w : World) (h : Hid (Open.RowsIn w a n0 1 (fun i _ => f i))) (hd : Hid (BytesIn w da dn df)) : Calls Try.prog 5 #[.slice a n0 cp, .slice da dn dc] w fun e w' => e = .returned (.bool true) ∧ Below w.heap.size w w' := by
  rcases (show n0 < 100 ∨ n0 = 100 ∨ 100 < n0 by omega) with c | c | c
  · exact Agq1.order_law a n0 cp f da dn dc df w c h hd
  · exact Agq2.order_law a n0 cp f da dn dc df w c h hd
  · exact Agq3.order_law a n0 cp f da dn dc df w c h hd
end Go.Proofs.Ytlafeijkpnpdeaa.Agr

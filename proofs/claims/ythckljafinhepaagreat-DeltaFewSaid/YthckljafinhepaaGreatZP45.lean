/-
  Rows of the call's own that are turned in place: what is left behind a delete.
-/
import Derived.Test.YthckljafinhepaaGreatZP4
import Derived.Lib.SliceRun
import Derived.Deep.Upon
import Derived.Deep.MidRow
import Derived.Deep.RegionLaw
namespace Go.Proofs.YthckljafinhepaaGreat
open Go.RowKit
theorem run_clear_row {P:Program} {w:World} (t e ty:TypeId) (z:Value) (zs:List Value) (ht:P.underlying t=some (.slice e)) (hv:∀ w,(zeroValue e).run P w=.ok z w) (hz:(Builtin.zeroCells z.cells 1).toList=zs) (h1:∀ u∈zs,u.oneCell'=true) (b o c:Nat)
  (hc:∀ j,j < zs.length→(w.cell? ⟨b,o + j,none⟩).isSome=true) (hf:∀ j,j < zs.length→w.frozen? ⟨b,o + j,none⟩=false) :
  (Builtin.clear_ #[t] ty #[.slice (some ⟨b,o,none⟩) 1 c]).run P w=.ok (.tuple #[]) (w.setCells b o zs):=by
 have hst:=run_storeCells_cells (P:=P) b o zs 0 w (by simpa using hc) (by simpa using hf) h1
 simp only [Nat.add_zero] at hst
 simp [Builtin.clear_,run_underlying ht,hv,hz,hst]
end Go.Proofs.YthckljafinhepaaGreat

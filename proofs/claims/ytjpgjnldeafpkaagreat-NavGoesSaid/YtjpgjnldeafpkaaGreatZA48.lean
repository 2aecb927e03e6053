/-
  slices.Clone at facts: a row of the caller's own.
-/
import Derived.Test.YtjpgjnldeafpkaaGreatZA4
import Derived.Test.YtjpgjnldeafpkaaGreatZA5
import Derived.Test.YtjpgjnldeafpkaaGreatZA28
namespace Go.Proofs.YtjpgjnldeafpkaaGreat
open Go.RowKit
theorem rs_sl {h:Vw} {k:Nat} {v:Value} {l:List (List Value)} (r:RS h k v l):Sl h.w k v l:=by
 rcases r with r | ⟨b,off,cap,e,h1,h2,hb,-,hc⟩
 ·exact .inl r
 ·exact .inr ⟨b,off,cap,e,h1,h2,hb,fun i r hi j u hj=>hc i r hi j u hj⟩
end Go.Proofs.YtjpgjnldeafpkaaGreat

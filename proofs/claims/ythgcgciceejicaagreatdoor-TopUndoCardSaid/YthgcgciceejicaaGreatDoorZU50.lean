/-
  How a walk by certificates ends a law.
-/
import Derived.Test.YthgcgciceejicaaGreatDoorZU47
namespace Go.Proofs.YthgcgciceejicaaGreatDoor
open Go.RowKit
theorem RS.of_sl {w:World} {k:Nat} {v:Value} {l:List (List Value)} (h:Sl w k v l):RS ⟨w,[]⟩ k v l:=by
 rcases h with h | ⟨b,off,cap,e,h1,h2,hb,hc⟩
 ·exact .inl h
 ·exact .inr ⟨b,off,cap,e,h1,h2,hb,by simp,λi r hi j u hj=>hc i r hi j u hj⟩
theorem RawsOf.rs {w:World} {v:Value} {l:List RawD} (h:RawsOf w v l):RS ⟨w,[]⟩ 4 v (l.map RawD.cs):=RS.of_sl h.1
end Go.Proofs.YthgcgciceejicaaGreatDoor

/-
  A block of the call's own held beside a row that grows.
-/
import Derived.Test.YtjpgjnldeafpkaaEvo
import Derived.Deep.RegionHeld3
namespace Go.Proofs.Ytjpgjnldeafpkaa
open Go.RowKit

/-- W has come of w, and the block B holds vs. -/
structure Hold (w : World) (B : Nat) (vs : List Value) (W : World) : Prop where
  evo : Evo w W
  box : Box W B vs

theorem Hold.to {w : World} {B : Nat} {vs : List Value} {W W' : World} (h : Hold w B vs W) (k : Evo W W') : Hold w B vs W' := ⟨h.evo.trans k, h.box.keep k.below⟩
theorem Hold.cell {w : World} {B : Nat} {vs : List Value} {W : World} (h : Hold w B vs W) (i : Nat) (v : Value) (hv : vs[i]? = some v) : W.cell? ⟨B, i, none⟩ = some v := h.box.cells i v hv
theorem Hold.grown {w : World} {B : Nat} {vs : List Value} {W W' : World} (h : Hold w B vs W) {v : Value} (hg : W.grownBy W' v.ownBlock) (hne : v.ownBlock ≠ some B) (hE : Evo w W') : Hold w B vs W' := by
  refine ⟨hE, Nat.lt_of_lt_of_le h.box.lt hg.size, fun i u hu => ?_, fun i => ?_⟩
  · rw [World.cell?_of_block (w := W) (hg.block B h.box.lt (fun e => hne e.symm))]
    exact h.box.cells i u hu
  · rw [World.frozen?_of_block (w := W) (hg.block B h.box.lt (fun e => hne e.symm))]
    exact h.box.free i

theorem Own.ne {w : World} {base : Nat} {e : TypeId} {size : Nat} {v : Value} {n : Nat} {xs : List Value} (h : Own w base e size v n xs) {B : Nat} (hB : w.heap.size ≤ B) : v.ownBlock ≠ some B := fun k => by
  have := (h.own.lt B k).2; omega

/-- append of rows, as a step of a region that draws; what grows is told. -/
theorem step_append_rows' {P : Program} {ops : Array Oper} {o : Oper} {a : Act} {w : World} {K : Act → World → Prop} {Q : Exit → Act → World → Prop} {E : Prop} (hgd : o.guard = none) (s x : Operand) (t : TypeId)
    (ho : o.op = .call { callee := .builtin .append, args := #[s, x], argTypes := #[t, t] })
    (e : TypeId) (z : Value) (k bytes : Nat) (ht : P.underlying t = some (.slice e)) (hinfo : (P.info? e).map (fun i => (i.zero, i.size, i.bytes)) = some (some z, k, bytes)) (hzs : z.cells.size = k) (hsz : 0 < k)
    (y : World) (hE : Evo y w) (l m : List (List Value)) (v sv : Value) (hs : a.eval s = v) (hx : a.eval x = sv) (hown : Own w y.heap.size e k v l.length l.flatten) (hsrc : Sl w k sv m) (hk : Len k m) (h1 : One m)
    (h63 : l.length + m.length ≤ 9223372036854775807) (hbytes : (l.length + m.length) * bytes ≤ 140737488355328)
    (h : ∀ v' w', Own w' y.heap.size e k v' (l ++ m).length (l ++ m).flatten → Evo y w' → w.grownBy w' v.ownBlock → K (a.put o.dst v') w') : if Region.wanted o (yielded ops a.tmps) = true then Oper.wp P o a w K Q else E := by
  have hw : Region.wanted o (yielded ops a.tmps) = true := by simp [Region.wanted, hgd]
  rw [if_pos hw]
  obtain ⟨v', w', hr, h2, h3, h4, -⟩ := run_append_rows (P := P) (w := w) t o.type e z k bytes ht hinfo hzs hsz y hE v sv l m hown hsrc hk h1 h63 hbytes
  unfold Oper.wp execOp
  simp only [ho, resolve, invoke, builtin, Sem.run_bind, Sem.run_pure, Result.andThen_ok, List.map_toArray, List.map_cons, List.map_nil, hs, hx, hr]
  exact h v' w' h2 h3 h4

end Go.Proofs.Ytjpgjnldeafpkaa

/-
  Contracts of package net: at.
-/
import Derived.Test.YtjpgjnldeafpkaaSlLtr
namespace Go.Proofs.Ytjpgjnldeafpkaa
open Go.RowKit

attribute [local go_sem] Evo.refl Evo.alloc Evo.drew Evo.drewN

@[reducible] def Ltr.val (x : Ltr) : Value := .agg #[.string x.f, .int .i64 x.id, .int .i64 x.kk, .int .i64 x.kn, .string x.ks, .int .i64 x.ak, .int .i64 x.an, .string x.as']

set_option maxRecDepth 100000 in
set_option maxHeartbeats 4000000 in
theorem net_at (v : Value) (l : List Ltr) (i : Nat) (x : Ltr) (w : World) (h : Sl w 8 v (lcs l)) (hl : l.length ≤ 24) (hok : ∀ x ∈ l, OkL x) (hi : l[i]? = some x) :
    Calls Try.prog 19 #[v, .int .i64 i] w (GivesE (.tuple #[x.val, .int .i64 0]) w) := by
  have hlt := (List.getElem?_eq_some_iff.1 hi).1
  obtain ⟨A, cap, rfl, hcap, -⟩ := h.form
  obtain ⟨b, off, rfl, hbl, hc⟩ := h.row (i := i) (r := x.cells) (by rw [List.getElem?_map, hi]; rfl)
  have c0 : ∀ W, Evo w W → W.cell? ⟨b, off + i * 8, none⟩ = some _ := hc 0 _ rfl
  have c1 : ∀ W, Evo w W → W.cell? ⟨b, off + i * 8 + 1, none⟩ = some _ := hc 1 _ rfl
  have c2 : ∀ W, Evo w W → W.cell? ⟨b, off + i * 8 + 2, none⟩ = some _ := hc 2 _ rfl
  have c3 : ∀ W, Evo w W → W.cell? ⟨b, off + i * 8 + 3, none⟩ = some _ := hc 3 _ rfl
  have c4 : ∀ W, Evo w W → W.cell? ⟨b, off + i * 8 + 4, none⟩ = some _ := hc 4 _ rfl
  have c5 : ∀ W, Evo w W → W.cell? ⟨b, off + i * 8 + 5, none⟩ = some _ := hc 5 _ rfl
  have c6 : ∀ W, Evo w W → W.cell? ⟨b, off + i * 8 + 6, none⟩ = some _ := hc 6 _ rfl
  have c7 : ∀ W, Evo w W → W.cell? ⟨b, off + i * 8 + 7, none⟩ = some _ := hc 7 _ rfl
  have HC := Lib.hid (fun W (hW : Evo w W) => net_check _ l W (h.at hW) hl hok)
  rw [List.length_map] at *
  have i0 : (0 : Int) ≤ (i : Int) := by omega
  have i1 : (i : Int) < (l.length : Int) := by omega
  have ex := (Evo.refl w).alloc (.cells #[.string ⟨#[]⟩, .int .i64 0, .int .i64 0, .int .i64 0, .string ⟨#[]⟩, .int .i64 0, .int .i64 0, .string ⟨#[]⟩] 36)
  have bx := Box.new w #[.string ⟨#[]⟩, .int .i64 0, .int .i64 0, .int .i64 0, .string ⟨#[]⟩, .int .i64 0, .int .i64 0, .string ⟨#[]⟩] 36
  have EX := Lib.hid ex
  have BX := Lib.hid bx
  clear h hok hi hc ex bx
  go_enter Try.func19, Try.ntmps19
  go_wp2_with fail
  with_reducible refine (HC.out _ EX.out).mono ?_
  rintro e u1 ⟨rfl, e1⟩
  have b1 := BX.out.keep e1.below
  have x0 := b1.cells 0 _ rfl
  have x1 := b1.cells 1 _ rfl
  have x2 := b1.cells 2 _ rfl
  have x3 := b1.cells 3 _ rfl
  have x4 := b1.cells 4 _ rfl
  have x5 := b1.cells 5 _ rfl
  have x6 := b1.cells 6 _ rfl
  have x7 := b1.cells 7 _ rfl
  have y0 := b1.free 0
  have y1 := b1.free 1
  have y2 := b1.free 2
  have y3 := b1.free 3
  have y4 := b1.free 4
  have y5 := b1.free 5
  have y6 := b1.free 6
  have y7 := b1.free 7
  have ew := EX.out.trans e1
  have EW := Lib.hid ew
  go_wp2_with fail
  refine bodyPost_ret (v := .tuple #[x.val, .int .i64 0]) (by simp [results, Try.results19, go_sem, x0, x1, x2, x3, x4, x5, x6, x7]) rfl ?_
  refine ⟨rfl, ?_⟩
  repeat (first | with_reducible refine Evo.set ?_ (Evo.refl _) _ _ | exact EW.out)

end Go.Proofs.Ytjpgjnldeafpkaa

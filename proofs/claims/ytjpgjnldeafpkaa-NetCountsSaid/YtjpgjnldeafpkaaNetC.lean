/-
  Contracts of package net: Lose, Answer, Come, Send.
-/
import Derived.Test.YtjpgjnldeafpkaaNetB
import Derived.Test.YtjpgjnldeafpkaaSlLtrD
namespace Go.Proofs.Ytjpgjnldeafpkaa
open Go.RowKit

attribute [local go_sem] Evo.refl Evo.alloc Evo.drew Evo.drewN

/-- Letters and no error; an error alone. -/
def LRows (l : List Ltr) (w : World) (e : Ending) (w' : World) : Prop := ∃ v, e = .returned (.tuple #[v, .int .i64 0]) ∧ Sl w' 8 v (lcs l) ∧ Evo w w'
/-- .. in memory of the call's own. -/
def LOwn (l : List Ltr) (w : World) (e : Ending) (w' : World) : Prop := ∃ v, e = .returned (.tuple #[v, .int .i64 0]) ∧ Own w' w.heap.size 36 8 v (lcs l).length (lcs l).flatten ∧ Evo w w'
def LErr (q : Int) (w : World) (e : Ending) (w' : World) : Prop := e = .returned (.tuple #[.slice none 0 0, .int .i64 q]) ∧ Evo w w'

theorem eraseIdx_map {α β : Type} (f : α → β) : ∀ (l : List α) (i : Nat), (l.map f).eraseIdx i = (l.eraseIdx i).map f
  | [], i => by simp
  | x :: l, 0 => by simp
  | x :: l, i + 1 => by
    have := eraseIdx_map f l i
    simp only [List.map_cons, List.eraseIdx_cons_succ] at this ⊢
    rw [this]

set_option maxRecDepth 100000 in
set_option maxHeartbeats 8000000 in
theorem net_lose (v : Value) (l : List Ltr) (i : Nat) (w : World) (h : Sl w 8 v (lcs l)) (hl : l.length ≤ 24) (hok : ∀ x ∈ l, OkL x) (hi : i < l.length) :
    Calls Try.prog 8 #[v, .int .i64 i] w (LOwn (l.eraseIdx i) w) := by
  obtain ⟨x, hx⟩ : ∃ x, l[i]? = some x := ⟨_, List.getElem?_eq_getElem hi⟩
  have HA := Lib.hid (net_at v l i x w h hl hok hx)
  have HL := Lib.hid (fun W (hW : Evo w W) => clone_ltr v (lcs l) W (h.at hW) (lcs_len _) (lcs_one _) (by simp; omega))
  have HE := Lib.hid (eraseIdx_map Ltr.cells l i)
  obtain ⟨p, hp⟩ : ∃ p, l.length = p + 1 := ⟨l.length - 1, by omega⟩
  have HP := Lib.hid (show (lcs l).length = p + 1 by simpa using hp)
  have hip : i ≤ p := by omega
  have hp2 : p ≤ 24 := by omega
  have hel : (l.eraseIdx i).length ≤ 24 := by rw [List.length_eraseIdx]; split <;> omega
  clear h hok hi hp hl hx
  go_enter Try.func8, Try.ntmps8
  go_wp2_with fail
  with_reducible refine (HA.out).mono ?_
  rintro e u1 ⟨rfl, e1⟩
  have ee := (Evo.refl u1).alloc (.cells #[.string x.f, .int .i64 x.id, .int .i64 x.kk, .int .i64 x.kn, .string x.ks, .int .i64 x.ak, .int .i64 x.an, .string x.as'] 36)
  have EE := Lib.hid (e1.trans ee)
  clear e1 ee
  go_wp2_with fail
  with_reducible refine (HL.out _ EE.out).mono ?_
  rintro e u3 ⟨v1, rfl, hown, e3⟩
  have hd := delete_ltr v1 (lcs l) i p u3 _ e3 hown (lcs_len _) (lcs_one _) HP.out hip (by omega)
  have HD := Lib.hid hd
  clear hd hown e3
  go_wp2_with fail
  with_reducible refine (HD.out).mono ?_
  rintro e u4 ⟨v2, rfl, hs, e5⟩
  rw [HE.out] at hs
  have hc := clone_ltr v2 (lcs (l.eraseIdx i)) u4 hs (lcs_len _) (lcs_one _) (by simp; omega)
  have HF := Lib.hid hc
  have E6 := Lib.hid (EE.out.trans e5)
  clear hc hs e5
  go_wp2_with fail
  with_reducible refine (HF.out).mono ?_
  rintro e u5 ⟨v3, rfl, hown, e7⟩
  have hf := Lib.hid (And.intro (hown.low E6.out.size) (E6.out.trans e7))
  clear hown e7
  go_wp2_with fail
  go_ret2
  exact ⟨_, rfl, hf.out⟩

/-- Another answer for letter i. -/
def Ltr.ans (x : Ltr) (k n : Int) (s : ByteArray) : Ltr := { x with ak := k, an := n, as' := s }

theorem sl_set {w : World} {g : Nat} {cap : Nat} {l : List Ltr} {i : Nat} {x : Ltr} {k n : Int} {s : ByteArray} (h : Sl w 8 (.slice (some ⟨g, 0, none⟩) l.length cap) (lcs l)) (hi : l[i]? = some x) :
    Sl (((w.setCell ⟨g, i * 8 + 5, none⟩ (.int .i64 k)).setCell ⟨g, i * 8 + 6, none⟩ (.int .i64 n)).setCell ⟨g, i * 8 + 7, none⟩ (.string s)) 8 (.slice (some ⟨g, 0, none⟩) l.length cap) (lcs (l.set i (x.ans k n s))) := by
  have hil := (List.getElem?_eq_some_iff.1 hi).1
  obtain ⟨b, off, e, hb, hc⟩ := h.row (i := i) (r := x.cells) (by rw [List.getElem?_map, hi]; rfl)
  simp only [Option.some.injEq, Addr.mk.injEq] at e
  obtain ⟨rfl, rfl, -⟩ := e
  obtain ⟨A, cap', e', h1, h2, -⟩ := h.form
  simp only [Value.slice.injEq] at e'
  obtain ⟨-, e1, rfl⟩ := e'
  rw [List.length_map] at h1
  refine .inr ⟨g, 0, cap, by simp, by simpa using h1, h2, by simpa [World.setCell] using hb, fun q r hq j u hj => ?_⟩
  rw [List.getElem?_map] at hq
  obtain ⟨y, hy, rfl⟩ := Option.map_eq_some_iff.1 hq
  have c5 := hc 5 _ rfl w (Evo.refl _)
  have c6 := hc 6 _ rfl w (Evo.refl _)
  have c7 := hc 7 _ rfl w (Evo.refl _)
  rw [Nat.zero_add] at c5 c6 c7 ⊢
  have ne : ∀ {a b : Nat}, a ≠ b → (⟨g, a, none⟩ : Addr) ≠ ⟨g, b, none⟩ := fun h k => h (by injection k)
  have jl : j < 8 := (List.getElem?_eq_some_iff.1 hj).1
  by_cases hqi : q = i
  · subst hqi
    rw [List.getElem?_set_self hil] at hy
    simp only [Option.some.injEq] at hy
    subst hy
    have old := fun (hj5 : j < 5) => hc j u (by
      match j, hj5, hj with
      | 0, _, hj => exact hj
      | 1, _, hj => exact hj
      | 2, _, hj => exact hj
      | 3, _, hj => exact hj
      | 4, _, hj => exact hj) w (Evo.refl _)
    rcases (by omega : j < 5 ∨ j = 5 ∨ j = 6 ∨ j = 7) with g5 | rfl | rfl | rfl
    · rw [World.cell?_setCell_other _ _ _ _ (ne (by omega)), World.cell?_setCell_other _ _ _ _ (ne (by omega)), World.cell?_setCell_other _ _ _ _ (ne (by omega))]
      have := old g5
      rwa [Nat.zero_add] at this
    · simp [Ltr.ans] at hj; subst hj
      rw [World.cell?_setCell_other _ _ _ _ (ne (by omega)), World.cell?_setCell_other _ _ _ _ (ne (by omega)), World.cell?_setCell_same _ _ _ c5]
    · simp [Ltr.ans] at hj; subst hj
      rw [World.cell?_setCell_other _ _ _ _ (ne (by omega)), World.cell?_setCell_same _ _ _ (by rw [World.cell?_setCell_other _ _ _ _ (ne (by omega))]; exact c6)]
    · simp [Ltr.ans] at hj; subst hj
      rw [World.cell?_setCell_same _ _ _ (by rw [World.cell?_setCell_other _ _ _ _ (ne (by omega)), World.cell?_setCell_other _ _ _ _ (ne (by omega))]; exact c7)]
  · rw [List.getElem?_set_ne (fun k => hqi k.symm)] at hy
    obtain ⟨b, off, e, -, hd⟩ := h.row (i := q) (r := y.cells) (by rw [List.getElem?_map, hy]; rfl)
    simp only [Option.some.injEq, Addr.mk.injEq] at e
    obtain ⟨rfl, rfl, -⟩ := e
    have := hd j u hj w (Evo.refl _)
    rw [Nat.zero_add] at this
    rw [World.cell?_setCell_other _ _ _ _ (ne (by omega)), World.cell?_setCell_other _ _ _ _ (ne (by omega)), World.cell?_setCell_other _ _ _ _ (ne (by omega))]
    exact this

end Go.Proofs.Ytjpgjnldeafpkaa

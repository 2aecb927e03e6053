/-
  Contract of slices.Delete at []api.Letter.
-/
import Derived.Test.YtjpgjnldeafpkaaSlLtr
namespace Go.Proofs.Ytjpgjnldeafpkaa
open Go.RowKit

set_option maxRecDepth 100000 in
set_option maxHeartbeats 4000000 in
theorem delete_ltr (v : Value) (l : List (List Value)) (i p : Nat) (w x : World) (hE : Evo x w) (h : Own w x.heap.size 36 8 v l.length l.flatten) (hk : Len 8 l) (h1 : One l) (hl : l.length = p + 1) (hi : i ≤ p) (hp : p ≤ 1000000) :
    Calls Try.prog 21 #[v, .int .i64 i, .int .i64 ((i : Int) + 1)] w (fun e w' => ∃ v', e = .returned v' ∧ Sl w' 8 v' (l.eraseIdx i) ∧ Evo x w') := by
  have hS := Sl.of_own hk h
  obtain ⟨h⟩ := h
  rcases h.2 with ⟨rfl, h0⟩ | ⟨g, cap, cur, rfl, hbg, hg, hn, hm, hs, ht⟩
  · omega
  rw [hl] at hn
  have hgl : g < w.heap.size := (Array.getElem?_eq_some_iff.1 hg).1
  -- the cells
  have hrow : ∀ q r, l[q]? = some r → ∀ j u, r[j]? = some u → w.cell? ⟨g, q * 8 + j, none⟩ = some u := by
    intro q r hq j u hj
    obtain ⟨b, off, e, hb, hc⟩ := hS.row hq
    simp only [Option.some.injEq, Addr.mk.injEq] at e
    obtain ⟨rfl, rfl, -⟩ := e
    have := hc j u hj w (Evo.refl _)
    rwa [Nat.zero_add] at this
  have hsome : ∀ W : World, W.heap[g]? = w.heap[g]? → ∀ o, o < cap * 8 → (W.cell? ⟨g, o, none⟩).isSome = true := by
    intro W hW o ho
    simp only [World.cell?, hW, hg]
    simp [hs, ho]
  have hfree : ∀ W : World, W.heap[g]? = w.heap[g]? → ∀ o, W.frozen? ⟨g, o, none⟩ = false := by
    intro W hW o
    simp only [World.frozen?, hW, hg]
    simp
  obtain ⟨A, hA⟩ : ∃ A, A = some (⟨g, 0, none⟩ : Addr) := ⟨_, rfl⟩
  have hS2 := hS
  rw [← hA] at hS2
  rw [hl] at hS2
  obtain ⟨A', eA, hd⟩ := hS2.drop' (i + 1) (by omega)
  have hdn : ∃ b off, A' = some ⟨b, off, none⟩ ∧ (∀ j u, (l.drop (i + 1)).flatten[j]? = some u → ∀ W, Evo w W → W.cell? ((⟨b, off, none⟩ : Addr).add j) = some u) := by
    rcases hd with ⟨A2, cap2, e, hA2, hm2, h0⟩ | ⟨b, off, cap', e, c1, c2, hb, hc⟩
    · rw [h0, ← eA, hA]
      by_cases hci : cap = i + 1
      · exact ⟨g, 0, by rw [if_pos hci], by simp⟩
      · exact ⟨g, 0 + (i + 1) * 8, by rw [if_neg hci]; simp [addr_add], by simp⟩
    · simp only [Value.slice.injEq] at e
      refine ⟨b, off, e.1, fun j u hj W hW => ?_⟩
      obtain ⟨q, r, m, e1, e2, e3⟩ := flat_split (k := 8) _ (fun r hr => hk r (List.mem_of_mem_drop hr)) j u hj
      have := hW.cell hb (hc q r e1 m u e2)
      rw [addr_add, e3, ← Nat.add_assoc]
      exact this
  obtain ⟨b', off', rfl, hsrc⟩ := hdn
  obtain ⟨i0, hi0, hz0, hz1, hz2⟩ := info_parts info_ltr
  have hnl : (l.drop (i + 1)).flatten.length = (p - i) * 8 := by rw [flat_len (k := 8) _ (fun r hr => hk r (List.mem_of_mem_drop hr)), List.length_drop, hl]; congr 1; omega
  have hone : ∀ u ∈ (l.drop (i + 1)).flatten, u.oneCell' = true := fun u hu => by
    obtain ⟨r, hr, hur⟩ := List.mem_flatten.1 hu
    exact h1 r (List.mem_of_mem_drop hr) u hur
  have hspare : ∀ j, j < (l.drop (i + 1)).flatten.length → (w.drew.cell? ⟨g, 0 + i * 8 + j, none⟩).isSome = true ∧ w.drew.frozen? ⟨g, 0 + i * 8 + j, none⟩ = false := fun j hj => by
    rw [hnl] at hj
    refine ⟨hsome w.drew rfl _ ?_, hfree w.drew rfl _⟩
    omega
  have X : Hid (∀ W, W = w.drew.setCells g (0 + i * 8) (l.drop (i + 1)).flatten → ∀ ty, (Builtin.clear_ #[23] ty #[.slice (some ⟨g, p * 8, none⟩) 1 (cap - p)]).run Try.prog W = .ok (.tuple #[]) (W.setCells g (p * 8) [.string ⟨#[]⟩, .int .i64 0, .int .i64 0, .int .i64 0, .string ⟨#[]⟩, .int .i64 0, .int .i64 0, .string ⟨#[]⟩])) := by
    intro W hW ty
    have zv : ∀ w, (zeroValue 36).run Try.prog w = .ok (.agg #[.string ⟨#[]⟩, .int .i64 0, .int .i64 0, .int .i64 0, .string ⟨#[]⟩, .int .i64 0, .int .i64 0, .string ⟨#[]⟩]) w := Try.zeroValue36
    refine run_clear_row _ _ ty _ [.string ⟨#[]⟩, .int .i64 0, .int .i64 0, .int .i64 0, .string ⟨#[]⟩, .int .i64 0, .int .i64 0, .string ⟨#[]⟩] Try.underlying23 zv (by kernel_rfl) (by simp [Value.oneCell']) _ _ _ (fun j hj => ?_) (fun j hj => ?_)
    · rw [hW]
      exact World.isSome_setCells g _ _ _ _ (hsome w.drew rfl _ (by simp at hj; omega))
    · rw [hW, World.frozen?_setCells]
      exact hfree w.drew rfl _
  have F : Hid (Sl ((w.drew.setCells g (0 + i * 8) (l.drop (i + 1)).flatten).setCells g (p * 8) [.string ⟨#[]⟩, .int .i64 0, .int .i64 0, .int .i64 0, .string ⟨#[]⟩, .int .i64 0, .int .i64 0, .string ⟨#[]⟩]) 8 (.slice (some ⟨g, 0, none⟩) p cap) (l.eraseIdx i) ∧ Evo x ((w.drew.setCells g (0 + i * 8) (l.drop (i + 1)).flatten).setCells g (p * 8) [.string ⟨#[]⟩, .int .i64 0, .int .i64 0, .int .i64 0, .string ⟨#[]⟩, .int .i64 0, .int .i64 0, .string ⟨#[]⟩])) := by
    have hel : (l.eraseIdx i).length = p := by rw [List.length_eraseIdx]; split <;> omega
    have hEv : Evo x ((w.drew.setCells g (0 + i * 8) (l.drop (i + 1)).flatten).setCells g (p * 8) [.string ⟨#[]⟩, .int .i64 0, .int .i64 0, .int .i64 0, .string ⟨#[]⟩, .int .i64 0, .int .i64 0, .string ⟨#[]⟩]) := (hE.drew.setCells hbg _ _).setCells hbg _ _
    refine ⟨.inr ⟨g, 0, cap, by rw [hel], by omega, hm, ?_, ?_⟩, hEv⟩
    · have h2 : Evo w ((w.drew.setCells g (0 + i * 8) (l.drop (i + 1)).flatten).setCells g (p * 8) [.string ⟨#[]⟩, .int .i64 0, .int .i64 0, .int .i64 0, .string ⟨#[]⟩, .int .i64 0, .int .i64 0, .string ⟨#[]⟩]) ∨ True := .inr trivial
      have : ∀ (vs : List Value) (o : Nat) (w : World), (w.setCells g o vs).heap.size = w.heap.size := by
        intro vs
        induction vs with
        | nil => intro o w; rfl
        | cons v r ih => intro o w; show ((w.setCell ⟨g, o, none⟩ v).setCells g (o + 1) r).heap.size = _; rw [ih]; simp [World.setCell]
      rw [this, this]; exact hgl
    · rw [Nat.zero_add]
      exact del_rows (w := w.drew) hk hl hi hrow [.string ⟨#[]⟩, .int .i64 0, .int .i64 0, .int .i64 0, .string ⟨#[]⟩, .int .i64 0, .int .i64 0, .string ⟨#[]⟩] rfl
  obtain ⟨W1, hW1⟩ : ∃ W1, W1 = w.drew.setCells g (0 + i * 8) (l.drop (i + 1)).flatten := ⟨_, rfl⟩
  have hcl := X.out W1 hW1
  have HW := Lib.hid hW1
  rw [← hW1] at F
  clear X hW1
  have HSR := Lib.hid hsrc
  have HNL := Lib.hid hnl
  have H1 := Lib.hid hone
  have HSP := Lib.hid hspare
  have HA := Lib.hid hA
  clear hsrc hnl hone hspare hsome hfree hrow hS2 hS hd ht hg h hs
  rw [← hA]
  clear hA
  have n0 : (0 : Int) ≤ (i : Int) := by omega
  have n1 : (i : Int) ≤ (p : Int) := by omega
  have n2 : (p : Int) + 1 ≤ (cap : Int) := by omega
  have n3 : ((i : Int) == (i : Int) + 1) = false := beq_eq_false_iff_ne.2 (by omega)
  have n6 : (i : Int) ≤ (cap : Int) := by omega
  have n7 : (i : Int) + 1 ≤ (p : Int) + 1 := by omega
  have n8 : (0 : Int) ≤ (i : Int) + 1 := by omega
  have n4 : ¬ cap = p := by omega
  have n5 : p + 1 - p = 1 := by omega
  rw [hl]
  go_enter Try.func21, Try.ntmps21
  go_wp2_with fail
  go_region_law (refine step_append_room rfl (.tmp 22) (.tmp 25) 23 rfl 36 i0 8 Try.underlying23 hi0 hz1 g 0 i cap (congrArg (fun A => Value.slice A i cap) HA.out) ⟨b', off', none⟩ _ _ (l.drop (i + 1)).flatten rfl (by first | exact HNL.out | (rw [HNL.out]; congr 1; omega)) (fun j u hj => HSR.out j u hj _ ((Evo.refl _).drew)) H1.out (by omega) HSP.out ?_; rw [← HW.out]; first | rw [show i + (p - i) = p from by omega] | rw [show i + (p + 1 - (i + 1)) = p from by omega])
  go_wp2_with fail
  go_ret
  exact ⟨_, rfl, F.out⟩

end Go.Proofs.Ytjpgjnldeafpkaa

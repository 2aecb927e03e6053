/-
  Fields that ask for each other in a ring, behind the laws' Form, in plain words.
-/
import Derived.Test.YtgjndkphfabnnaaRanked
namespace Go.Proofs.Ytgjndkphfabnnaa
open Go.RowKit
set_option linter.unusedVariables false

def rname (j : Nat) : ByteArray := ([⟨#[114, 49]⟩, ⟨#[114, 50]⟩, ⟨#[114, 51]⟩, ⟨#[114, 52]⟩] : List ByteArray).getD j ⟨#[]⟩
def ringF (m j : Nat) : Fd := ⟨rname j, 2, 1, refE (rname ((j + 1) % m))⟩
def ringL (m k : Nat) : List Fd := (List.range k).map (ringF m)
theorem ringL_snoc (m k : Nat) : ringL m (k + 1) = ringL m k ++ [ringF m k] := by unfold ringL; rw [List.range_succ, List.map_append]; rfl
def fsC (l : List RawD) (m : Nat) : List Fd := (formE l).fields ++ ringL m m
theorem rname_inj {i j : Nat} (hi : i < 4) (hj : j < 4) (h : rname i = rname j) : i = j := by
  have key : ∀ i, i < 4 → ∀ j, j < 4 → (rname i).data = (rname j).data → i = j := by decide
  exact key i hi j hj (congrArg ByteArray.data h)
theorem rname_new {i j : Nat} (hi : i < 10) (hj : j < 4) (h : fname i = rname j) : False := by
  have key : ∀ i, i < 10 → ∀ j, j < 4 → (fname i).data ≠ (rname j).data := by decide
  exact key i hi j hj (congrArg ByteArray.data h)
theorem rname_ok {j : Nat} (h : j < 4) : NameOk (rname j).data.toList := by
  have : j = 0 ∨ j = 1 ∨ j = 2 ∨ j = 3 := by omega
  rcases this with rfl | rfl | rfl | rfl <;> exact ⟨by decide, by decide, ⟨_, rfl, by decide⟩, by decide, by decide⟩
section
variable {l : List RawD} {m : Nat}
theorem fsC_len : (fsC l m).length = nFields l + m := by unfold fsC ringL; rw [List.length_append, form_len, List.length_map, List.length_range]
theorem fsC_old {i : Nat} (h : i < nFields l) : (fsC l m)[i]? = (formE l).fields[i]? := by unfold fsC; rw [List.getElem?_append_left (by rw [form_len]; exact h)]
theorem fsC_new {j : Nat} (h : j < m) : (fsC l m)[nFields l + j]? = some (ringF m j) := by
  unfold fsC ringL
  rw [List.getElem?_append_right (by rw [form_len]; omega), form_len, show nFields l + j - nFields l = j by omega, List.getElem?_map, List.getElem?_range h]; rfl
theorem fsC_nodup (hm : m ≤ 4) : ((fsC l m).map (·.name)).Nodup := by
  unfold fsC
  rw [List.map_append, List.nodup_append]
  refine ⟨form_nodup l, ?_, fun a ha b hb e => ?_⟩
  · unfold ringL
    rw [List.map_map]
    refine List.pairwise_map.2 (List.nodup_range.imp_of_mem ?_)
    intro a b ha hb hab e
    exact hab (rname_inj (by have := List.mem_range.1 ha; omega) (by have := List.mem_range.1 hb; omega) e)
  · obtain ⟨f, hf, rfl⟩ := List.mem_map.1 ha
    obtain ⟨g, hg, rfl⟩ := List.mem_map.1 hb
    obtain ⟨i, hi, he, -⟩ := form_each hf
    obtain ⟨j, hj, rfl⟩ := List.mem_map.1 hg
    exact rname_new hi (by have := List.mem_range.1 hj; omega) (he.symm.trans e)
theorem ring_ref (s : ByteArray) : refsE (refE s) = [s] := by
  rw [refsE_eq, if_pos (show (refE s).op = 2 from rfl)]
  show [s] ++ refsL [] = _
  simp [refsL]
theorem fsC_ok (h1 : 1 ≤ m) (hm : m ≤ 4) : OkFs (fsC l m) := by
  have hn := (nFields_le l).2.1
  refine ⟨fun f hf => ?_, fsC_nodup hm, by rw [fsC_len]; omega⟩
  rcases List.mem_append.1 hf with hf | hf
  · exact form_okF l (fsC l m) (fsC_nodup hm) (fun g hg => List.mem_append_left _ (form_mem.2 hg)) f (form_mem.1 hf)
  · obtain ⟨j, hj, rfl⟩ := List.mem_map.1 hf
    have hj := List.mem_range.1 hj
    have hk := Nat.mod_lt (j + 1) (show 0 < m by omega)
    obtain ⟨w1, w2⟩ := wf_leaf (refE_ok (rname_ok (j := (j + 1) % m) (by omega))) rfl
    refine ⟨rname_ok (by omega), show (1 : Int) ≤ 2 by decide, show (2 : Int) ≤ 3 by decide, show (1 : Int) ≤ 1 by decide, show (1 : Int) ≤ 3 by decide, fun h => absurd h (show ¬ (2 : Int) = 1 by decide), fun _ => ⟨w1, ?_, ?_⟩, fun _ => ?_, fun h => absurd h (show ¬ (2 : Int) = 3 by decide)⟩
    · show (szE (refE _)).1 ≤ 60
      rw [w2]; decide
    · show chkE (refE _) = 0
      unfold chkE; rw [w2]; rfl
    · show tyE (tyF (fsC l m)) (refE (rname ((j + 1) % m))) = (1, 0)
      have ht : tyF (fsC l m) (ringF m ((j + 1) % m)).name = some (ringF m ((j + 1) % m)).ty := tyF_mem (fsC_nodup hm) _ (List.mem_of_getElem? (fsC_new hk))
      rw [tyE_eq, if_neg (show ¬ (refE (rname ((j + 1) % m))).op = 1 from (show ¬ (2 : Int) = 1 by decide)), if_pos (show (refE (rname ((j + 1) % m))).op = 2 from rfl)]
      have ht' : tyF (fsC l m) (refE (rname ((j + 1) % m))).nm = some 1 := ht
      rw [ht']
theorem plc_new (hm : m ≤ 4) {j : Nat} (h : j < m) : plc (fsC l m) (rname j) = nFields l + j := by
  unfold plc
  rw [show rname j = (ringF m j).name from rfl, findF_at (fsC_nodup hm) (fsC_new h)]; rfl
theorem need_new (h1 : 1 ≤ m) (hm : m ≤ 4) {j : Nat} (h : j < m) : (needsE (fsC l m)).getD (nFields l + j) [] = [nFields l + (j + 1) % m] := by
  unfold needsE
  rw [List.getD_eq_getElem?_getD, List.getElem?_map, fsC_new h]
  show needE (fsC l m) (ringF m j) = _
  unfold needE
  rw [if_neg (show ¬ (ringF m j).kind = 1 from (show ¬ (2 : Int) = 1 by decide))]
  show (namesE (refE (rname ((j + 1) % m)))).map _ = _
  rw [names_one (ring_ref _), List.map_singleton, plc_new hm (Nat.mod_lt _ (by omega))]
theorem need_old (hm : m ≤ 4) {i : Nat} (h : i < nFields l) : (needsE (fsC l m)).getD i [] = (needsE (formE l).fields).getD i [] := by
  unfold needsE
  obtain ⟨f, hf, -, hrefs⟩ := form_get l h
  rw [List.getD_eq_getElem?_getD, List.getD_eq_getElem?_getD, List.getElem?_map, List.getElem?_map, fsC_old h, hf]
  show needE (fsC l m) f = needE (formE l).fields f
  unfold needE
  split
  · rfl
  · refine List.map_congr_left fun s hs => ?_
    obtain ⟨j, hj, rfl⟩ := hrefs s (mem_namesE.1 hs)
    obtain ⟨i', hi', e'⟩ := lvF_sur l (j := j) (by have := lvF_lt l h; omega)
    obtain ⟨g, hg, hgn, -⟩ := form_get l hi'
    rw [e'] at hgn
    unfold plc
    rw [← hgn, findF_at (form_nodup l) hg, findF_at (fsC_nodup hm) ((fsC_old hi').trans hg)]
end

/-! ### Their ranks -/
section
variable {need need1 : List (List Nat)} {out out1 : List Int} {N m : Nat}
/-- The first N go by themselves. -/
structure Alone (need need1 : List (List Nat)) (N : Nat) : Prop where
  len : need1.length = N
  le : N ≤ need.length
  same : ∀ i, i < N → need.getD i [] = need1.getD i []
  low : ∀ i, i < N → ∀ k ∈ need1.getD i [], k < N
structure Same (need : List (List Nat)) (N : Nat) (out out1 : List Int) : Prop where
  len : out.length = need.length
  len1 : out1.length = N
  at_ : ∀ k, k < N → out.getD k 0 = out1.getD k 0
theorem mostA_same : ∀ (l : List Nat) (a : Int), (∀ k ∈ l, out.getD k 0 = out1.getD k 0) → mostA out a l = mostA out1 a l
  | [], a, _ => rfl
  | k :: l, a, h => by
    rw [mostA_cons, mostA_cons, h k (by simp)]
    split
    · rfl
    · exact mostA_same l _ fun k' hk' => h k' (by simp [hk'])
theorem Same.step (hA : Alone need need1 N) (h : Same need N out out1) {i : Nat} (hi : i < N) : Same need N (rkStep need out i) (rkStep need1 out1 i) := by
  have hl := hA.le
  have e : mostA out 0 (need.getD i []) = mostA out1 0 (need1.getD i []) := by
    rw [hA.same i hi]
    exact mostA_same _ _ fun k hk => h.at_ k (hA.low i hi k hk)
  unfold rkStep
  refine ⟨by rw [List.length_set]; exact h.len, by rw [List.length_set]; exact h.len1, fun k hk => ?_⟩
  rw [getD_set (by rw [h.len]; omega), getD_set (by rw [h.len1]; omega), e, h.at_ i hi, h.at_ k hk]
theorem Same.past (hA : Alone need need1 N) (h : Same need N out out1) {i : Nat} (hi : N ≤ i) (hi2 : i < need.length) : Same need N (rkStep need out i) out1 := by
  unfold rkStep
  refine ⟨by rw [List.length_set]; exact h.len, h.len1, fun k hk => ?_⟩
  rw [getD_set (by rw [h.len]; omega), if_neg (by omega), h.at_ k hk]
theorem Same.round (hA : Alone need need1 N) (h : Same need N out out1) : ∀ i, i ≤ N → Same need N (roundR need out i) (roundR need1 out1 i)
  | 0, _ => h
  | i + 1, hi => (Same.round hA h i (by omega)).step hA (by omega)
theorem Same.more (hA : Alone need need1 N) (h : Same need N out out1) : ∀ j, N + j ≤ need.length → Same need N (roundR need out (N + j)) (roundR need1 out1 N)
  | 0, _ => h.round hA N (Nat.le_refl _)
  | j + 1, hj => by
    show Same need N (rkStep need (roundR need out (N + j)) (N + j)) _
    exact (Same.more hA h j (by omega)).past hA (by omega) (by omega)
theorem same_ranks (hA : Alone need need1 N) : ∀ t, Same need N (ranksR need t) (ranksR need1 t)
  | 0 => by
    have := hA.le
    refine ⟨ranks_len _ _, by rw [ranks_len, hA.len], fun k hk => ?_⟩
    rw [ranksR, ranksR, List.getD_eq_getElem?_getD, List.getD_eq_getElem?_getD, List.getElem?_replicate, List.getElem?_replicate, if_pos (by omega), if_pos (by rw [hA.len]; exact hk)]
  | t + 1 => by
    have := hA.le
    have h := (same_ranks hA t).more hA (need.length - N) (by omega)
    rw [show N + (need.length - N) = need.length by omega] at h
    show Same need N (roundR need (ranksR need t) need.length) (roundR need1 (ranksR need1 t) need1.length)
    rw [hA.len]; exact h
/-- A ring stays without ranks. -/
theorem ring_round (hr : ∀ j, j < m → need.getD (N + j) [] = [N + (j + 1) % m]) (hn : need.length = N + m) (hl : out.length = need.length) (h : ∀ j, j < m → out.getD (N + j) 0 = -1) : ∀ i, i ≤ need.length → ∀ j, j < m → (roundR need out i).getD (N + j) 0 = -1
  | 0, _, j, hj => h j hj
  | i + 1, hi, j, hj => by
    have ih := ring_round hr hn hl h i (by omega)
    show (rkStep need (roundR need out i) i).getD (N + j) 0 = -1
    unfold rkStep
    rw [getD_set (by rw [round_len, hl]; omega)]
    split
    · rename_i e
      subst e
      rw [ih j hj, hr j hj, mostA_cons, if_pos (by rw [ih _ (Nat.mod_lt _ (by omega))]; omega)]; rfl
    · exact ih j hj
theorem ring_ranks (hr : ∀ j, j < m → need.getD (N + j) [] = [N + (j + 1) % m]) (hn : need.length = N + m) : ∀ t j, j < m → (ranksR need t).getD (N + j) 0 = -1
  | 0, j, hj => by rw [ranksR, List.getD_eq_getElem?_getD, List.getElem?_replicate, if_pos (by omega)]; rfl
  | t + 1, j, hj => ring_round hr hn (ranks_len need t) (ring_ranks hr hn t) need.length (Nat.le_refl _) j hj
end
theorem fsC_ranks (l : List RawD) (m : Nat) (h1 : 1 ≤ m) (hm : m ≤ 4) : (∀ i, i < nFields l → 0 ≤ (ranksR (needsE (fsC l m)) (nFields l + m)).getD i 0) ∧ ∀ j, j < m → (ranksR (needsE (fsC l m)) (nFields l + m)).getD (nFields l + j) 0 = -1 := by
  have hnl : (needsE (formE l).fields).length = nFields l := by unfold needsE; rw [List.length_map, form_len]
  have hnc : (needsE (fsC l m)).length = nFields l + m := by unfold needsE; rw [List.length_map, fsC_len]
  refine ⟨fun i hi => ?_, ring_ranks (fun j hj => need_new h1 hm hj) hnc _⟩
  have hA : Alone (needsE (fsC l m)) (needsE (formE l).fields) (nFields l) := ⟨hnl, by omega, fun i hi => need_old hm hi, fun i hi k hk => by have := (form_low l i (by omega) k hk).1; omega⟩
  have hg := ranks_good (form_ranked l) (nFields l + m)
  have hf := (form_ranked l).few i (by omega)
  rw [(same_ranks hA _).at_ i hi, hg.has i (by omega) (by omega)]
  exact rank_nn (form_ranked l) (by omega)

end Go.Proofs.Ytgjndkphfabnnaa

/-
  Contract of the law's own letters.
-/
import Derived.Test.YtjpgjnldeafpkaaNetC
import Derived.Test.YtjpgjnldeafpkaaHold
namespace Go.Proofs.Ytjpgjnldeafpkaa
open Go.RowKit

attribute [local go_sem] Evo.refl Evo.alloc Evo.drew Evo.drewN

/-- The letter of a raw thing. -/
def ltr (i : Nat) (r : RawD) : Ltr := ⟨⟨#[97]⟩, 1 + (i : Int), 1 + pickL r.k 3, valN (1 + pickL r.k 3) r.k r.a, valS (1 + pickL r.k 3) r.t, 0, 0, ⟨#[]⟩⟩
def ltrT (l : List RawD) (k : Nat) : List Ltr := (l.take (min k 12)).mapIdx ltr
def ltrOf (l : List RawD) : List Ltr := ltrT l l.length
theorem ltrT_0 (l : List RawD) : ltrT l 0 = [] := by simp [ltrT]
theorem ltrT_step (l : List RawD) (k : Nat) (r : RawD) (h : l[k]? = some r) (hk : k < 12) : ltrT l (k + 1) = ltrT l k ++ [ltr k r] := by
  unfold ltrT
  rw [show min (k + 1) 12 = k + 1 by omega, show min k 12 = k by omega, take_snoc' l k r h, List.mapIdx_concat]
  have : k ≤ l.length := by have := (List.getElem?_eq_some_iff.1 h).1; omega
  rw [List.length_take, Nat.min_eq_left this]
theorem ltrT_same (l : List RawD) (k : Nat) (hk : 12 ≤ k) : ltrT l (k + 1) = ltrT l k := by
  unfold ltrT
  rw [show min (k + 1) 12 = 12 by omega, show min k 12 = 12 by omega]
theorem ltr_ok (i : Nat) (r : RawD) (hi : i < 24) : OkL (ltr i r) := by
  have h0 := pickL_lo r.k 3 (by omega)
  have h1 := pickL_hi r.k 3 (by omega)
  exact ⟨by unfold ltr; simp only; omega, by unfold ltr; simp only; omega, val_known (1 + pickL r.k 3) r.k r.a r.t (by omega) (by omega), .inl ⟨rfl, rfl, rfl⟩⟩
theorem ltrT_ok (l : List RawD) (k : Nat) (hk : k ≤ l.length) : (ltrT l k).length = min k 12 ∧ ∀ x ∈ ltrT l k, OkL x ∧ x.ak = 0 := by
  unfold ltrT
  refine ⟨by rw [List.length_mapIdx, List.length_take]; omega, fun x hx => ?_⟩
  obtain ⟨i, hi, rfl⟩ := List.mem_mapIdx.1 hx
  exact ⟨ltr_ok _ _ (by rw [List.length_take] at hi; omega), rfl⟩

theorem raw_bd {r : RawD} (h : r.ok) : (-9223372036854775808 ≤ r.k ∧ r.k ≤ 9223372036854775807) := h.1

set_option maxRecDepth 100000 in
set_option maxHeartbeats 8000000 in
theorem letters_gen (v : Value) (l : List RawD) (w : World) (hs : Sl w 4 v (l.map RawD.cells)) (hreach : l.length * 40 ≤ 140737488355328) (hr : ∀ r ∈ l, r.ok) : Calls Try.prog 5 #[v] w (GivesOwn 36 8 (lcs (ltrOf l)) w) := by
  obtain ⟨A, cap, rfl, hcap, hmax, -⟩ := hs.form
  rw [List.length_map] at *
  have HS := Lib.hid hs
  have HOK := Lib.hid hr
  clear hs hr
  go_enter Try.func5, Try.ntmps5
  go_wp2_with fail
  go_loopw [8, 3] (fun n v wr => ∃ k : Nat, k ≤ l.length ∧ n = .int .i64 k ∧ Own wr w.heap.size 36 8 v (lcs (ltrT l k)).length (lcs (ltrT l k)).flatten ∧ Evo w wr) (fun n _ _ => l.length - (intOf n).toNat)
  case atStart => exact ⟨0, Nat.zero_le _, rfl, by rw [ltrT_0]; exact ⟨by simp, .inl ⟨rfl, rfl⟩⟩, Evo.refl _⟩
  case round =>
    obtain ⟨k, hk, rfl, hv, hb⟩ := hrel
    have HV := Lib.hid hv
    clear hv
    by_cases hlt : k < l.length
    · obtain ⟨r, hd⟩ : ∃ r, l[k]? = some r := ⟨_, List.getElem?_eq_getElem hlt⟩
      obtain ⟨b, off, rfl, hbl, hc⟩ := HS.out.row (i := k) (r := r.cells) (by rw [List.getElem?_map, hd]; rfl)
      have c0 : ∀ W, Evo w W → W.cell? ⟨b, off + k * 4, none⟩ = some _ := hc 0 _ rfl
      have c1 : ∀ W, Evo w W → W.cell? ⟨b, off + k * 4 + 1, none⟩ = some _ := hc 1 _ rfl
      have c2 : ∀ W, Evo w W → W.cell? ⟨b, off + k * 4 + 2, none⟩ = some _ := hc 2 _ rfl
      have c3 : ∀ W, Evo w W → W.cell? ⟨b, off + k * 4 + 3, none⟩ = some _ := hc 3 _ rfl
      by_cases h12 : k < 12
      · have rok := HOK.out r (List.mem_of_getElem? hd)
        have ROK := Lib.hid rok
        have bd := raw_bd rok
        have HES := Lib.hid (ltrT_step l k r hd h12)
        have HLL := Lib.hid (ltrT_ok l k hk).1
        have s0 := pickL_lo r.k 3 (by omega)
        have s1 := pickL_hi r.k 3 (by omega)
        obtain ⟨b0, b1⟩ := bd
        have HB : Hold w wr.heap.size [.int .i64 r.k, .int .i64 r.a, .int .i64 r.b, .string r.t] (wr.alloc (.cells #[.int .i64 r.k, .int .i64 r.a, .int .i64 r.b, .string r.t] 27)) := ⟨hb.alloc _, Box.new _ _ _⟩
        have t0 : ∀ W, Hold w wr.heap.size [.int .i64 r.k, .int .i64 r.a, .int .i64 r.b, .string r.t] W → W.cell? ⟨wr.heap.size, 0, none⟩ = some (.int .i64 r.k) := fun W h => h.cell 0 _ rfl
        have t1 : ∀ W, Hold w wr.heap.size [.int .i64 r.k, .int .i64 r.a, .int .i64 r.b, .string r.t] W → W.cell? ⟨wr.heap.size, 1, none⟩ = some (.int .i64 r.a) := fun W h => h.cell 1 _ rfl
        have t2 : ∀ W, Hold w wr.heap.size [.int .i64 r.k, .int .i64 r.a, .int .i64 r.b, .string r.t] W → W.cell? ⟨wr.heap.size, 2, none⟩ = some (.int .i64 r.b) := fun W h => h.cell 2 _ rfl
        have t3 : ∀ W, Hold w wr.heap.size [.int .i64 r.k, .int .i64 r.a, .int .i64 r.b, .string r.t] W → W.cell? ⟨wr.heap.size, 3, none⟩ = some (.string r.t) := fun W h => h.cell 3 _ rfl
        have HNE := Lib.hid (HV.out.ne (Nat.le_refl _))
        have HW := Lib.hid (HV.out.at ((Evo.refl wr).alloc (.cells #[.int .i64 r.k, .int .i64 r.a, .int .i64 r.b, .string r.t] 27)))
        have wk : IntKind.i64.wrap (1 + (k : Int)) = 1 + k := IntWalk.i64_in _ (by omega)
        have wp : IntKind.i64.wrap (1 + pickL r.k 3) = 1 + pickL r.k 3 := IntWalk.i64_in _ (by omega)
        clear hc hd rok
        go_wp2_with fail
        generalize wr.alloc (.cells #[.int .i64 r.k, .int .i64 r.a, .int .i64 r.b, .string r.t] 27) = V at *
        go_region_held3 (fun W => Hold w wr.heap.size [.int .i64 r.k, .int .i64 r.a, .int .i64 r.b, .string r.t] W) (first | assumption | (exact Hold.to (by assumption) ((Evo.refl _).drew)) | (exact Hold.to (by assumption) ((Evo.refl _).drewN _)) | (exact Hold.to (by assumption) ⟨by assumption⟩) | (exact Hold.to (by assumption) ((Evo.refl _).alloc _)) | (exact Hold.to (by assumption) (by assumption)))
          (first
            | (go_at_call 7; refine (picked_any r.k 3 _ b0 b1 (by omega) (by omega)).mono ?_; rintro e w' ⟨rfl, rfl⟩)
            | (go_at_call 18; refine (val_any (1 + pickL r.k 3) r _ (by omega) (by omega) ROK.out).mono ?_; rintro e w' ⟨rfl, hw'⟩)
            | (refine step_append_rows' rfl (.tmp 15) (.tmp 25) 23 rfl 36 _ 8 88 Try.underlying23 info_ltr rfl (by decide) w (Hold.evo (by assumption)) (lcs (ltrT l k)) [(ltr k r).cells] _ _ rfl rfl (HW.out.at (Evo.alloc (Evo.trans ((Evo.refl _).drew) ⟨hw'⟩) _)) (Sl.one _ _ _ _) (lcs_len [ltr k r]) (lcs_one [ltr k r]) (by simp; rw [HLL.out]; omega) (by simp; rw [HLL.out]; omega) ?_; intro v2 w2 hown2 hE2 hg2; have hH2 := Hold.grown (by assumption) hg2 HNE.out hE2))
        have es : lcs (ltrT l (k + 1)) = lcs (ltrT l k) ++ [(ltr k r).cells] := by rw [HES.out]; simp [lcs]
        rw [← es] at hown2
        have F := Lib.hid (And.intro hown2 hE2)
        clear es hown2 hg2 hH2
        go_wp2_with fail
        go_roundw
        case rel => exact ⟨k + 1, by omega, by go_num, F.out.1, F.out.2⟩
        case measure => simp [intOf]; omega
      · have es := Lib.hid (ltrT_same l k (by omega))
        have F := Lib.hid (And.intro (HV.out.at ((Evo.refl _).alloc (.cells #[.int .i64 r.k, .int .i64 r.a, .int .i64 r.b, .string r.t] 27))) (hb.alloc (.cells #[.int .i64 r.k, .int .i64 r.a, .int .i64 r.b, .string r.t] 27)))
        clear hc hd
        go_wp2_with fail
        go_roundw
        case rel => exact ⟨k + 1, by omega, by go_num, by rw [es.out]; exact F.out.1, F.out.2⟩
        case measure => simp [intOf]; omega
    · obtain rfl : k = l.length := by omega
      clear hlt hk
      go_wp2_with fail
      go_ret
      exact ⟨_, rfl, HV.out, hb⟩

theorem letters_any (v : Value) (l : List RawD) (w : World) (h : RawsOf w v l) : Calls Try.prog 5 #[v] w (GivesOwn 36 8 (lcs (ltrOf l)) w) :=
  letters_gen v l w h.1 (Nat.le_trans h.2.1 (by decide)) h.2.2

end Go.Proofs.Ytjpgjnldeafpkaa

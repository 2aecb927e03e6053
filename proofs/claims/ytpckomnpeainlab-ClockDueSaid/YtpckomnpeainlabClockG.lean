/-
  Contracts of clock.Add at timers that may be, and of the law's own timers.
-/
import Derived.Test.YtpckomnpeainlabClockF
namespace Go.Proofs.Ytpckomnpeainlab
open Go.RowKit

attribute [local go_sem] Evo.refl Evo.alloc Evo.drew Evo.drewN

def OkNew (t : Tmr) : Prop := 1 ≤ t.id ∧ 0 ≤ t.at' ∧ t.at' ≤ 1073741824

theorem add_new (v : Value) (l : List Tmr) (t : Tmr) (w : World) (h : Sl w 2 v (tcs l)) (hok : OkT l) (hl : l.length < 20) (ht : OkNew t) (hn : ∀ x ∈ l, x.id ≠ t.id) :
    Calls Try.prog 17 #[v, .agg #[.int .i64 t.id, .int .i64 t.at']] w (RowsOr (ins l t) w) := by
  refine (add_any v l t (plc l t) w h (chk_ok hok) (by omega) (plc_le l t) (plc_lo l t) (plc_hi hok.wk t)).mono ?_
  rintro e w' ⟨v', rfl, hs, hE⟩
  have h0 : chkT (ins l t) = 0 := chk_ok (ins_ok hok hl ht hn)
  change Sl w' 2 v' (if chkT (ins l t) = 0 then tcs (ins l t) else []) at hs
  rw [if_pos h0] at hs
  exact ⟨v', by show Ending.returned (.tuple #[v', .int .i64 (chkT (ins l t))]) = _; rw [h0], hs, hE⟩
theorem add_twice (v : Value) (l : List Tmr) (t x : Tmr) (w : World) (h : Sl w 2 v (tcs l)) (hok : OkT l) (hl : l.length < 20) (ht : OkNew t) (hx : x ∈ l) (e : x.id = t.id) :
    Calls Try.prog 17 #[v, .agg #[.int .i64 t.id, .int .i64 t.at']] w (fun e w' => ∃ v', e = .returned (.tuple #[v', .int .i64 6]) ∧ Evo w w') := by
  refine (add_any v l t (plc l t) w h (chk_ok hok) (by omega) (plc_le l t) (plc_lo l t) (plc_hi hok.wk t)).mono ?_
  rintro e w' ⟨v', rfl, hs, hE⟩
  have h0 : chkT (ins l t) = 6 := ins_twice hok.wk hl ht hx e
  exact ⟨v', by show Ending.returned (.tuple #[v', .int .i64 (chkT (ins l t))]) = _; rw [h0], hE⟩

/-- The law's timers, so many raw things on. -/
def tmrT (l : List RawD) (k : Nat) : List Tmr := tmrs [] ((l.take (min k 12)).map (fun r => pickL r.a 30)) 0
def tmrOf (l : List RawD) : List Tmr := tmrT l l.length
theorem tmrT_0 (l : List RawD) : tmrT l 0 = [] := by simp [tmrT, tmrs]
theorem tmrT_step (l : List RawD) (k : Nat) (r : RawD) (h : l[k]? = some r) (hk : k < 12) : tmrT l (k + 1) = ins (tmrT l k) ⟨(k : Int) + 1, pickL r.a 30⟩ := by
  unfold tmrT
  rw [show min (k + 1) 12 = k + 1 by omega, show min k 12 = k by omega, take_snoc' l k r h, List.map_append, List.map_singleton, tmrs_snoc]
  have : k ≤ l.length := by have := (List.getElem?_eq_some_iff.1 h).1; omega
  rw [List.length_map, List.length_take, Nat.min_eq_left this, Nat.zero_add]
theorem tmrT_same (l : List RawD) (k : Nat) (hk : 12 ≤ k) : tmrT l (k + 1) = tmrT l k := by
  unfold tmrT
  rw [show min (k + 1) 12 = 12 by omega, show min k 12 = 12 by omega]
theorem tmrT_ok (l : List RawD) (k : Nat) (hk : k ≤ l.length) : OkT (tmrT l k) ∧ (tmrT l k).length = min k 12 ∧ ∀ x ∈ tmrT l k, x.id ≤ (min k 12 : Nat) ∧ x.at' < 30 := by
  have hl : ((l.take (min k 12)).map (fun r => pickL r.a 30)).length = min k 12 := by rw [List.length_map, List.length_take]; omega
  have hm : ∀ a ∈ (l.take (min k 12)).map (fun r => pickL r.a 30), 0 ≤ a ∧ a ≤ 29 := fun a ha => by
    obtain ⟨r, -, rfl⟩ := List.mem_map.1 ha
    exact ⟨pickL_lo _ _ (by omega), by have := pickL_hi r.a 30 (by omega); omega⟩
  obtain ⟨h1, h2, h3⟩ := tmrs_ok _ (fun a ha => by have := hm a ha; omega) (by rw [hl]; omega)
  refine ⟨h1, by rw [show (tmrT l k).length = _ from h2, hl], fun x hx => ?_⟩
  obtain ⟨a, b⟩ := h3 x hx
  rw [hl] at a
  exact ⟨a, by have := hm _ b; omega⟩

def TmrPost (l : List RawD) (w : World) (e : Ending) (w' : World) : Prop := ∃ v, e = .returned (.tuple #[v, .bool true]) ∧ Sl w' 2 v (tcs (tmrOf l)) ∧ Evo w w'

theorem int_bd {r : RawD} (h : r.ok) : (-9223372036854775808 ≤ r.a ∧ r.a ≤ 9223372036854775807) := h.2.1

set_option maxRecDepth 100000 in
set_option maxHeartbeats 8000000 in
theorem timers_any (v : Value) (l : List RawD) (w : World) (h : RawsOf w v l) : Calls Try.prog 15 #[v] w (TmrPost l w) := by
  obtain ⟨hs, hreach, hr⟩ := h
  unfold reachBytes at hreach
  obtain ⟨A, cap, rfl, hcap, hmax, -⟩ := hs.form
  rw [List.length_map] at *
  have HS := Lib.hid hs
  have HOK := Lib.hid hr
  have HT := Lib.hid (tmrT_ok l)
  have H1 := Lib.hid (fun W => add_new (.slice none 0 0) [] ⟨1, 0⟩ W (Sl.nil _ _) ⟨⟨by simp, by simp, by simp⟩, by simp⟩ (by simp) ⟨by decide, by decide, by decide⟩ (by simp))
  clear hs hr
  go_enter Try.func15, Try.ntmps15
  go_wp2_with fail
  go_loopw [13, 4] (fun n v wr => ∃ k : Nat, k ≤ l.length ∧ n = .int .i64 k ∧ Sl wr 2 v (tcs (tmrT l k)) ∧ Evo w wr) (fun n _ _ => l.length - (intOf n).toNat)
  case atStart => exact ⟨0, Nat.zero_le _, rfl, by rw [tmrT_0]; exact Sl.nil _ _, Evo.refl _⟩
  case round =>
    obtain ⟨k, hk, rfl, hv, hb⟩ := hrel
    by_cases hlt : k < l.length
    · obtain ⟨r, hd⟩ : ∃ r, l[k]? = some r := ⟨_, List.getElem?_eq_getElem hlt⟩
      obtain ⟨b, off, rfl, hbl, hc⟩ := HS.out.row (i := k) (r := r.cells) (by rw [List.getElem?_map, hd]; rfl)
      have c0 : ∀ W, Evo w W → W.cell? ⟨b, off + k * 4, none⟩ = some _ := hc 0 _ rfl
      have c1 : ∀ W, Evo w W → W.cell? ⟨b, off + k * 4 + 1, none⟩ = some _ := hc 1 _ rfl
      have c2 : ∀ W, Evo w W → W.cell? ⟨b, off + k * 4 + 2, none⟩ = some _ := hc 2 _ rfl
      have c3 : ∀ W, Evo w W → W.cell? ⟨b, off + k * 4 + 3, none⟩ = some _ := hc 3 _ rfl
      obtain ⟨ok, ol, oi⟩ := HT.out k hk
      by_cases h12 : k < 12
      · have bd := int_bd (HOK.out r (List.mem_of_getElem? hd))
        have es := tmrT_step l k r hd h12
        have HES := Lib.hid es
        have s0 := pickL_lo r.a 30 (by omega)
        have s1 := pickL_hi r.a 30 (by omega)
        have hlen : (ins (tmrT l k) ⟨(k : Int) + 1, pickL r.a 30⟩).length = k + 1 := by rw [ins_len, ol]; omega
        have HA := Lib.hid (fun v W (hW : Sl W 2 v (tcs (tmrT l k))) => add_new v (tmrT l k) ⟨(k : Int) + 1, pickL r.a 30⟩ W hW ok (by omega) ⟨by simp; omega, s0, by simp; omega⟩ (fun x hx => by have := (oi x hx).1; simp; omega))
        simp only at HA
        have HL := Lib.hid hlen
        have HV := Lib.hid hv
        obtain ⟨b0, b1⟩ := bd
        clear hc hd ok ol oi es hlen hv
        go_wp2_with fail
        with_reducible refine (picked_any r.a 30 _ b0 b1 (by omega) (by omega)).mono ?_
        rintro e w' ⟨rfl, rfl⟩
        generalize pickL r.a 30 = a at *
        go_wp2_with fail
        with_reducible refine (HA.out _ _ (HV.out.at ((Evo.refl _).alloc _))).mono ?_
        rintro e u1 ⟨v1, rfl, h1, e1⟩
        obtain ⟨A1, cap1, rfl, q1, q2, -⟩ := h1.form
        have F := Lib.hid (And.intro h1 (hb.trans (((Evo.refl _).alloc _).trans e1)))
        rw [List.length_map, HL.out] at F q1 ⊢
        clear h1 e1 hb b0 b1 s0 s1
        go_wp2_with fail
        go_roundw
        case rel => exact ⟨k + 1, by omega, by go_num, by rw [HES.out]; exact F.out.1, F.out.2⟩
        case measure => simp [intOf]; omega
      · have es := Lib.hid (tmrT_same l k (by omega))
        have F := Lib.hid (And.intro (hv.at ((Evo.refl _).alloc (.cells #[.int .i64 r.k, .int .i64 r.a, .int .i64 r.b, .string r.t] 47))) (hb.alloc (.cells #[.int .i64 r.k, .int .i64 r.a, .int .i64 r.b, .string r.t] 47)))
        clear hc hd ok ol oi hv
        go_wp2_with fail
        go_roundw
        case rel => exact ⟨k + 1, by omega, by go_num, by rw [es.out]; exact F.out.1, F.out.2⟩
        case measure => simp [intOf]; omega
    · obtain rfl : k = l.length := by omega
      have HV := Lib.hid hv
      clear hv hlt
      go_wp2_with fail
      with_reducible refine (H1.out _).mono ?_
      rintro e u1 ⟨v1, rfl, h1, e1⟩
      obtain ⟨A1, cap1, rfl, q1, q2, -⟩ := h1.form
      have F := Lib.hid (And.intro (HV.out.at e1) (hb.trans e1))
      have e3 : (tcs (ins [] ⟨1, 0⟩)).length = 1 := rfl
      rw [e3] at q1 ⊢
      clear h1 e1 hb e3
      go_wp2_with fail
      go_ret2
      exact ⟨_, rfl, F.out⟩

end Go.Proofs.Ytpckomnpeainlab

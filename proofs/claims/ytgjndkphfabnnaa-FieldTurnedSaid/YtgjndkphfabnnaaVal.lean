/-
  The contract of the law's own Value: a value of the type, told by the raw thing alone.
-/
import Derived.Test.YtgjndkphfabnnaaClean
namespace Go.Proofs.Ytgjndkphfabnnaa
open Go.RowKit

def valN (kind rk ra : Int) : Int :=
  if kind = 1 then (if pickL rk 7 = 0 then pickL ra 2199023255553 - 1099511627776 else pickL ra 40 - 12) else if kind = 2 then pickL ra 2 else 0
def valS (kind : Int) (t : ByteArray) : ByteArray := if kind = 3 then cleanS t 8 else ⟨#[]⟩

theorem clean_known (t : ByteArray) : (cleanS t 8).size ≤ 40 ∧ ∀ i (h : i < (cleanS t 8).size), 32 ≤ (cleanS t 8)[i].toNat ∧ (cleanS t 8)[i].toNat ≤ 126 := by
  have hl := clean_len t 8
  have hs : (cleanS t 8).size = (cleanL t 8).length := by show (cleanL t 8).toArray.size = _; simp
  refine ⟨by omega, fun i h => ?_⟩
  have e : (cleanS t 8)[i] = (cleanL t 8)[i]'(by omega) := by
    rfl
  have hi : i < t.data.toList.length := by
    have : t.data.toList.length = t.size := by rw [Array.length_toList]; rfl
    omega
  have e2 : (cleanL t 8)[i]'(by omega) = 32 + t.data.toList[i] % 95 := by simp [cleanL]
  rw [e, e2]
  have := clean_byte t.data.toList[i]
  omega

theorem val_known (kind rk ra : Int) (t : ByteArray) (h1 : 1 ≤ kind) (h3 : kind ≤ 3) : KnownV kind (valN kind rk ra) (valS kind t) := by
  have a0 := pickL_lo ra 2199023255553 (by omega)
  have a1 := pickL_hi ra 2199023255553 (by omega)
  have b0 := pickL_lo ra 40 (by omega)
  have b1 := pickL_hi ra 40 (by omega)
  have c0 := pickL_lo ra 2 (by omega)
  have c1 := pickL_hi ra 2 (by omega)
  obtain rfl | rfl | rfl : kind = 1 ∨ kind = 2 ∨ kind = 3 := by omega
  · left
    refine ⟨rfl, ?_, rfl⟩
    unfold valN Lim
    rw [if_pos rfl]
    split <;> omega
  · right; left
    refine ⟨rfl, ?_, rfl⟩
    show pickL ra 2 = 0 ∨ pickL ra 2 = 1
    omega
  · right; right
    have := clean_known t
    exact ⟨rfl, rfl, this.1, this.2⟩

set_option maxHeartbeats 400000 in
theorem val_int (x : RawD) (w : World) (hx : x.ok) : Calls Try.prog 71 #[.int .i64 1, .agg #[.int .i64 x.k, .int .i64 x.a, .int .i64 x.b, .string x.t]] w (Gives (.agg #[.int .i64 1, .int .i64 (valN 1 x.k x.a), .string ⟨#[]⟩]) w) := by
  obtain ⟨⟨k0, k1⟩, ⟨a0, a1⟩, _, _⟩ := hx
  by_cases h : pickL x.k 7 = 0
  · have e : Hid (valN 1 x.k x.a = pickL x.a 2199023255553 - 1099511627776) := by show _ = _; simp [valN, h]
    have h' : (pickL x.k 7 == 0) = true := beq_iff_eq.2 h
    clear h
    have q0 := pickL_lo x.a 2199023255553 (by omega)
    have q1 := pickL_hi x.a 2199023255553 (by omega)
    go_enter Try.func71, Try.ntmps71
    go_wp2_with fail
    with_reducible refine (picked_any x.k 7 _ k0 k1 (by omega) (by omega)).mono ?_
    rintro e w' ⟨rfl, rfl⟩
    go_wp2_with fail
    with_reducible refine (picked_any x.a 2199023255553 _ a0 a1 (by omega) (by omega)).mono ?_
    rintro e w' ⟨rfl, rfl⟩
    go_wp2_with fail
    refine bodyPost_ret (v := .agg #[.int .i64 1, .int .i64 (pickL x.a 2199023255553 - 1099511627776), .string ⟨#[]⟩]) (by simp [results, Try.results71, go_sem]) rfl (gives_mk (by rw [e.out]) ?_)
    exact ((Below.refl _ _).alloc (Nat.le_refl _) _).alloc (by simp) _
  · have e : Hid (valN 1 x.k x.a = pickL x.a 40 - 12) := by show _ = _; simp [valN, h]
    have h' : (pickL x.k 7 == 0) = false := beq_eq_false_iff_ne.2 h
    clear h
    have q0 := pickL_lo x.a 40 (by omega)
    have q1 := pickL_hi x.a 40 (by omega)
    go_enter Try.func71, Try.ntmps71
    go_wp2_with fail
    with_reducible refine (picked_any x.k 7 _ k0 k1 (by omega) (by omega)).mono ?_
    rintro e w' ⟨rfl, rfl⟩
    go_wp2_with fail
    with_reducible refine (picked_any x.a 40 _ a0 a1 (by omega) (by omega)).mono ?_
    rintro e w' ⟨rfl, rfl⟩
    go_wp2_with fail
    refine bodyPost_ret (v := .agg #[.int .i64 1, .int .i64 (pickL x.a 40 - 12), .string ⟨#[]⟩]) (by simp [results, Try.results71, go_sem]) rfl (gives_mk (by rw [e.out]) ?_)
    exact ((Below.refl _ _).alloc (Nat.le_refl _) _).alloc (by simp) _

set_option maxHeartbeats 400000 in
theorem val_bool (x : RawD) (w : World) (hx : x.ok) : Calls Try.prog 71 #[.int .i64 2, .agg #[.int .i64 x.k, .int .i64 x.a, .int .i64 x.b, .string x.t]] w (Gives (.agg #[.int .i64 2, .int .i64 (pickL x.a 2), .string ⟨#[]⟩]) w) := by
  obtain ⟨⟨k0, k1⟩, ⟨a0, a1⟩, _, _⟩ := hx
  go_enter Try.func71, Try.ntmps71
  go_wp2_with fail
  with_reducible refine (picked_any x.a 2 _ a0 a1 (by omega) (by omega)).mono ?_
  rintro e w' ⟨rfl, rfl⟩
  go_wp2_with fail
  refine bodyPost_ret (v := .agg #[.int .i64 2, .int .i64 (pickL x.a 2), .string ⟨#[]⟩]) (by simp [results, Try.results71, go_sem]) rfl (gives_mk rfl ?_)
  exact ((Below.refl _ _).alloc (Nat.le_refl _) _).alloc (by simp) _

set_option maxHeartbeats 400000 in
theorem val_text (x : RawD) (w : World) (hx : x.ok) : Calls Try.prog 71 #[.int .i64 3, .agg #[.int .i64 x.k, .int .i64 x.a, .int .i64 x.b, .string x.t]] w (Gives (.agg #[.int .i64 3, .int .i64 0, .string (cleanS x.t 8)]) w) := by
  obtain ⟨_, _, _, ht⟩ := hx
  have H := Lib.hid ht
  clear ht
  have hx := (Box.new w #[.int .i64 x.k, .int .i64 x.a, .int .i64 x.b, .string x.t] 98).alloc (.cells #[.int .i64 0, .int .i64 0, .string ⟨#[]⟩] 24)
  have hy := Box.new (w.alloc (.cells #[.int .i64 x.k, .int .i64 x.a, .int .i64 x.b, .string x.t] 98)) #[.int .i64 0, .int .i64 0, .string ⟨#[]⟩] 24
  have hbw : Below w.heap.size w ((w.alloc (.cells #[.int .i64 x.k, .int .i64 x.a, .int .i64 x.b, .string x.t] 98)).alloc (.cells #[.int .i64 0, .int .i64 0, .string ⟨#[]⟩] 24)) := ((Below.refl _ _).alloc (Nat.le_refl _) _).alloc (by simp) _
  have HY := Lib.hid hy
  have HW := Lib.hid hbw
  clear hx hy hbw
  go_enter Try.func71, Try.ntmps71
  go_wp2_with fail
  with_reducible refine (clean_any x.t _ H.out).mono ?_
  rintro e w' ⟨rfl, h1⟩
  have hy1 := HY.out.keep h1
  have hw1 := bthen HW.out h1
  clear HY HW h1
  have y0 := hy1.cells 0 _ rfl
  have y1 := hy1.cells 1 _ rfl
  have y2 := hy1.cells 2 _ rfl
  have f0 := hy1.free 0
  have f1 := hy1.free 1
  have f2 := hy1.free 2
  simp at y0 y1 y2 f0 f1 f2
  go_wp2_with fail
  refine bodyPost_ret (v := .agg #[.int .i64 3, .int .i64 0, .string (cleanS x.t 8)]) (by simp [results, Try.results71, go_sem, y0, y1, y2]) rfl (gives_mk rfl ?_)
  exact ((hw1.setCell (by simp) _).setCell (by simp) _).setCell (by simp) _

theorem val_any (kind : Int) (x : RawD) (w : World) (h1 : 1 ≤ kind) (h3 : kind ≤ 3) (hx : x.ok) :
    Calls Try.prog 71 #[.int .i64 kind, .agg #[.int .i64 x.k, .int .i64 x.a, .int .i64 x.b, .string x.t]] w (Gives (.agg #[.int .i64 kind, .int .i64 (valN kind x.k x.a), .string (valS kind x.t)]) w) := by
  obtain rfl | rfl | rfl : kind = 1 ∨ kind = 2 ∨ kind = 3 := by omega
  · exact val_int x w hx
  · exact val_bool x w hx
  · exact val_text x w hx

end Go.Proofs.Ytgjndkphfabnnaa

/-
  Contracts of the generator: constant, leaf.
-/
import Derived.Test.YtgjndkphfabnnaaEx
namespace Go.Proofs.Ytgjndkphfabnnaa
open Go.RowKit

theorem rs_cells {h : Vw} {b k : Nat} (rows : List (List Value)) (hk : ∀ r ∈ rows, r.length = k) (hm : rows.length ≤ maxLen) (c : Cells h b 0 rows.flatten) : RS h k (.slice (some ⟨b, 0, none⟩) rows.length rows.length) rows := by
  refine .inr ⟨b, 0, rows.length, rfl, Nat.le_refl _, hm, c.lt, c.ok, fun i r hi j v hj => ?_⟩
  have := c.lies (i * k + j) v (flat_get rows hk i r j v hi hj)
  rwa [← Nat.add_assoc] at this
theorem pick_range (n m : Int) (h : 1 ≤ m) : 0 ≤ pickL n m ∧ pickL n m < m := ⟨pickL_lo n m h, pickL_hi n m h⟩
theorem c_picked (n m : Int) (h : Vw) (h0 : -9223372036854775808 ≤ n) (h1 : n ≤ 9223372036854775807) (h2 : 1 ≤ m) (h3 : m ≤ 9223372036854775807) :
    C0 Try.prog 16 #[.int .i64 n, .int .i64 m] h (fun v _ => v = .int .i64 (pickL n m)) := C0.of_same (fun w => picked_any n m w h0 h1 h2 h3) h
theorem c_value (kind : Int) (x : RawD) (h : Vw) (h1 : 1 ≤ kind) (h3 : kind ≤ 3) (hx : x.ok) :
    C0 Try.prog 71 #[.int .i64 kind, .agg #[.int .i64 x.k, .int .i64 x.a, .int .i64 x.b, .string x.t]] h (fun v _ => v = .agg #[.int .i64 kind, .int .i64 (valN kind x.k x.a), .string (valS kind x.t)]) := C0.of_gives (fun w => val_any kind x w h1 h3 hx) h

theorem val_lim (kind : Int) (r : RawD) (h1 : 1 ≤ kind) (h3 : kind ≤ 3) : -1099511627776 ≤ valN kind r.k r.a ∧ valN kind r.k r.a ≤ 1099511627776 := by
  rcases val_known kind r.k r.a r.t h1 h3 with ⟨_, ⟨a, b⟩, _⟩ | ⟨_, h, _⟩ | ⟨_, h, _⟩
  · exact ⟨a, b⟩
  · omega
  · omega

set_option maxRecDepth 100000 in
theorem constant_any (kind : Int) (r : RawD) (h : Vw) (h1 : 1 ≤ kind) (h3 : kind ≤ 3) (hr : r.ok) :
    C0 Try.prog 117 #[.int .i64 kind, r.val] h (fun v _ => v = .agg (exRow (constE kind r) (.slice none 0 0)).toArray) := by
  have hv := val_lim kind r h1 h3
  have hC := c_value kind r
  have e : exRow (constE kind r) (.slice none 0 0) = [.int .i64 1, .int .i64 kind, .int .i64 (if kind = 1 then absI (valN kind r.k r.a) else valN kind r.k r.a), .string (valS kind r.t), .string ⟨#[]⟩, .slice none 0 0] := rfl
  rw [e]
  clear e
  generalize valN kind r.k r.a = vn at *
  generalize valS kind r.t = vs at *
  by_cases hk : kind = 1
  · have hk' : (kind == 1) = true := beq_iff_eq.2 hk
    by_cases hn : 0 - vn > vn
    · refine con_start Try.func117 rfl (N := 20) rfl (by kernel_rfl) ?_
      intro hbx hbad Q hQ a w hJ
      replace hJ : J ⟨20, h.w, h.bad, []⟩ [(0, .int .i64 kind), (1, .agg #[.int .i64 r.k, .int .i64 r.a, .int .i64 r.b, .string r.t])] [] h a w := hJ.to (by kernel_rfl) (by kernel_rfl)
      refine wp_seq ?_
      refine wp_region_lit ?_
      refine s_new hJ 3 (fun g => .pointer (some ⟨g, 0, none⟩)) [.int .i64 r.k, .int .i64 r.a, .int .i64 r.b, .string r.t] 98 (by kernel_rfl) (fun _ => by kernel_rfl) ?_; clear hJ a w; intro b1 a w hJ
      refine s_new hJ 4 (fun g => .pointer (some ⟨g, 0, none⟩)) [.int .i64 0, .int .i64 0, .int .i64 0, .string ⟨#[]⟩, .string ⟨#[]⟩, .slice none 0 0] 27 (by kernel_rfl) (fun _ => by kernel_rfl) ?_; clear hJ a w; intro b2 a w hJ
      refine wpList_nil ?_
      refine then_normal ?_
      refine wp_seq ?_
      refine wp_region_lit ?_
      refine s_pure hJ 6 (.int .i64 kind) (by kernel_rfl) (fun _ => by kernel_rfl) ?_; clear hJ a; intro a hJ
      refine s_load hJ (t := 98) (x := (.tmp 3)) 7 (.agg #[.int .i64 r.k, .int .i64 r.a, .int .i64 r.b, .string r.t]) 1 (b := b1) (off := 0) (cs := [.int .i64 r.k, .int .i64 r.a, .int .i64 r.b, .string r.t]) (by kernel_rfl) (by kernel_rfl) (by kernel_rfl) (by kernel_rfl) (by kernel_rfl) ?_; clear hJ a; intro a hJ
      refine s_call hJ 8 (hC _ h1 h3 hr) (by kernel_rfl) (fun _ => by kernel_rfl) ?_; clear hJ a w; rintro _ h3 a w s4 rfl hJ
      refine s_new hJ 5 (fun g => .pointer (some ⟨g, 0, none⟩)) [.int .i64 0, .int .i64 0, .string ⟨#[]⟩] 24 (by kernel_rfl) (fun _ => by kernel_rfl) ?_; clear hJ a w; intro b5 a w hJ
      refine s_store hJ (t := 24) (x := (.tmp 5)) (y := (.tmp 8)) 0 (.agg #[.int .i64 kind, .int .i64 vn, .string vs]) (b := b5) (off := 0) (cs := [.int .i64 0, .int .i64 0, .string ⟨#[]⟩]) [.int .i64 kind, .int .i64 vn, .string vs] (by kernel_rfl) (by kernel_rfl) (by kernel_rfl) (by kernel_rfl) (by kernel_rfl) (by kernel_rfl) (by kernel_rfl) ?_; clear hJ w; intro w hJ
      refine wpList_nil ?_
      refine then_normal ?_
      refine wp_seq ?_
      refine wp_seq ?_
      refine wp_region_lit ?_
      refine s_pure hJ 9 (.int .i64 kind) (by kernel_rfl) (fun _ => by kernel_rfl) ?_; clear hJ a; intro a hJ
      refine s_pure hJ 10 (.bool (kind == 1)) (by kernel_rfl) (fun _ => by kernel_rfl) ?_; clear hJ a; intro a hJ
      refine wpList_nil ?_
      refine then_normal ?_
      refine c_true hJ (t := kind == 1) (by kernel_rfl) (hk') ?_
      refine wp_region_lit ?_
      refine s_pure hJ 11 (.pointer (some ⟨b5, 1, none⟩)) (by kernel_rfl) (fun _ => by kernel_rfl) ?_; clear hJ a; intro a hJ
      refine s_load hJ (t := 3) (x := (.tmp 11)) 12 (.int .i64 vn) 0 (b := b5) (off := 1) (cs := [.int .i64 kind, .int .i64 vn, .string vs]) (by kernel_rfl) (by kernel_rfl) (by kernel_rfl) (by kernel_rfl) (by kernel_rfl) ?_; clear hJ a; intro a hJ
      refine s_pure hJ 13 (.pointer (some ⟨b5, 1, none⟩)) (by kernel_rfl) (fun _ => by kernel_rfl) ?_; clear hJ a; intro a hJ
      refine s_load hJ (t := 3) (x := (.tmp 13)) 14 (.int .i64 vn) 0 (b := b5) (off := 1) (cs := [.int .i64 kind, .int .i64 vn, .string vs]) (by kernel_rfl) (by kernel_rfl) (by kernel_rfl) (by kernel_rfl) (by kernel_rfl) ?_; clear hJ a; intro a hJ
      refine s_pure hJ 15 (.int .i64 (0 - vn)) (by kernel_rfl) (fun w => run_eq (by kernel_rfl) (i64_wrap (by omega) (by omega))) ?_; clear hJ a; intro a hJ
      refine s_pure hJ 16 (.int .i64 (0 - vn)) (by kernel_rfl) (fun w => run_eq (v0 := .int .i64 (if 0 - vn > vn then 0 - vn else vn)) (by kernel_rfl) (by rw [if_pos hn])) ?_; clear hJ a; intro a hJ
      refine s_pure hJ 17 (.pointer (some ⟨b5, 1, none⟩)) (by kernel_rfl) (fun _ => by kernel_rfl) ?_; clear hJ a; intro a hJ
      refine s_store hJ (t := 3) (x := (.tmp 17)) (y := (.tmp 16)) 0 (.int .i64 (0 - vn)) (b := b5) (off := 1) (cs := [.int .i64 kind, .int .i64 vn, .string vs]) [.int .i64 kind, .int .i64 (0 - vn), .string vs] (by kernel_rfl) (by kernel_rfl) (by kernel_rfl) (by kernel_rfl) (by kernel_rfl) (by kernel_rfl) (by kernel_rfl) ?_; clear hJ w; intro w hJ
      refine wpList_nil ?_
      refine then_normal ?_
      refine wp_seq ?_
      refine wp_region_lit ?_
      refine s_load hJ (t := 24) (x := (.tmp 5)) 18 (.agg #[.int .i64 kind, .int .i64 (0 - vn), .string vs]) 0 (b := b5) (off := 0) (cs := [.int .i64 kind, .int .i64 (0 - vn), .string vs]) (by kernel_rfl) (by kernel_rfl) (by kernel_rfl) (by kernel_rfl) (by kernel_rfl) ?_; clear hJ a; intro a hJ
      refine s_pure hJ 19 (.agg #[.int .i64 1, .int .i64 kind, .int .i64 (0 - vn), .string vs, .string ⟨#[]⟩, .slice none 0 0]) (by kernel_rfl) (fun _ => by kernel_rfl) ?_; clear hJ a; intro a hJ
      refine s_store hJ (t := 27) (x := (.tmp 4)) (y := (.tmp 19)) 1 (.agg #[.int .i64 1, .int .i64 kind, .int .i64 (0 - vn), .string vs, .string ⟨#[]⟩, .slice none 0 0]) (b := b2) (off := 0) (cs := [.int .i64 0, .int .i64 0, .int .i64 0, .string ⟨#[]⟩, .string ⟨#[]⟩, .slice none 0 0]) [.int .i64 1, .int .i64 kind, .int .i64 (0 - vn), .string vs, .string ⟨#[]⟩, .slice none 0 0] (by kernel_rfl) (by kernel_rfl) (by kernel_rfl) (by kernel_rfl) (by kernel_rfl) (by kernel_rfl) (by kernel_rfl) ?_; clear hJ w; intro w hJ
      refine wpList_nil ?_
      refine then_normal ?_
      refine wp_ret ?_
      refine (hQ [.agg #[.int .i64 1, .int .i64 kind, .int .i64 (0 - vn), .string vs, .string ⟨#[]⟩, .slice none 0 0]] [.box b5 [.int .i64 kind, .int .i64 (0 - vn), .string vs], .box b2 [.int .i64 1, .int .i64 kind, .int .i64 (0 - vn), .string vs, .string ⟨#[]⟩, .slice none 0 0], .box b1 [.int .i64 r.k, .int .i64 r.a, .int .i64 r.b, .string r.t]] [] hJ (.rcell hJ 1 (b := b2) (cs := [.int .i64 1, .int .i64 kind, .int .i64 (0 - vn), .string vs, .string ⟨#[]⟩, .slice none 0 0]) (by kernel_rfl) (by kernel_rfl) (by kernel_rfl) .nil) (by kernel_rfl) (by kernel_rfl) ?_).1
      exact congrArg Value.agg (by rw [if_pos hk]; unfold absI; first | rw [if_pos (by omega), show -vn = 0 - vn by omega] | rw [if_neg (by omega)])
    · refine con_start Try.func117 rfl (N := 20) rfl (by kernel_rfl) ?_
      intro hbx hbad Q hQ a w hJ
      replace hJ : J ⟨20, h.w, h.bad, []⟩ [(0, .int .i64 kind), (1, .agg #[.int .i64 r.k, .int .i64 r.a, .int .i64 r.b, .string r.t])] [] h a w := hJ.to (by kernel_rfl) (by kernel_rfl)
      refine wp_seq ?_
      refine wp_region_lit ?_
      refine s_new hJ 3 (fun g => .pointer (some ⟨g, 0, none⟩)) [.int .i64 r.k, .int .i64 r.a, .int .i64 r.b, .string r.t] 98 (by kernel_rfl) (fun _ => by kernel_rfl) ?_; clear hJ a w; intro b1 a w hJ
      refine s_new hJ 4 (fun g => .pointer (some ⟨g, 0, none⟩)) [.int .i64 0, .int .i64 0, .int .i64 0, .string ⟨#[]⟩, .string ⟨#[]⟩, .slice none 0 0] 27 (by kernel_rfl) (fun _ => by kernel_rfl) ?_; clear hJ a w; intro b2 a w hJ
      refine wpList_nil ?_
      refine then_normal ?_
      refine wp_seq ?_
      refine wp_region_lit ?_
      refine s_pure hJ 6 (.int .i64 kind) (by kernel_rfl) (fun _ => by kernel_rfl) ?_; clear hJ a; intro a hJ
      refine s_load hJ (t := 98) (x := (.tmp 3)) 7 (.agg #[.int .i64 r.k, .int .i64 r.a, .int .i64 r.b, .string r.t]) 1 (b := b1) (off := 0) (cs := [.int .i64 r.k, .int .i64 r.a, .int .i64 r.b, .string r.t]) (by kernel_rfl) (by kernel_rfl) (by kernel_rfl) (by kernel_rfl) (by kernel_rfl) ?_; clear hJ a; intro a hJ
      refine s_call hJ 8 (hC _ h1 h3 hr) (by kernel_rfl) (fun _ => by kernel_rfl) ?_; clear hJ a w; rintro _ h3 a w s4 rfl hJ
      refine s_new hJ 5 (fun g => .pointer (some ⟨g, 0, none⟩)) [.int .i64 0, .int .i64 0, .string ⟨#[]⟩] 24 (by kernel_rfl) (fun _ => by kernel_rfl) ?_; clear hJ a w; intro b5 a w hJ
      refine s_store hJ (t := 24) (x := (.tmp 5)) (y := (.tmp 8)) 0 (.agg #[.int .i64 kind, .int .i64 vn, .string vs]) (b := b5) (off := 0) (cs := [.int .i64 0, .int .i64 0, .string ⟨#[]⟩]) [.int .i64 kind, .int .i64 vn, .string vs] (by kernel_rfl) (by kernel_rfl) (by kernel_rfl) (by kernel_rfl) (by kernel_rfl) (by kernel_rfl) (by kernel_rfl) ?_; clear hJ w; intro w hJ
      refine wpList_nil ?_
      refine then_normal ?_
      refine wp_seq ?_
      refine wp_seq ?_
      refine wp_region_lit ?_
      refine s_pure hJ 9 (.int .i64 kind) (by kernel_rfl) (fun _ => by kernel_rfl) ?_; clear hJ a; intro a hJ
      refine s_pure hJ 10 (.bool (kind == 1)) (by kernel_rfl) (fun _ => by kernel_rfl) ?_; clear hJ a; intro a hJ
      refine wpList_nil ?_
      refine then_normal ?_
      refine c_true hJ (t := kind == 1) (by kernel_rfl) (hk') ?_
      refine wp_region_lit ?_
      refine s_pure hJ 11 (.pointer (some ⟨b5, 1, none⟩)) (by kernel_rfl) (fun _ => by kernel_rfl) ?_; clear hJ a; intro a hJ
      refine s_load hJ (t := 3) (x := (.tmp 11)) 12 (.int .i64 vn) 0 (b := b5) (off := 1) (cs := [.int .i64 kind, .int .i64 vn, .string vs]) (by kernel_rfl) (by kernel_rfl) (by kernel_rfl) (by kernel_rfl) (by kernel_rfl) ?_; clear hJ a; intro a hJ
      refine s_pure hJ 13 (.pointer (some ⟨b5, 1, none⟩)) (by kernel_rfl) (fun _ => by kernel_rfl) ?_; clear hJ a; intro a hJ
      refine s_load hJ (t := 3) (x := (.tmp 13)) 14 (.int .i64 vn) 0 (b := b5) (off := 1) (cs := [.int .i64 kind, .int .i64 vn, .string vs]) (by kernel_rfl) (by kernel_rfl) (by kernel_rfl) (by kernel_rfl) (by kernel_rfl) ?_; clear hJ a; intro a hJ
      refine s_pure hJ 15 (.int .i64 (0 - vn)) (by kernel_rfl) (fun w => run_eq (by kernel_rfl) (i64_wrap (by omega) (by omega))) ?_; clear hJ a; intro a hJ
      refine s_pure hJ 16 (.int .i64 vn) (by kernel_rfl) (fun w => run_eq (v0 := .int .i64 (if 0 - vn > vn then 0 - vn else vn)) (by kernel_rfl) (by rw [if_neg hn])) ?_; clear hJ a; intro a hJ
      refine s_pure hJ 17 (.pointer (some ⟨b5, 1, none⟩)) (by kernel_rfl) (fun _ => by kernel_rfl) ?_; clear hJ a; intro a hJ
      refine s_store hJ (t := 3) (x := (.tmp 17)) (y := (.tmp 16)) 0 (.int .i64 vn) (b := b5) (off := 1) (cs := [.int .i64 kind, .int .i64 vn, .string vs]) [.int .i64 kind, .int .i64 vn, .string vs] (by kernel_rfl) (by kernel_rfl) (by kernel_rfl) (by kernel_rfl) (by kernel_rfl) (by kernel_rfl) (by kernel_rfl) ?_; clear hJ w; intro w hJ
      refine wpList_nil ?_
      refine then_normal ?_
      refine wp_seq ?_
      refine wp_region_lit ?_
      refine s_load hJ (t := 24) (x := (.tmp 5)) 18 (.agg #[.int .i64 kind, .int .i64 vn, .string vs]) 0 (b := b5) (off := 0) (cs := [.int .i64 kind, .int .i64 vn, .string vs]) (by kernel_rfl) (by kernel_rfl) (by kernel_rfl) (by kernel_rfl) (by kernel_rfl) ?_; clear hJ a; intro a hJ
      refine s_pure hJ 19 (.agg #[.int .i64 1, .int .i64 kind, .int .i64 vn, .string vs, .string ⟨#[]⟩, .slice none 0 0]) (by kernel_rfl) (fun _ => by kernel_rfl) ?_; clear hJ a; intro a hJ
      refine s_store hJ (t := 27) (x := (.tmp 4)) (y := (.tmp 19)) 1 (.agg #[.int .i64 1, .int .i64 kind, .int .i64 vn, .string vs, .string ⟨#[]⟩, .slice none 0 0]) (b := b2) (off := 0) (cs := [.int .i64 0, .int .i64 0, .int .i64 0, .string ⟨#[]⟩, .string ⟨#[]⟩, .slice none 0 0]) [.int .i64 1, .int .i64 kind, .int .i64 vn, .string vs, .string ⟨#[]⟩, .slice none 0 0] (by kernel_rfl) (by kernel_rfl) (by kernel_rfl) (by kernel_rfl) (by kernel_rfl) (by kernel_rfl) (by kernel_rfl) ?_; clear hJ w; intro w hJ
      refine wpList_nil ?_
      refine then_normal ?_
      refine wp_ret ?_
      refine (hQ [.agg #[.int .i64 1, .int .i64 kind, .int .i64 vn, .string vs, .string ⟨#[]⟩, .slice none 0 0]] [.box b5 [.int .i64 kind, .int .i64 vn, .string vs], .box b2 [.int .i64 1, .int .i64 kind, .int .i64 vn, .string vs, .string ⟨#[]⟩, .slice none 0 0], .box b1 [.int .i64 r.k, .int .i64 r.a, .int .i64 r.b, .string r.t]] [] hJ (.rcell hJ 1 (b := b2) (cs := [.int .i64 1, .int .i64 kind, .int .i64 vn, .string vs, .string ⟨#[]⟩, .slice none 0 0]) (by kernel_rfl) (by kernel_rfl) (by kernel_rfl) .nil) (by kernel_rfl) (by kernel_rfl) ?_).1
      exact congrArg Value.agg (by rw [if_pos hk]; unfold absI; first | rw [if_pos (by omega), show -vn = 0 - vn by omega] | rw [if_neg (by omega)])
  · have hk' : (kind == 1) = false := beq_eq_false_iff_ne.2 hk
    refine con_start Try.func117 rfl (N := 20) rfl (by kernel_rfl) ?_
    intro hbx hbad Q hQ a w hJ
    replace hJ : J ⟨20, h.w, h.bad, []⟩ [(0, .int .i64 kind), (1, .agg #[.int .i64 r.k, .int .i64 r.a, .int .i64 r.b, .string r.t])] [] h a w := hJ.to (by kernel_rfl) (by kernel_rfl)
    refine wp_seq ?_
    refine wp_region_lit ?_
    refine s_new hJ 3 (fun g => .pointer (some ⟨g, 0, none⟩)) [.int .i64 r.k, .int .i64 r.a, .int .i64 r.b, .string r.t] 98 (by kernel_rfl) (fun _ => by kernel_rfl) ?_; clear hJ a w; intro b1 a w hJ
    refine s_new hJ 4 (fun g => .pointer (some ⟨g, 0, none⟩)) [.int .i64 0, .int .i64 0, .int .i64 0, .string ⟨#[]⟩, .string ⟨#[]⟩, .slice none 0 0] 27 (by kernel_rfl) (fun _ => by kernel_rfl) ?_; clear hJ a w; intro b2 a w hJ
    refine wpList_nil ?_
    refine then_normal ?_
    refine wp_seq ?_
    refine wp_region_lit ?_
    refine s_pure hJ 6 (.int .i64 kind) (by kernel_rfl) (fun _ => by kernel_rfl) ?_; clear hJ a; intro a hJ
    refine s_load hJ (t := 98) (x := (.tmp 3)) 7 (.agg #[.int .i64 r.k, .int .i64 r.a, .int .i64 r.b, .string r.t]) 1 (b := b1) (off := 0) (cs := [.int .i64 r.k, .int .i64 r.a, .int .i64 r.b, .string r.t]) (by kernel_rfl) (by kernel_rfl) (by kernel_rfl) (by kernel_rfl) (by kernel_rfl) ?_; clear hJ a; intro a hJ
    refine s_call hJ 8 (hC _ h1 h3 hr) (by kernel_rfl) (fun _ => by kernel_rfl) ?_; clear hJ a w; rintro _ h3 a w s4 rfl hJ
    refine s_new hJ 5 (fun g => .pointer (some ⟨g, 0, none⟩)) [.int .i64 0, .int .i64 0, .string ⟨#[]⟩] 24 (by kernel_rfl) (fun _ => by kernel_rfl) ?_; clear hJ a w; intro b5 a w hJ
    refine s_store hJ (t := 24) (x := (.tmp 5)) (y := (.tmp 8)) 0 (.agg #[.int .i64 kind, .int .i64 vn, .string vs]) (b := b5) (off := 0) (cs := [.int .i64 0, .int .i64 0, .string ⟨#[]⟩]) [.int .i64 kind, .int .i64 vn, .string vs] (by kernel_rfl) (by kernel_rfl) (by kernel_rfl) (by kernel_rfl) (by kernel_rfl) (by kernel_rfl) (by kernel_rfl) ?_; clear hJ w; intro w hJ
    refine wpList_nil ?_
    refine then_normal ?_
    refine wp_seq ?_
    refine wp_seq ?_
    refine wp_region_lit ?_
    refine s_pure hJ 9 (.int .i64 kind) (by kernel_rfl) (fun _ => by kernel_rfl) ?_; clear hJ a; intro a hJ
    refine s_pure hJ 10 (.bool (kind == 1)) (by kernel_rfl) (fun _ => by kernel_rfl) ?_; clear hJ a; intro a hJ
    refine wpList_nil ?_
    refine then_normal ?_
    refine c_false hJ (t := kind == 1) (by kernel_rfl) (hk') ?_
    refine wp_skip ?_
    refine then_normal ?_
    refine wp_seq ?_
    refine wp_region_lit ?_
    refine s_load hJ (t := 24) (x := (.tmp 5)) 18 (.agg #[.int .i64 kind, .int .i64 vn, .string vs]) 0 (b := b5) (off := 0) (cs := [.int .i64 kind, .int .i64 vn, .string vs]) (by kernel_rfl) (by kernel_rfl) (by kernel_rfl) (by kernel_rfl) (by kernel_rfl) ?_; clear hJ a; intro a hJ
    refine s_pure hJ 19 (.agg #[.int .i64 1, .int .i64 kind, .int .i64 vn, .string vs, .string ⟨#[]⟩, .slice none 0 0]) (by kernel_rfl) (fun _ => by kernel_rfl) ?_; clear hJ a; intro a hJ
    refine s_store hJ (t := 27) (x := (.tmp 4)) (y := (.tmp 19)) 1 (.agg #[.int .i64 1, .int .i64 kind, .int .i64 vn, .string vs, .string ⟨#[]⟩, .slice none 0 0]) (b := b2) (off := 0) (cs := [.int .i64 0, .int .i64 0, .int .i64 0, .string ⟨#[]⟩, .string ⟨#[]⟩, .slice none 0 0]) [.int .i64 1, .int .i64 kind, .int .i64 vn, .string vs, .string ⟨#[]⟩, .slice none 0 0] (by kernel_rfl) (by kernel_rfl) (by kernel_rfl) (by kernel_rfl) (by kernel_rfl) (by kernel_rfl) (by kernel_rfl) ?_; clear hJ w; intro w hJ
    refine wpList_nil ?_
    refine then_normal ?_
    refine wp_ret ?_
    refine (hQ [.agg #[.int .i64 1, .int .i64 kind, .int .i64 vn, .string vs, .string ⟨#[]⟩, .slice none 0 0]] [.box b5 [.int .i64 kind, .int .i64 vn, .string vs], .box b2 [.int .i64 1, .int .i64 kind, .int .i64 vn, .string vs, .string ⟨#[]⟩, .slice none 0 0], .box b1 [.int .i64 r.k, .int .i64 r.a, .int .i64 r.b, .string r.t]] [] hJ (.rcell hJ 1 (b := b2) (cs := [.int .i64 1, .int .i64 kind, .int .i64 vn, .string vs, .string ⟨#[]⟩, .slice none 0 0]) (by kernel_rfl) (by kernel_rfl) (by kernel_rfl) .nil) (by kernel_rfl) (by kernel_rfl) ?_).1
    exact congrArg Value.agg (by rw [if_neg hk])

theorem rawAt_ok {l : List RawD} (hl : ∀ r ∈ l, r.ok) (n : Nat) : (rawAt l n).ok := by
  unfold rawAt
  split
  · rename_i r e
    have := hl r (List.mem_of_getElem? e)
    obtain ⟨h1, h2, h3, h4⟩ := this
    refine ⟨h1, ?_, h3, h4⟩
    dsimp only
    rw [IntKind.wrap_i64]
    constructor <;> omega
  · exact ⟨⟨by simp, by simp⟩, ⟨by simp, by simp⟩, ⟨by simp, by simp⟩, by exact Nat.zero_le _⟩

set_option maxRecDepth 100000 in
theorem gen_next_none (g : Nat) (sl : Value) (n : Nat) (h : Vw) (hr : RS h 4 sl []) :
    C1 Try.prog 55 #[.pointer (some ⟨g, 0, none⟩)] h g [sl, .int .i64 (n : Int)] (fun v cs' _ => v = (rawAt [] n).val ∧ cs' = [sl, .int .i64 (n : Int)]) := by
  obtain ⟨A, cap, rfl, -⟩ := hr.form
  refine con_start Try.func55 rfl (N := 49) rfl (by kernel_rfl) ?_
  intro hbx hbad Q hQ a w hJ
  replace hJ : J ⟨49, h.w, h.bad, [g]⟩ [(0, .pointer (some ⟨g, 0, none⟩))] [.box g [.slice A 0 cap, .int .i64 (n : Int)]] h a w := hJ.to (by kernel_rfl) (by kernel_rfl)
  refine wp_seq ?_
  refine wp_region_lit ?_
  refine s_new hJ 2 (fun g => .pointer (some ⟨g, 0, none⟩)) [.int .i64 0, .int .i64 0, .int .i64 0, .string ⟨#[]⟩] 98 (by kernel_rfl) (fun _ => by kernel_rfl) ?_; clear hJ a w; intro b1 a w hJ
  refine wpList_nil ?_
  refine then_normal ?_
  refine wp_seq ?_
  refine wp_seq ?_
  refine wp_region_lit ?_
  refine s_pure hJ 4 (.pointer (some ⟨g, 0, none⟩)) (by kernel_rfl) (fun _ => by kernel_rfl) ?_; clear hJ a; intro a hJ
  refine s_pure hJ 5 (.pointer (some ⟨g, 0, none⟩)) (by kernel_rfl) (fun _ => by kernel_rfl) ?_; clear hJ a; intro a hJ
  refine s_pure hJ 6 (.pointer (some ⟨g, 0, none⟩)) (by kernel_rfl) (fun _ => by kernel_rfl) ?_; clear hJ a; intro a hJ
  refine s_load hJ (t := 22) (x := (.tmp 6)) 7 (.slice A 0 cap) 1 (b := g) (off := 0) (cs := [.slice A 0 cap, .int .i64 (n : Int)]) (by kernel_rfl) (by kernel_rfl) (by kernel_rfl) (by kernel_rfl) (by kernel_rfl) ?_; clear hJ a; intro a hJ
  refine s_pure hJ 8 (.int .i64 0) (by kernel_rfl) (fun _ => by kernel_rfl) ?_; clear hJ a; intro a hJ
  refine s_pure hJ 9 (.bool true) (by kernel_rfl) (fun _ => by kernel_rfl) ?_; clear hJ a; intro a hJ
  refine wpList_nil ?_
  refine then_normal ?_
  refine c_true hJ (t := true) (by kernel_rfl) rfl ?_
  refine wp_seq ?_
  refine wp_region_lit ?_
  refine s_pure hJ 10 (.agg #[.int .i64 0, .int .i64 0, .int .i64 0, .string ⟨#[]⟩]) (by kernel_rfl) (fun _ => by kernel_rfl) ?_; clear hJ a; intro a hJ
  refine s_store hJ (t := 98) (x := (.tmp 2)) (y := (.tmp 10)) 0 (.agg #[.int .i64 0, .int .i64 0, .int .i64 0, .string ⟨#[]⟩]) (b := b1) (off := 0) (cs := [.int .i64 0, .int .i64 0, .int .i64 0, .string ⟨#[]⟩]) [.int .i64 0, .int .i64 0, .int .i64 0, .string ⟨#[]⟩] (by kernel_rfl) (by kernel_rfl) (by kernel_rfl) (by kernel_rfl) (by kernel_rfl) (by kernel_rfl) (by kernel_rfl) ?_; clear hJ w; intro w hJ
  refine wpList_nil ?_
  refine then_normal ?_
  refine wp_ret ?_
  refine then_ret ?_
  refine (hQ [.agg #[.int .i64 0, .int .i64 0, .int .i64 0, .string ⟨#[]⟩]] [.box b1 [.int .i64 0, .int .i64 0, .int .i64 0, .string ⟨#[]⟩]] [(g, [.slice A 0 cap, .int .i64 (n : Int)])] hJ (.rcell hJ 0 (b := b1) (cs := [.int .i64 0, .int .i64 0, .int .i64 0, .string ⟨#[]⟩]) (by kernel_rfl) (by kernel_rfl) (by kernel_rfl) .nil) (by kernel_rfl) (by kernel_rfl) ?_).1
  exact ⟨_, rfl, rfl, rfl⟩

theorem gen_next_any (g : Nat) (l : List RawD) (sl : Value) (n : Nat) (h : Vw) (hr : RS h 4 sl (l.map RawD.cs)) (hn : n < 1000000) (hlen : l.length * 40 ≤ reachBytes) :
    C1 Try.prog 55 #[.pointer (some ⟨g, 0, none⟩)] h g [sl, .int .i64 (n : Int)] (fun v cs' _ => v = (rawAt l n).val ∧ cs' = [sl, .int .i64 ((atNext l n : Nat) : Int)]) := by
  by_cases hl : l = []
  · subst hl
    have e : atNext [] n = n := rfl
    rw [e]
    exact gen_next_none g sl n h hr
  · have e : atNext l n = n + 1 := if_neg hl
    rw [e]
    exact gen_next_some g l sl n h hr hl hn hlen

end Go.Proofs.Ytgjndkphfabnnaa

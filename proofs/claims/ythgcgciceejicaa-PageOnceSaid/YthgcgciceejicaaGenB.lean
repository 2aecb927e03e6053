/-
  Contracts of the generator: constant, leaf. Contract of the generator's leaf.
-/
import Derived.Test.YthgcgciceejicaaGo
import Derived.Test.YthgcgciceejicaaEx
namespace Go.Proofs.Ythgcgciceejicaa
open Go.RowKit
set_option linter.unusedVariables false

theorem rs_cells {h : Vw} {b k : Nat} (rows : List (List Value)) (hk : ∀ r ∈ rows, r.length = k) (hm : rows.length ≤ maxLen) (c : Cells h b 0 rows.flatten) : RS h k (.slice (some ⟨b, 0, none⟩) rows.length rows.length) rows := by
  refine .inr ⟨b, 0, rows.length, rfl, Nat.le_refl _, hm, c.lt, c.ok, fun i r hi j v hj => ?_⟩
  have := c.lies (i * k + j) v (flat_get rows hk i r j v hi hj)
  rwa [← Nat.add_assoc] at this
theorem pick_range (n m : Int) (h : 1 ≤ m) : 0 ≤ pickL n m ∧ pickL n m < m := ⟨pickL_lo n m h, pickL_hi n m h⟩
theorem c_picked (n m : Int) (h : Vw) (h0 : -9223372036854775808 ≤ n) (h1 : n ≤ 9223372036854775807) (h2 : 1 ≤ m) (h3 : m ≤ 9223372036854775807) :
    C0 Try.prog 9 #[.int .i64 n, .int .i64 m] h (fun v _ => v = .int .i64 (pickL n m)) := C0.of_same (fun w => picked_any n m w h0 h1 h2 h3) h
theorem c_value (kind : Int) (x : RawD) (h : Vw) (h1 : 1 ≤ kind) (h3 : kind ≤ 3) (hx : x.ok) :
    C0 Try.prog 41 #[.int .i64 kind, .agg #[.int .i64 x.k, .int .i64 x.a, .int .i64 x.b, .string x.t]] h (fun v _ => v = .agg #[.int .i64 kind, .int .i64 (valN kind x.k x.a), .string (valS kind x.t)]) := C0.of_gives (fun w => val_any kind x w h1 h3 hx) h

theorem val_lim (kind : Int) (r : RawD) (h1 : 1 ≤ kind) (h3 : kind ≤ 3) : -1099511627776 ≤ valN kind r.k r.a ∧ valN kind r.k r.a ≤ 1099511627776 := by
  rcases val_known kind r.k r.a r.t h1 h3 with ⟨_, ⟨a, b⟩, _⟩ | ⟨_, h, _⟩ | ⟨_, h, _⟩
  · exact ⟨a, b⟩
  · omega
  · omega

set_option maxRecDepth 100000 in
theorem constant_any (kind : Int) (r : RawD) (h : Vw) (h1 : 1 ≤ kind) (h3 : kind ≤ 3) (hr : r.ok) :
    C0 Try.prog 36 #[.int .i64 kind, r.val] h (fun v _ => v = .agg (exRow (constE kind r) (.slice none 0 0)).toArray) := by
  have hv := val_lim kind r h1 h3
  have hC := c_value kind r
  have e : exRow (constE kind r) (.slice none 0 0) = [.int .i64 1, .int .i64 kind, .int .i64 (if kind = 1 then absI (valN kind r.k r.a) else valN kind r.k r.a), .string (valS kind r.t), .string ⟨#[]⟩, .slice none 0 0] := rfl
  rw [e]
  clear e
  generalize valN kind r.k r.a = vn at *
  generalize valS kind r.t = vs at *
  refine g_con Try.func36 fun hbx hbad Q hQ => ?_
  refine go3 22 [.own, .own, .b 1 0, .cl 41 #[Vi kind, .agg #[Vi r.k, Vi r.a, Vi r.b, .string r.t]] (.agg #[Vi kind, Vi vn, .string vs]), .own, .b 0 0] [] ?_ (ho := (And.intro (fun H sH => hC _ h1 h3 hr) (trivial)))
  intro b1 b2 b3
  by_cases hk : kind = 1
  · skip
    refine g_true (t := kind == 1) (beq_iff_eq.2 hk) ?_
    refine go0 19 [.b 0 1, .b 0 1, .b 0 1, .b 0 0, .b 1 0] [(15, Vi (IntKind.i64.wrap (0 - vn)), Vi (0 - vn)), (16, Vi (if (0 - vn) > vn then (0 - vn) else vn), Vi (absI vn))] ?_ (hc := (And.intro (i64_wrap (by omega) (by omega)) (And.intro (congrArg (Value.int .i64) (by unfold absI; split <;> split <;> omega)) (trivial))))
    refine hQ.to [.agg #[Vi 1, Vi kind, Vi (absI vn), .string vs, Ve, Vz]] (fun H sH => ?_) (ix := [1])
    exact by rw [if_pos hk]; rfl
  · skip
    refine g_false (t := kind == 1) (beq_eq_false_iff_ne.2 hk) ?_
    refine go0 10 [.b 0 0, .b 1 0] [] ?_
    refine hQ.to [.agg #[Vi 1, Vi kind, Vi vn, .string vs, Ve, Vz]] (fun H sH => ?_) (ix := [1])
    exact by rw [if_neg hk]; rfl

theorem rawAt_ok {l : List RawD} (hl : ∀ r ∈ l, r.ok) (n : Nat) : (rawAt l n).ok := by
  unfold rawAt
  split
  · rename_i r e
    have := hl r (List.mem_of_getElem? e)
    obtain ⟨h1, h2, h3, h4⟩ := this
    refine ⟨h1, ?_, h3, h4⟩
    dsimp only
    rw [IntKind.wrap_i64]
    constructor <;> omega
  · exact ⟨⟨by simp, by simp⟩, ⟨by simp, by simp⟩, ⟨by simp, by simp⟩, by exact Nat.zero_le _⟩

set_option maxRecDepth 100000 in
theorem gen_next_none (g : Nat) (sl : Value) (n : Nat) (h : Vw) (hr : RS h 4 sl []) :
    C1 Try.prog 11 #[.pointer (some ⟨g, 0, none⟩)] h g [sl, .int .i64 (n : Int)] (fun v cs' _ => v = (rawAt [] n).val ∧ cs' = [sl, .int .i64 (n : Int)]) := by
  obtain ⟨A, cap, rfl, -⟩ := hr.form
  refine g_con Try.func11 fun hbx hbad Q hQ => ?_
  refine go1 25 [.own, .b 1 0, .b 0 0] [] ?_
  intro b1
  refine hQ.toB [.agg #[Vi 0, Vi 0, Vi 0, Ve]] [[.slice A 0 cap, Vi (n : Int)]] (fun H sH => ?_) (ix := [0])
  exact ⟨_, rfl, rfl, rfl⟩

theorem gen_next_any (g : Nat) (l : List RawD) (sl : Value) (n : Nat) (h : Vw) (hr : RS h 4 sl (l.map RawD.cs)) (hn : n < 1000000) (hlen : l.length * 40 ≤ reachBytes) :
    C1 Try.prog 11 #[.pointer (some ⟨g, 0, none⟩)] h g [sl, .int .i64 (n : Int)] (fun v cs' _ => v = (rawAt l n).val ∧ cs' = [sl, .int .i64 ((atNext l n : Nat) : Int)]) := by
  by_cases hl : l = []
  · subst hl
    have e : atNext [] n = n := rfl
    rw [e]
    exact gen_next_none g sl n h hr
  · have e : atNext l n = n + 1 := if_neg hl
    rw [e]
    exact gen_next_some g l sl n h hr hl hn hlen


def zE : Ex := .mk 0 0 0 ⟨#[]⟩ ⟨#[]⟩ []

abbrev strRows (l : List ByteArray) : List (List Value) := l.map (fun s => [.string s])
theorem namesOf_succ {fs : List Fd} {kind : Int} {k : Nat} {f : Fd} (hf : fs[k]? = some f) : namesOf (fs.take (k + 1)) kind = namesOf (fs.take k) kind ++ (if f.ty == kind then [f.name] else []) := by
  unfold namesOf
  rw [List.take_add_one, hf, List.filter_append, List.map_append]
  congr 1
  by_cases h : f.ty == kind <;> simp [h]
theorem namesOf_len (fs : List Fd) (kind : Int) : (namesOf fs kind).length ≤ fs.length := by
  unfold namesOf; rw [List.length_map]; exact List.length_filter_le _ _

/-- A view with fewer blocks that are out of bounds. -/
theorem sees_free (h : Vw) (m : List Nat) : Sees h ⟨h.w, h.bad.filter fun b => m.contains b⟩ := ⟨Nat.le_refl _, fun _ _ _ => rfl, fun b hb _ => (List.mem_filter.1 hb).1⟩
theorem sees_free' (h : Vw) (m : List Nat) : Sees ⟨h.w, m⟩ ⟨h.w, h.bad.filter fun b => m.contains b⟩ := ⟨Nat.le_refl _, fun _ _ _ => rfl, fun b hb _ => by simpa using (List.mem_filter.1 hb).2⟩
theorem C1.free {P : Program} {f : FuncId} {args : Array Value} {h : Vw} {g : Nat} {cs : List Value} {R : Value → List Value → Prop} {m : List Nat} (hg : g ∈ m) (hc : C1 P f args ⟨h.w, h.bad.filter fun b => m.contains b⟩ g cs (fun v c _ => R v c)) : C1 P f args h g cs (fun v c _ => R v c) := fun a1 a2 a3 a4 =>
  hc a1 a2 (fun x hx => List.mem_filter.2 ⟨a3 x hx, by rw [List.mem_singleton.1 hx]; simpa using hg⟩) fun b hb => a4 b (List.mem_filter.1 hb).1

set_option maxRecDepth 100000 in
theorem leaf_any (g : Nat) (l : List RawD) (sl : Value) (n : Nat) (kind : Int) (fs : List Fd) (fv : Value) (m : List Nat) (h : Vw) (hr : RS h 4 sl (l.map RawD.cs)) (hn : n < 1000000) (hlen : l.length * 40 ≤ reachBytes) (hok : ∀ r ∈ l, r.ok)
    (h1 : 1 ≤ kind) (h3 : kind ≤ 3) (hf : IsFds ⟨h.w, m⟩ fv fs) (hfs : fs.length ≤ 100) (hg : g ∈ m) :
    C1 Try.prog 25 #[.pointer (some ⟨g, 0, none⟩), .int .i64 kind, fv] h g [sl, .int .i64 (n : Int)] (fun v cs' _ => v = .agg (exRow (leafE (rawAt l n) fs kind) (.slice none 0 0)).toArray ∧ cs' = [sl, .int .i64 ((atNext l n : Nat) : Int)]) := by
  refine C1.free hg ?_
  replace hr := hr.sees (sees_free h m)
  replace hf := hf.sees (sees_free' h m)
  generalize (⟨h.w, h.bad.filter fun b => m.contains b⟩ : Vw) = h at *
  obtain ⟨fvs, hrs, hsrc⟩ := hf
  have hfl := fdRows_len hsrc.len
  have hvl := hsrc.len
  obtain ⟨A, cap, rfl, hc1, hc2, -⟩ := hrs.form
  rw [hfl] at hc1 hrs ⊢
  have hro := rawAt_ok hok n
  have hcon := constant_any kind (rawAt l n)
  have hnl := namesOf_len fs kind
  have hpi := c_picked (rawAt l n).k 4
  have hpb := c_picked (rawAt l n).b (namesOf fs kind).length
  generalize hL : fs.length = len at *
  refine g_con Try.func25 fun hbx hbad Q hQ => ?_
  refine go1 8 [.own] [] ?_
  intro b1
  refine g_call1 1 (fun H sH => gen_next_any g l sl n _ (hr.sees sH) hn hlen) ?_; rintro _ _ W2 S3 ⟨rfl, rfl⟩
  refine go1 18 [.own, .b 0 0] [] ?_
  intro b4
  refine g_nilrow 9 1 ?_
  refine g_loop [0, 1, 0, 1, 1, 1] [.block 0, .seq [1, 1, 1, 1]] (fun (k : Nat) X => ∃ (W5 : Vw) (v : Value), X W5 [(1, Vi kind), (6, Vp b1), (7, Vp b4), (13, .slice A len cap), (14, Vi (len : Int)), (15, Vi (k : Int)), (8, v)] [.row v 9 1 (strRows (namesOf (fs.take k) kind)), .box b4 [Vi ((rawAt l n).k), Vi ((rawAt l n).a), Vi ((rawAt l n).b), .string ((rawAt l n).t)], .box b1 [Vi 0, Vi 0, Vi 0, Ve, Ve, Vz], .box g [sl, Vi ((atNext l n : Nat) : Int)]] [] ∧ Sees W2 W5 ∧ (k ≤ len)) (fun k => len - k) (0) (fun X q => ⟨W2, (Vz), q _ _ _ _ ⟨rfl, by kernel_rfl⟩, Sees.refl _, Nat.zero_le _⟩) ?_
  rintro k a w ⟨W5, v, hJ, S6, hk⟩; refine g_of hJ ?_; clear hJ a w
  refine go0 6 [] [] ?_
  rcases (by omega : k < len ∨ len = k) with hlt | hke
  · obtain ⟨f, hfk⟩ : ∃ f, fs[k]? = some f := ⟨_, List.getElem?_eq_getElem (by omega)⟩
    obtain ⟨u, huk⟩ : ∃ u, fvs[k]? = some u := ⟨_, List.getElem?_eq_getElem (by omega)⟩
    have hrow : (fdRows fs fvs)[k]? = some _ := fdRows_get hfk huk
    obtain ⟨Au, nu, cu, rfl⟩ := (AllArgs.get hsrc (by rw [List.getElem?_map, hfk]; rfl) huk).slice
    have hns := namesOf_succ (kind := kind) hfk
    have hnk := namesOf_len (fs.take k) kind
    rw [List.length_take] at hnk
    refine g_true (t := decide ((k : Int) < (len : Int))) (decide_eq_true (by omega)) ?_
    refine go0 6 [] [] ?_
    obtain ⟨b7, o8, rfl, -, c9⟩ := RS.row hrs (hrow)
    refine g_fact (c9.sees (S3.trans S6)) ?_
    refine go1 14 [.ix b7 o8 len cap k, .f 0 0, .own, .b 0 0, .b 0 2] [] ?_ (ho := (And.intro (by first | omega | (simp; omega)) (trivial)))
    intro b10
    rcases Bool.eq_false_or_eq_true (f.ty == kind) with hty | hty
    · rw [hty] at hns
      refine g_true (t := f.ty == kind) (hty) ?_
      refine gov1 5 [.b 0 0, .fix] [] ?_
      intro b11 W12 S13
      refine goa0 9 [.ap 1 0 (strRows (namesOf (fs.take k) kind)) [[.string f.name]]] [(28, Vi (IntKind.i64.wrap ((k : Int) + 1)), Vi ((k : Int) + 1))] ?_ (ho := (And.intro (by constructor <;> (simp; omega)) (trivial))) (hc := (And.intro (i64_wrap (by omega) (by omega)) (trivial)))
      intro v15 W14 S15
      refine g_is [(1, Vi kind), (6, Vp b1), (7, Vp b4), (13, .slice (some ⟨b7, o8, none⟩) len cap), (14, Vi (len : Int)), (8, .slice (sA v15) (sN v15) (sC v15)), (15, Vi ((k : Int) + 1))] [.row (.slice (sA v15) (sN v15) (sC v15)) 9 1 ((strRows (namesOf (fs.take k) kind)) ++ [[.string f.name]]), .box b4 [Vi ((rawAt l n).k), Vi ((rawAt l n).a), Vi ((rawAt l n).b), .string ((rawAt l n).t)], .box b1 [Vi 0, Vi 0, Vi 0, Ve, Ve, Vz], .box g [sl, Vi ((atNext l n : Nat) : Int)]] [] ?_
      exact g_round (k + 1) (fun X q => ⟨W14, .slice (sA v15) (sN v15) (sC v15), q _ _ _ _ (says_ents (by rw [hns]; simp [strRows])), (S6.trans (S13.trans S15)), by omega⟩) (by omega)
    · skip
      rw [hty] at hns
      refine g_false (t := f.ty == kind) (hty) ?_
      refine go0 7 [] [(28, Vi (IntKind.i64.wrap ((k : Int) + 1)), Vi ((k : Int) + 1))] ?_ (hc := (And.intro (i64_wrap (by omega) (by omega)) (trivial)))
      refine g_is [(1, Vi kind), (6, Vp b1), (7, Vp b4), (13, .slice (some ⟨b7, o8, none⟩) len cap), (14, Vi (len : Int)), (8, v), (15, Vi ((k : Int) + 1))] [.row v 9 1 (strRows (namesOf (fs.take k) kind)), .box b4 [Vi ((rawAt l n).k), Vi ((rawAt l n).a), Vi ((rawAt l n).b), .string ((rawAt l n).t)], .box b1 [Vi 0, Vi 0, Vi 0, Ve, Ve, Vz], .box g [sl, Vi ((atNext l n : Nat) : Int)]] [] ?_
      exact g_round (k + 1) (fun X q => ⟨W5, v, q _ _ _ _ (says_ents (by rw [hns]; simp [strRows])), S6, by omega⟩) (by omega)
  · skip
    have htk : fs.take k = fs := by rw [← hke, ← hL, List.take_length]
    rw [htk]
    refine g_false (t := decide ((k : Int) < (len : Int))) (decide_eq_false (by omega)) ?_
    refine go0 2 [] [] ?_
    refine g_leave ?_
    refine go0 6 [] [] ?_
    refine g_form 0 (v := v) (e := 9) (kk := 1) (l := strRows (namesOf fs kind)) ?_; intro A2 c2 hE_v hc_v hm_v
    rw [show (strRows (namesOf fs kind)).length = (namesOf fs kind).length from by first | omega | (simp; done) | (simp; omega)] at hE_v hc_v
    rw [hE_v]
    refine g_frozen 0 (v := .slice A2 ((namesOf fs kind).length) c2) (e := 9) (kk := 1) (l := strRows (namesOf fs kind)) (fun a w hJ => hJ.j.out1 (v := .slice A2 ((namesOf fs kind).length) c2) (e := 9) (k := 1) (l := strRows (namesOf fs kind)) (g := g) (cs := [sl, Vi ((atNext l n : Nat) : Int)]) 0 3 (by kernel_rfl) (by kernel_rfl) (by kernel_rfl) rfl) ?_; intro W16 S17 frs
    refine go0 3 [] [] ?_
    rcases Nat.eq_zero_or_pos (namesOf fs kind).length with hz | hpos
    · refine g_rew 32 (v := .bool (((namesOf fs kind).length : Int) == 0)) (v' := .bool true) (congrArg Value.bool (beq_iff_eq.2 (by omega))) ?_
      refine go0 18 [.b 0 0, .cl 36 #[Vi kind, .agg #[Vi ((rawAt l n).k), Vi ((rawAt l n).a), Vi ((rawAt l n).b), .string ((rawAt l n).t)]] (.agg #[Vi ((constE kind (rawAt l n)).op), Vi ((constE kind (rawAt l n)).k), Vi ((constE kind (rawAt l n)).n), .string ((constE kind (rawAt l n)).s), .string ((constE kind (rawAt l n)).nm), Vz]), .b 1 0] [] ?_ (ho := (And.intro (fun H sH => hcon _ h1 h3 hro) (trivial)))
      have e : leafE (rawAt l n) fs kind = constE kind (rawAt l n) := by unfold leafE; rw [List.length_eq_zero_iff.1 hz]; rfl
      refine hQ.toB [.agg #[Vi ((constE kind (rawAt l n)).op), Vi ((constE kind (rawAt l n)).k), Vi ((constE kind (rawAt l n)).n), .string ((constE kind (rawAt l n)).s), .string ((constE kind (rawAt l n)).nm), Vz]] [[sl, Vi ((atNext l n : Nat) : Int)]] (fun H sH => ?_) (ix := [1])
      exact by rw [e]; exact ⟨_, rfl, rfl, rfl⟩
    · skip
      have hz : ((namesOf fs kind).length == 0) = false := by rw [beq_eq_false_iff_ne]; omega
      obtain ⟨hk0, hk1⟩ := hro.1
      obtain ⟨hb0, hb1⟩ := hro.2.2.1
      have p0 := pickL_lo (rawAt l n).b (namesOf fs kind).length (by omega)
      have p1 := pickL_hi (rawAt l n).b (namesOf fs kind).length (by omega)
      have hpb' := fun h => hpb h hb0 hb1 (by omega) (by omega)
      obtain ⟨j, hj⟩ : ∃ j : Nat, pickL (rawAt l n).b (namesOf fs kind).length = (j : Int) := ⟨_, (Int.toNat_of_nonneg p0).symm⟩
      rw [hj] at p1
      obtain ⟨s, hs⟩ : ∃ s, (namesOf fs kind)[j]? = some s := ⟨_, List.getElem?_eq_getElem (by omega)⟩
      have e : leafE (rawAt l n) fs kind = if pickL (rawAt l n).k 4 = 0 then constE kind (rawAt l n) else refE s := by unfold leafE; rw [hj, Int.toNat_natCast, hs]
      refine g_rew 32 (v := .bool (((namesOf fs kind).length : Int) == 0)) (v' := .bool false) (congrArg Value.bool (by rw [beq_eq_false_iff_ne]; omega)) ?_
      refine go0 7 [.b 0 0, .cl 9 #[Vi ((rawAt l n).k), Vi 4] (Vi (pickL (rawAt l n).k 4))] [] ?_ (ho := (And.intro (fun H sH => hpi _ hk0 hk1 (by omega) (by omega)) (trivial)))
      by_cases hq : pickL (rawAt l n).k 4 = 0
      · skip
        refine g_true (t := (pickL (rawAt l n).k 4) == 0) (beq_iff_eq.2 hq) ?_
        refine go0 10 [.b 0 0, .cl 36 #[Vi kind, .agg #[Vi ((rawAt l n).k), Vi ((rawAt l n).a), Vi ((rawAt l n).b), .string ((rawAt l n).t)]] (.agg #[Vi ((constE kind (rawAt l n)).op), Vi ((constE kind (rawAt l n)).k), Vi ((constE kind (rawAt l n)).n), .string ((constE kind (rawAt l n)).s), .string ((constE kind (rawAt l n)).nm), Vz]), .b 1 0] [] ?_ (ho := (And.intro (fun H sH => hcon _ h1 h3 hro) (trivial)))
        refine hQ.toB [.agg #[Vi ((constE kind (rawAt l n)).op), Vi ((constE kind (rawAt l n)).k), Vi ((constE kind (rawAt l n)).n), .string ((constE kind (rawAt l n)).s), .string ((constE kind (rawAt l n)).nm), Vz]] [[sl, Vi ((atNext l n : Nat) : Int)]] (fun H sH => ?_) (ix := [1])
        exact by rw [e, if_pos hq]; exact ⟨_, rfl, rfl, rfl⟩
      · skip
        rw [hj] at hpb'
        have hsi : (strRows (namesOf fs kind))[j]? = some [.string s] := by rw [List.getElem?_map, hs]; rfl
        refine g_false (t := (pickL (rawAt l n).k 4) == 0) (beq_eq_false_iff_ne.2 hq) ?_
        refine go0 10 [.b 0 2, .cl 9 #[Vi ((rawAt l n).b), Vi ((namesOf fs kind).length : Int)] (Vi (j : Int))] [] ?_ (ho := (And.intro (fun H sH => hpb' _) (trivial)))
        obtain ⟨b18, o19, rfl, -, c20⟩ := RS.row frs (hsi)
        refine g_fact (c20.sees (Sees.refl _)) ?_
        refine go0 7 [.ix b18 o19 ((namesOf fs kind).length) c2 j, .f 0 0, .b 1 0] [] ?_ (ho := (And.intro (by first | omega | (simp; omega)) (trivial)))
        refine hQ.toB [.agg #[Vi 2, Vi 0, Vi 0, Ve, .string s, Vz]] [[sl, Vi ((atNext l n : Nat) : Int)]] (fun H sH => ?_) (ix := [1])
        exact by rw [e, if_neg hq]; exact ⟨_, rfl, rfl, rfl⟩

end Go.Proofs.Ythgcgciceejicaa

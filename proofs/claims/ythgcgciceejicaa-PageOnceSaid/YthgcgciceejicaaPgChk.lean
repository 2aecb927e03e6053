/-
  Contract of page.Check where the pages may be.
-/
import Derived.Test.YthgcgciceejicaaGo
import Derived.Test.YthgcgciceejicaaPage
import Derived.Test.YthgcgciceejicaaChk
namespace Go.Proofs.Ythgcgciceejicaa
open Go.RowKit
set_option linter.unusedVariables false

theorem pgRows_take : ∀ (k : Nat) {l : List Pg} {us vs : List Value}, us.length = l.length → vs.length = l.length → (pgRows l us vs).take k = pgRows (l.take k) (us.take k) (vs.take k)
  | 0, l, us, vs, _, _ => by simp [pgRows]
  | k + 1, [], [], [], _, _ => rfl
  | k + 1, p :: l, u :: us, v :: vs, h1, h2 => by
    show (pgRow p u v :: pgRows l us vs).take (k + 1) = pgRow p u v :: pgRows (l.take k) (us.take k) (vs.take k)
    rw [List.take_succ_cons, pgRows_take k (by simpa using h1) (by simpa using h2)]
theorem AllStr.take {h : Vw} : ∀ (k : Nat) {l : List (List ByteArray)} {us : List Value}, AllStr h l us → AllStr h (l.take k) (us.take k)
  | 0, _, _, _ => rfl
  | k + 1, [], _, e => by cases e; rfl
  | k + 1, x :: l, _, ⟨u, r, e, k1, k2⟩ => by subst e; exact ⟨u, r.take k, rfl, k1, AllStr.take k k2⟩
theorem pgs_take {h : Vw} {A : Option Addr} {cap : Nat} {l : List Pg} (hp : IsPgs h (.slice A l.length cap) l) (k : Nat) (hk : k ≤ l.length) : IsPgs h (.slice A k cap) (l.take k) := by
  obtain ⟨us, vs, hr, hs, ha⟩ := hp
  have hu := hs.len
  have hv := ha.len
  rw [List.length_map] at hu hv
  refine ⟨us.take k, vs.take k, ?_, ?_, ?_⟩
  · have := hr.take k (by rw [pgRows_len hu hv]; omega)
    rwa [pgRows_take k hu hv] at this
  · rw [List.map_take]; exact AllStr.take k hs
  · rw [List.map_take]; exact AllArgs.take' k ha
/-- Pages may be. -/
structure OkGs (fs : List Fd) (l : List Pg) : Prop where
  one : 1 ≤ l.length
  few : l.length ≤ 6
  name : ∀ p ∈ l, NameOk p.name.data.toList
  nodup : (l.map (·.name)).Nodup
  fl : ∀ p ∈ l, p.fields.length ≤ 100
  here : ∀ p ∈ l, ∀ s ∈ p.fields, 0 ≤ findF fs s
  once : (l.flatMap (·.fields)).Nodup
  skip : ∀ p ∈ l, p.skip = zE ∨ (p.skip.op ≠ 0 ∧ WfE p.skip ∧ (szE p.skip).1 < 1000000 ∧ fitsE fs p.skip 2 = 0)

set_option maxHeartbeats 8000000 in
set_option maxRecDepth 100000 in
theorem pgCheck_any (fs : List Fd) (fv : Value) (l : List Pg) (v : Value) (h : Vw) (hok : OkGs fs l) (hp : IsPgs h v l) (hfs : IsFds h fv fs) (hfl : fs.length ≤ 1000) : C0 Try.prog 5 #[v, fv] h (fun r _ => r = .int .i64 0) := by
  obtain ⟨us, vs, A, cap, rfl, hcap, hr, hs, ha, hul, hvl⟩ := pgs_open hp
  have hlc : l.length ≤ cap := by
    obtain ⟨A', c', e', h1, -, -⟩ := hr.form
    rw [pgRows_len hul hvl] at h1
    simp only [Value.slice.injEq] at e'
    omega
  obtain ⟨-, Af, cf, rfl, -, -, -, -, -, -⟩ := fds_open hfs
  have one := hok.one
  have few := hok.few
  have hat := fun i p hp => pg_at (i := i) (p := p) hs ha hp
  have htk := fun k hk => pgs_take (h := h) (A := A) (cap := cap) (l := l) hp k hk
  have hFi := fun H s q => findP_any fs (.slice Af fs.length cf) s H q (by omega)
  have hGf := fun k H s q => gFind_any (l.take k) (.slice A k cap) s H q (by rw [List.length_take]; omega) (fun p hp => by have := hok.fl p (List.mem_of_mem_take hp); omega)
  generalize hL : l.length = len at *
  generalize hM : fs.length = fl at *
  refine g_con Try.func5 fun hbx hbad Q hQ => ?_
  refine go0 35 [] [(18, .bool (decide ((len : Int) < 1)), .bool false), (22, .bool (decide ((len : Int) > 6)), .bool false)] ?_ (hc := (And.intro (congrArg Value.bool (decide_eq_false (by omega))) (And.intro (congrArg Value.bool (decide_eq_false (by omega))) (trivial))))
  refine g_nilrow 9 1 ?_
  refine g_loop [0, 1, 0, 1, 1, 1] [.block 0, .seq [1, 1, 1, 1]] (fun (k : Nat) X => ∃ (W1 : Vw) (mv : Value), X W1 [(0, .slice A len cap), (1, .slice Af fl cf), (24, .slice A len cap), (25, Vi (len : Int)), (26, Vi (k : Int)), (5, mv)] [.row mv 9 1 (strRows ((l.take k).flatMap (·.fields)))] [] ∧ Sees h W1 ∧ (k ≤ len)) (fun k => len - k) (0) (fun X q => ⟨h, (Vz), q _ _ _ _ ⟨rfl, by kernel_rfl⟩, Sees.refl _, Nat.zero_le _⟩) ?_
  rintro k a w ⟨W1, mv, hJ, S2, hk⟩; refine g_of hJ ?_; clear hJ a w
  refine go0 6 [] [] ?_
  rcases (by omega : k < len ∨ k = len) with hlt | hke
  · obtain ⟨p, hpk⟩ : ∃ p, l[k]? = some p := ⟨_, List.getElem?_eq_getElem (by omega)⟩
    have hpm := List.mem_of_getElem? hpk
    obtain ⟨Au, cu, Bu, mu, du, hrow, hrs, hxa⟩ := hat k p hpk
    have hnm := hok.name p hpm
    have htp := htk k hk
    have hno : findG (l.take k) p.name = -1 := fidx_none _ _ fun y hy => tl_no fun e => by
      obtain ⟨j, hj⟩ := List.mem_iff_getElem?.1 hy
      rw [List.getElem?_take] at hj
      split at hj
      · rename_i hjk
        have h1 : (l.map (fun p : Pg => p.name))[j]? = some p.name := by rw [List.getElem?_map, hj]; simp [e]
        have h2 : (l.map (fun p : Pg => p.name))[k]? = some p.name := by rw [List.getElem?_map, hpk]; rfl
        have := (List.getElem?_inj (by rw [List.length_map]; omega) hok.nodup).1 (h1.trans h2.symm)
        omega
      · cases hj
    have hGk := fun H q => hGf k H p.name q
    rw [hno] at hGk
    have hfk := hok.fl p hpm
    have hhere := hok.here p hpm
    have hsn : (l.take (k + 1)).flatMap (fun p : Pg => p.fields) = (l.take k).flatMap (fun p : Pg => p.fields) ++ p.fields := by rw [take_snoc' l k p hpk, List.flatMap_append]; simp
    have hone : ((l.take k).flatMap (fun p : Pg => p.fields) ++ p.fields).Nodup := by
      rw [← hsn]
      have ho := hok.once
      have e : l.flatMap (fun p : Pg => p.fields) = (l.take (k + 1)).flatMap (fun p : Pg => p.fields) ++ (l.drop (k + 1)).flatMap (fun p : Pg => p.fields) := by rw [← List.flatMap_append, List.take_append_drop]
      rw [e] at ho
      exact (List.nodup_append.1 ho).1
    have hdl : ((l.take k).flatMap (fun p : Pg => p.fields)).length ≤ 600 := by
      have key : ∀ m : List Pg, (∀ p ∈ m, p.fields.length ≤ 100) → (m.flatMap (fun p : Pg => p.fields)).length ≤ 100 * m.length := by
        intro m
        induction m with
        | nil => intro _; simp
        | cons q m ih =>
          intro hm
          have h1 := hm q (by simp)
          have h2 := ih fun z hz => hm z (by simp [hz])
          rw [List.flatMap_cons, List.length_append, List.length_cons]
          omega
      have := key (l.take k) fun q hq => hok.fl q (List.mem_of_mem_take hq)
      rw [List.length_take] at this
      omega
    have hskip := hok.skip p hpm
    generalize (l.take k).flatMap (fun p : Pg => p.fields) = dn at *
    refine g_true (t := decide ((k : Int) < (len : Int))) (decide_eq_true (by omega)) ?_
    refine go0 7 [] [] ?_
    obtain ⟨b3, o4, rfl, -, c5⟩ := RS.row hr (hrow)
    refine g_fact (c5.sees S2) ?_
    refine go1 27 [.ix b3 o4 len cap k, .f 0 0, .own, .b 0 0, .b 0 0, .cl 15 #[.string p.name] (Vi 0)] [] ?_ (ho := (And.intro (by first | omega | (simp; omega)) (And.intro (fun H sH => c_name _ _ hnm) (trivial))))
    intro b6
    refine g_reg 11 0 [.pu, .pu, .v (fun gh => .slice (some ⟨b3, o4, none⟩) k cap), .pu, .ld 0 0, .v (fun gh => .tuple #[Vi 0, Vi 5]), .pu, .pu, .pu, .pu, .pu] [] (trivial) ?_ ?_
    · intro R hT hA hmono
      refine And.intro (t_p hT hA (fun gh => .slice (some ⟨b3, o4, none⟩) k cap) (fun gh w => run_hi (t := 24) (e := 38) (x := (.tmp 38)) (y := (.tmp 39)) (A := (some ⟨b3, o4, none⟩)) (n := len) (cap := cap) (k := k) (kk := 8) (by kernel_rfl) (by kernel_rfl) (by kernel_rfl) (by omega) Try.underlying24 (by kernel_rfl))) ?_
      refine And.intro (t_v hT hA hmono (k := 8) (args := (fun gh => #[.slice (some ⟨b3, o4, none⟩) k cap, .string p.name])) (f := fun gh => .tuple #[Vi 0, Vi 5]) (fun gh H sH fH lent => hGk _ (htp.sees (S2.trans sH)))) ?_
      trivial
    rintro W7 S8 -
    refine go0 20 [.b 0 1] [] ?_
    have hd0 : strRows dn = strRows (dn ++ p.fields.take 0) := by simp
    rw [hd0]
    refine g_loop [0, 1, 0, 1, 1, 1, 0, 0, 1, 1, 0, 0, 1, 0, 1, 1, 1] [.block 2, .seq [1, 1, 1, 1, 0, 0, 1, 1, 0, 0, 1, 0, 1, 1, 1], .block 1, .seq [1, 1, 1, 0, 0, 1, 0, 1, 1, 1]] (fun (j : Nat) X => ∃ (W9 : Vw) (nv : Value), X W9 [(0, .slice (some ⟨b3, o4, none⟩) len cap), (1, .slice Af fl cf), (24, .slice (some ⟨b3, o4, none⟩) len cap), (25, Vi (len : Int)), (26, Vi (k : Int)), (7, Vp b6), (49, .slice Au p.fields.length cu), (50, Vi (p.fields.length : Int)), (51, Vi (j : Int)), (5, nv)] [.box b6 [.string p.name, .slice Au p.fields.length cu, Vi p.skip.op, Vi p.skip.k, Vi p.skip.n, .string p.skip.s, .string p.skip.nm, .slice Bu mu du], .row nv 9 1 (strRows (dn ++ p.fields.take j))] [(b3, o4 + k * 8, [.string p.name, .slice Au p.fields.length cu, Vi p.skip.op, Vi p.skip.k, Vi p.skip.n, .string p.skip.s, .string p.skip.nm, .slice Bu mu du])] ∧ Sees W7 W9 ∧ (j ≤ p.fields.length)) (fun j => p.fields.length - j) (0) (fun X q => ⟨W7, mv, q _ _ _ _ ⟨rfl, by kernel_rfl⟩, Sees.refl _, Nat.zero_le _⟩) ?_
    rintro j a w ⟨W9, nv, hJ, S10, hj⟩; refine g_of hJ ?_; clear hJ a w
    refine go0 6 [] [] ?_
    rcases (by omega : j < p.fields.length ∨ j = p.fields.length) with hjl | hje
    · obtain ⟨s, hsj⟩ : ∃ s, p.fields[j]? = some s := ⟨_, List.getElem?_eq_getElem hjl⟩
      have hsr := str_row hsj
      have hse : findF fs s = ((plc fs s : Nat) : Int) := by have := hhere s (List.mem_of_getElem? hsj); unfold plc; omega
      have hFs := fun H q => hFi H s q
      rw [if_neg (by omega)] at hFs
      have hjn := take_snoc' _ j s hsj
      have hnin : memS (dn ++ p.fields.take j) s = false := by
        rw [Bool.eq_false_iff]
        intro q
        have q := memS_iff.1 q
        rcases List.mem_append.1 q with q | q
        · exact (List.nodup_append.1 hone).2.2 s q s (List.mem_of_getElem? hsj) rfl
        · have hd := (List.nodup_append.1 hone).2.1
          obtain ⟨i, hi⟩ := List.mem_iff_getElem?.1 q
          rw [List.getElem?_take] at hi
          split at hi
          · have := (List.getElem?_inj (by omega) hd).1 (hi.trans hsj.symm); omega
          · cases hi
      have hco := fun H u q => contS_any (dn ++ p.fields.take j) u s H q (by rw [List.length_append, List.length_take]; omega)
      rw [hnin] at hco
      refine g_true (t := decide ((j : Int) < (p.fields.length : Int))) (decide_eq_true (by omega)) ?_
      refine go0 6 [] [] ?_
      obtain ⟨b11, o12, rfl, -, c13⟩ := RS.row hrs (hsr)
      refine g_fact (c13.sees (S2.trans (S8.trans S10))) ?_
      refine go0 32 [.ix b11 o12 p.fields.length cu j, .f 0 0, .cl 16 #[.slice Af fl cf, .string s] (.tuple #[Vi ((plc fs s : Nat) : Int), Vi 0])] [] ?_ (ho := (And.intro (by first | omega | (simp; omega)) (And.intro (fun H sH => hFs _ (hfs.sees (S2.trans (S8.trans (S10.trans sH))))) (trivial))))
      refine g_callq (fun a w hJ => hco _ _ (hJ.j.rowQ (v := nv) (e := 9) (k := 1) (l := strRows (dn ++ p.fields.take j)) 1 (by kernel_rfl))) ?_; intro W14 S15
      refine gov1 9 [.fix] [] ?_
      intro b16 W17 S18
      refine goa0 9 [.ap 1 0 (strRows (dn ++ p.fields.take j)) [[.string s]]] [(71, Vi (IntKind.i64.wrap ((j : Int) + 1)), Vi ((j : Int) + 1))] ?_ (ho := (And.intro (by constructor <;> (simp; omega)) (trivial))) (hc := (And.intro (i64_wrap (by omega) (by omega)) (trivial)))
      intro v70 W19 S20
      refine g_is [(0, .slice (some ⟨b3, o4, none⟩) len cap), (1, .slice Af fl cf), (24, .slice (some ⟨b3, o4, none⟩) len cap), (25, Vi (len : Int)), (26, Vi (k : Int)), (7, Vp b6), (49, .slice (some ⟨b11, o12, none⟩) p.fields.length cu), (50, Vi (p.fields.length : Int)), (5, .slice (sA v70) (sN v70) (sC v70)), (51, Vi ((j : Int) + 1))] [.box b6 [.string p.name, .slice (some ⟨b11, o12, none⟩) p.fields.length cu, Vi p.skip.op, Vi p.skip.k, Vi p.skip.n, .string p.skip.s, .string p.skip.nm, .slice Bu mu du], .row (.slice (sA v70) (sN v70) (sC v70)) 9 1 ((strRows (dn ++ p.fields.take j)) ++ [[.string s]])] [(b3, o4 + k * 8, [.string p.name, .slice (some ⟨b11, o12, none⟩) p.fields.length cu, Vi p.skip.op, Vi p.skip.k, Vi p.skip.n, .string p.skip.s, .string p.skip.nm, .slice Bu mu du])] ?_
      exact g_round (j + 1) (fun X q => ⟨W19, .slice (sA v70) (sN v70) (sC v70), q _ _ _ _ (says_ents (by rw [hjn, ← List.append_assoc]; simp [strRows])), (S10.trans (S15.trans (S18.trans S20))), by omega⟩) (by omega)
    · skip
      have hta : dn ++ p.fields.take j = dn ++ p.fields := by rw [hje, List.take_length]
      rw [hta]
      rcases hskip with hz | ⟨z1, z2, z3, z4⟩
      · obtain ⟨Bz, dz, ez⟩ := args_zero (by rw [hz]; rfl) hxa
        obtain rfl : mu = 0 := by simp only [Value.slice.injEq] at ez; exact ez.2.1
        have hnv := fun H => never_yes p.name Au p.fields.length cu Bu du H
        refine g_false (t := decide ((j : Int) < (p.fields.length : Int))) (decide_eq_false (by omega)) ?_
        refine go0 2 [] [] ?_
        refine g_leave ?_
        refine go0 18 [.b 0 0, .cl 18 #[.agg #[.string p.name, .slice Au p.fields.length cu, Vi p.skip.op, Vi p.skip.k, Vi p.skip.n, .string p.skip.s, .string p.skip.nm, .slice Bu 0 du]] (.bool true)] [(81, Vi (IntKind.i64.wrap ((k : Int) + 1)), Vi ((k : Int) + 1))] ?_ (ho := (And.intro (fun H sH => by rw [hz]; exact hnv _) (trivial))) (hc := (And.intro (i64_wrap (by omega) (by omega)) (trivial)))
        refine g_is [(0, .slice (some ⟨b3, o4, none⟩) len cap), (1, .slice Af fl cf), (24, .slice (some ⟨b3, o4, none⟩) len cap), (25, Vi (len : Int)), (5, nv), (26, Vi ((k : Int) + 1))] [.row nv 9 1 (strRows (dn ++ p.fields))] [] ?_
        exact g_round (k + 1) (fun X q => ⟨W9, nv, q _ _ _ _ (says_ents (by rw [hsn]; try rfl)), (S2.trans (S8.trans S10)), by omega⟩) (by omega)
      · skip
        have hnv := fun H => never_no p.name p.skip Au p.fields.length cu Bu mu du H z1
        have hft := fun H q1 q2 => fits_any fs p.skip (.slice Bu mu du) (.slice Af fl cf) 2 H q1 z2 z3 q2
        rw [z4] at hft
        refine g_false (t := decide ((j : Int) < (p.fields.length : Int))) (decide_eq_false (by omega)) ?_
        refine go0 2 [] [] ?_
        refine g_leave ?_
        refine go0 35 [.b 0 0, .cl 18 #[.agg #[.string p.name, .slice Au p.fields.length cu, Vi p.skip.op, Vi p.skip.k, Vi p.skip.n, .string p.skip.s, .string p.skip.nm, .slice Bu mu du]] (.bool false), .b 0 2, .cl 19 #[.agg #[Vi p.skip.op, Vi p.skip.k, Vi p.skip.n, .string p.skip.s, .string p.skip.nm, .slice Bu mu du], .slice Af fl cf, Vi 2] (Vi 0)] [(81, Vi (IntKind.i64.wrap ((k : Int) + 1)), Vi ((k : Int) + 1))] ?_ (ho := (And.intro (fun H sH => hnv _) (And.intro (fun H sH => hft _ (hxa.sees (S2.trans (S8.trans (S10.trans sH)))) (hfs.sees (S2.trans (S8.trans (S10.trans sH))))) (trivial)))) (hc := (And.intro (i64_wrap (by omega) (by omega)) (trivial)))
        refine g_is [(0, .slice (some ⟨b3, o4, none⟩) len cap), (1, .slice Af fl cf), (24, .slice (some ⟨b3, o4, none⟩) len cap), (25, Vi (len : Int)), (5, nv), (26, Vi ((k : Int) + 1))] [.row nv 9 1 (strRows (dn ++ p.fields))] [] ?_
        exact g_round (k + 1) (fun X q => ⟨W9, nv, q _ _ _ _ (says_ents (by rw [hsn]; try rfl)), (S2.trans (S8.trans S10)), by omega⟩) (by omega)
  · skip
    refine g_false (t := decide ((k : Int) < (len : Int))) (decide_eq_false (by omega)) ?_
    refine go0 2 [] [] ?_
    refine g_leave ?_
    refine go0 8 [] [] ?_
    refine hQ.to [Vi 0] (fun H sH => ?_)
    exact rfl

end Go.Proofs.Ythgcgciceejicaa

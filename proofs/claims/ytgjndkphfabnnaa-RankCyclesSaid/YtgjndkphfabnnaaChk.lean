/-
  Contract of field.Check, where fields may be.
-/
import Derived.Test.YtgjndkphfabnnaaFind
import Derived.Test.YtgjndkphfabnnaaTyO
import Derived.Test.YtgjndkphfabnnaaRow
namespace Go.Proofs.Ytgjndkphfabnnaa
open Go.RowKit
set_option linter.unusedVariables false

/-- A field may be, among the fields fs. -/
structure OkF (fs : List Fd) (f : Fd) : Prop where
  name : NameOk f.name.data.toList
  k1 : 1 ≤ f.kind
  k3 : f.kind ≤ 3
  t1 : 1 ≤ f.ty
  t3 : f.ty ≤ 3
  inp : f.kind = 1 → f.src = zE
  wf : f.kind ≠ 1 → WfE f.src ∧ (szE f.src).1 ≤ 60 ∧ chkE f.src = 0
  form : f.kind = 2 → tyE (tyF fs) f.src = (f.ty, 0)
  look : f.kind = 3 → ∃ t, 1 ≤ t ∧ t ≤ 3 ∧ tyE (tyF fs) f.src = (t, 0)
/-- Fields may be. -/
structure OkFs (fs : List Fd) : Prop where
  each : ∀ f ∈ fs, OkF fs f
  nodup : (fs.map (·.name)).Nodup
  few : fs.length ≤ 14

theorem none_zero (h : Vw) : C0 Try.prog 96 #[.agg #[.int .i64 0, .int .i64 0, .int .i64 0, .string ⟨#[]⟩, .string ⟨#[]⟩, .slice none 0 0]] h (fun r _ => r = .bool true) := by
  refine x_con Try.func96 (c := Try.f96.body.getD .skip) (by kernel_rfl) (N := 23) rfl (by kernel_rfl) ?_
  intro hbx hbad Q hQ a w hJ
  replace hJ : K ⟨23, h.w, h.bad, []⟩ [(0, .agg #[Vi 0, Vi 0, Vi 0, Ve, Ve, Vz])] [] [] h a w := hJ.to (by kernel_rfl) (by kernel_rfl) rfl
  refine rx hJ false 32 [.own, .b 0 0, .b 0 4, .b 0 1, .b 0 5] [] (.new fun b1 => .ok (.out .ret) [] [(2, .bool true)] [.box b1 [Vi 0, Vi 0, Vi 0, Ve, Ve, Vz]] []) trivial trivial (fun b1 _ => by kernel_rfl) ?_
  clear hJ a w; intro b1 a w hJ
  refine x_end (hQ [.bool true] _ [] hJ (.rtmp hJ.j (by kernel_rfl) .nil) (no_own _) rfl ?_).1
  exact rfl

theorem args_zero {h : Vw} {x : Ex} {v : Value} (hx : x.args = []) (ha : IsArgs h x v) : ∃ A c, v = .slice A 0 c := by
  obtain ⟨vs, hr, -⟩ := ha.form
  obtain ⟨A, c, e, -⟩ := hr.form
  rw [hx] at e
  exact ⟨A, c, e⟩
theorem none_any (A : Option Addr) (c : Nat) (h : Vw) : C0 Try.prog 96 #[.agg #[.int .i64 0, .int .i64 0, .int .i64 0, .string ⟨#[]⟩, .string ⟨#[]⟩, .slice A 0 c]] h (fun r _ => r = .bool true) := by
  refine x_con Try.func96 (c := Try.f96.body.getD .skip) (by kernel_rfl) (N := 23) rfl (by kernel_rfl) ?_
  intro hbx hbad Q hQ a w hJ
  replace hJ : K ⟨23, h.w, h.bad, []⟩ [(0, .agg #[Vi 0, Vi 0, Vi 0, Ve, Ve, .slice A 0 c])] [] [] h a w := hJ.to (by kernel_rfl) (by kernel_rfl) rfl
  refine rx hJ false 32 [.own, .b 0 0, .b 0 4, .b 0 1, .b 0 5] [] (.new fun b1 => .ok (.out .ret) [] [(2, .bool true)] [.box b1 [Vi 0, Vi 0, Vi 0, Ve, Ve, .slice A 0 c]] []) trivial trivial (fun b1 _ => by kernel_rfl) ?_
  clear hJ a w; intro b1 a w hJ
  refine x_end (hQ [.bool true] _ [] hJ (.rtmp hJ.j (by kernel_rfl) .nil) (no_own _) rfl ?_).1
  exact rfl

set_option maxRecDepth 100000 in
theorem right_any (fs : List Fd) (f : Fd) (v : Value) (h : Vw) (hf : OkF fs f) (ha : IsArgs h f.src v) : C0 Try.prog 59 #[.agg #[.string f.name, .int .i64 f.kind, .int .i64 f.ty, .int .i64 f.src.op, .int .i64 f.src.k, .int .i64 f.src.n, .string f.src.s, .string f.src.nm, v]] h (fun r _ => r = .int .i64 0) := by
  have hn := fun H => c_name f.name H hf.name
  have k1 := hf.k1
  have k3 := hf.k3
  have t1 := hf.t1
  have t3 := hf.t3
  by_cases g : f.kind = 1
  · obtain ⟨A, c, rfl⟩ := args_zero (by rw [hf.inp g]; rfl) ha
    have e1 : f.src.op = 0 := by rw [hf.inp g]; rfl
    have e2 : f.src.k = 0 := by rw [hf.inp g]; rfl
    have e3 : f.src.n = 0 := by rw [hf.inp g]; rfl
    have e4 : f.src.s = ⟨#[]⟩ := by rw [hf.inp g]; rfl
    have e5 : f.src.nm = ⟨#[]⟩ := by rw [hf.inp g]; rfl
    rw [e1, e2, e3, e4, e5, g]
    refine x_con Try.func59 (c := Try.f59.body.getD .skip) (by kernel_rfl) (N := 38) rfl (by kernel_rfl) ?_
    intro hbx hbad Q hQ a w hJ
    replace hJ : K ⟨38, h.w, h.bad, []⟩ [(0, .agg #[.string f.name, Vi 1, Vi f.ty, Vi 0, Vi 0, Vi 0, Ve, Ve, .slice A 0 c])] [] [] h a w := hJ.to (by kernel_rfl) (by kernel_rfl) rfl
    refine rx hJ false 78 [.own, .b 0 0, .cl 61 #[.string f.name] (Vi 0), .b 0 1, .b 0 1, .b 0 2, .b 0 2, .b 0 1, .b 0 3, .cl 96 #[.agg #[Vi 0, Vi 0, Vi 0, Ve, Ve, .slice A 0 c]] (.bool true)] [(21, .bool (decide (f.ty < 1)), .bool false), (26, .bool (decide (f.ty > 3)), .bool false)] (.new fun b1 => .ok (.out .ret) [] [(2, Vi 0)] [.box b1 [.string f.name, Vi 1, Vi f.ty, Vi 0, Vi 0, Vi 0, Ve, Ve, .slice A 0 c]] []) (And.intro (fun H sH => hn _) (And.intro (fun H sH => none_any A c _) (trivial))) (And.intro (congrArg Value.bool (decide_eq_false (by omega))) (And.intro (congrArg Value.bool (decide_eq_false (by omega))) (trivial))) (fun b1 _ => by kernel_rfl) ?_
    clear hJ a w; intro b1 a w hJ
    refine x_end (hQ [Vi 0] _ [] hJ (.rtmp hJ.j (by kernel_rfl) .nil) (no_own _) rfl ?_).1
    exact rfl
  · obtain ⟨w1, w2, w3⟩ := hf.wf g
    obtain ⟨A, n, c, rfl⟩ := ha.slice
    have hc := fun H q => check_any f.src (.slice A n c) H q w1 (by omega)
    rw [w3] at hc
    refine x_con Try.func59 (c := Try.f59.body.getD .skip) (by kernel_rfl) (N := 38) rfl (by kernel_rfl) ?_
    intro hbx hbad Q hQ a w hJ
    replace hJ : K ⟨38, h.w, h.bad, []⟩ [(0, .agg #[.string f.name, Vi f.kind, Vi f.ty, Vi f.src.op, Vi f.src.k, Vi f.src.n, .string f.src.s, .string f.src.nm, .slice A n c])] [] [] h a w := hJ.to (by kernel_rfl) (by kernel_rfl) rfl
    refine rx hJ false 70 [.own, .b 0 0, .cl 61 #[.string f.name] (Vi 0), .b 0 1, .b 0 1, .b 0 2, .b 0 2, .b 0 1, .b 0 3, .cl 41 #[.agg #[Vi f.src.op, Vi f.src.k, Vi f.src.n, .string f.src.s, .string f.src.nm, .slice A n c]] (Vi 0)] [(12, .bool (decide (f.kind < 1)), .bool false), (16, .bool (decide (f.kind > 3)), .bool false), (21, .bool (decide (f.ty < 1)), .bool false), (26, .bool (decide (f.ty > 3)), .bool false), (30, .bool (f.kind == 1), .bool false)] (.new fun b1 => .ok (.out .ret) [] [(2, Vi 0)] [.box b1 [.string f.name, Vi f.kind, Vi f.ty, Vi f.src.op, Vi f.src.k, Vi f.src.n, .string f.src.s, .string f.src.nm, .slice A n c]] []) (And.intro (fun H sH => hn _) (And.intro (fun H sH => hc _ (ha.sees sH)) (trivial))) (And.intro (congrArg Value.bool (decide_eq_false (by omega))) (And.intro (congrArg Value.bool (decide_eq_false (by omega))) (And.intro (congrArg Value.bool (decide_eq_false (by omega))) (And.intro (congrArg Value.bool (decide_eq_false (by omega))) (And.intro (congrArg Value.bool (beq_eq_false_iff_ne.2 g)) (trivial)))))) (fun b1 _ => by kernel_rfl) ?_
    clear hJ a w; intro b1 a w hJ
    refine x_end (hQ [Vi 0] _ [] hJ (.rtmp hJ.j (by kernel_rfl) .nil) (no_own _) rfl ?_).1
    exact rfl
/-- A formula that is none. -/
theorem right_none (h : Vw) (s : ByteArray) (hs : NameOk s.data.toList) : C0 Try.prog 59 #[.agg #[.string s, .int .i64 2, .int .i64 1, .int .i64 0, .int .i64 0, .int .i64 0, .string ⟨#[]⟩, .string ⟨#[]⟩, .slice none 0 0]] h (fun r _ => r = .int .i64 2) := by
  refine x_con Try.func59 (c := Try.f59.body.getD .skip) (by kernel_rfl) (N := 38) rfl (by kernel_rfl) ?_
  intro hbx hbad Q hQ a w hJ
  replace hJ : K ⟨38, h.w, h.bad, []⟩ [(0, .agg #[.string s, Vi 2, Vi 1, Vi 0, Vi 0, Vi 0, Ve, Ve, Vz])] [] [] h a w := hJ.to (by kernel_rfl) (by kernel_rfl) rfl
  refine rx hJ false 70 [.own, .b 0 0, .cl 61 #[.string s] (Vi 0), .b 0 1, .b 0 1, .b 0 2, .b 0 2, .b 0 1, .b 0 3, .cl 41 #[.agg #[Vi 0, Vi 0, Vi 0, Ve, Ve, Vz]] (Vi 2)] [] (.new fun b1 => .ok (.out .ret) [] [(2, Vi 2)] [.box b1 [.string s, Vi 2, Vi 1, Vi 0, Vi 0, Vi 0, Ve, Ve, Vz]] []) (And.intro (fun H sH => c_name s _ hs) (And.intro (fun H sH => check_none _) (trivial))) trivial (fun b1 _ => by kernel_rfl) ?_
  clear hJ a w; intro b1 a w hJ
  refine x_end (hQ [Vi 2] _ [] hJ (.rtmp hJ.j (by kernel_rfl) .nil) (no_own _) rfl ?_).1
  exact rfl

set_option maxRecDepth 100000 in
theorem typed_any (fs : List Fd) (f : Fd) (v fv : Value) (h : Vw) (hf : OkF fs f) (ha : IsArgs h f.src v) (hfs : IsFds h fv fs) : C0 Try.prog 60 #[.agg #[.string f.name, .int .i64 f.kind, .int .i64 f.ty, .int .i64 f.src.op, .int .i64 f.src.k, .int .i64 f.src.n, .string f.src.s, .string f.src.nm, v], fv] h (fun r _ => r = .int .i64 0) := by
  obtain ⟨A, n, c, rfl⟩ := ha.slice
  obtain ⟨vs, Af, cf, rfl, -⟩ := fds_open hfs
  obtain g | g | g : f.kind = 1 ∨ f.kind = 2 ∨ f.kind = 3 := by have := hf.k1; have := hf.k3; omega
  · rw [g]
    refine x_con Try.func60 (c := Try.f60.body.getD .skip) (by kernel_rfl) (N := 27) rfl (by kernel_rfl) ?_
    intro hbx hbad Q hQ a w hJ
    replace hJ : K ⟨27, h.w, h.bad, []⟩ [(0, .agg #[.string f.name, Vi 1, Vi f.ty, Vi f.src.op, Vi f.src.k, Vi f.src.n, .string f.src.s, .string f.src.nm, .slice A n c]), (1, .slice Af fs.length cf)] [] [] h a w := hJ.to (by kernel_rfl) (by kernel_rfl) rfl
    refine rx hJ false 37 [.own, .b 0 1] [] (.new fun b1 => .ok (.out .ret) [] [(4, Vi 0)] [.box b1 [.string f.name, Vi 1, Vi f.ty, Vi f.src.op, Vi f.src.k, Vi f.src.n, .string f.src.s, .string f.src.nm, .slice A n c]] []) trivial trivial (fun b1 _ => by kernel_rfl) ?_
    clear hJ a w; intro b1 a w hJ
    refine x_end (hQ [Vi 0] _ [] hJ (.rtmp hJ.j (by kernel_rfl) .nil) (no_own _) rfl ?_).1
    exact rfl
  · obtain ⟨w1, w2, w3⟩ := hf.wf (by omega)
    have hc := fun H q1 q2 => fits_any fs f.src (.slice A n c) (.slice Af fs.length cf) f.ty H q1 w1 (by omega) q2
    have e : fitsE fs f.src f.ty = 0 := by unfold fitsE ofE; rw [if_pos w3, hf.form g]; simp
    rw [e] at hc
    rw [g]
    refine x_con Try.func60 (c := Try.f60.body.getD .skip) (by kernel_rfl) (N := 27) rfl (by kernel_rfl) ?_
    intro hbx hbad Q hQ a w hJ
    replace hJ : K ⟨27, h.w, h.bad, []⟩ [(0, .agg #[.string f.name, Vi 2, Vi f.ty, Vi f.src.op, Vi f.src.k, Vi f.src.n, .string f.src.s, .string f.src.nm, .slice A n c]), (1, .slice Af fs.length cf)] [] [] h a w := hJ.to (by kernel_rfl) (by kernel_rfl) rfl
    refine rx hJ false 35 [.own, .b 0 1, .b 0 3, .b 0 2, .cl 63 #[.agg #[Vi f.src.op, Vi f.src.k, Vi f.src.n, .string f.src.s, .string f.src.nm, .slice A n c], .slice Af fs.length cf, Vi f.ty] (Vi 0)] [] (.new fun b1 => .ok (.out .ret) [] [(4, Vi 0)] [.box b1 [.string f.name, Vi 2, Vi f.ty, Vi f.src.op, Vi f.src.k, Vi f.src.n, .string f.src.s, .string f.src.nm, .slice A n c]] []) (And.intro (fun H sH => hc _ (ha.sees sH) (hfs.sees sH)) (trivial)) trivial (fun b1 _ => by kernel_rfl) ?_
    clear hJ a w; intro b1 a w hJ
    refine x_end (hQ [Vi 0] _ [] hJ (.rtmp hJ.j (by kernel_rfl) .nil) (no_own _) rfl ?_).1
    exact rfl
  · obtain ⟨w1, w2, w3⟩ := hf.wf (by omega)
    obtain ⟨t, -, -, ht⟩ := hf.look g
    have hc := fun H q1 q2 => tyOf_any fs f.src (.slice A n c) (.slice Af fs.length cf) H q1 w1 (by omega) q2
    have e : ofE fs f.src = (t, 0) := by unfold ofE; rw [if_pos w3, ht]
    rw [e] at hc
    rw [g]
    refine x_con Try.func60 (c := Try.f60.body.getD .skip) (by kernel_rfl) (N := 27) rfl (by kernel_rfl) ?_
    intro hbx hbad Q hQ a w hJ
    replace hJ : K ⟨27, h.w, h.bad, []⟩ [(0, .agg #[.string f.name, Vi 3, Vi f.ty, Vi f.src.op, Vi f.src.k, Vi f.src.n, .string f.src.s, .string f.src.nm, .slice A n c]), (1, .slice Af fs.length cf)] [] [] h a w := hJ.to (by kernel_rfl) (by kernel_rfl) rfl
    refine rx hJ false 50 [.own, .b 0 1, .b 0 3, .cl 97 #[.agg #[Vi f.src.op, Vi f.src.k, Vi f.src.n, .string f.src.s, .string f.src.nm, .slice A n c], .slice Af fs.length cf] (.tuple #[Vi t, Vi 0])] [] (.new fun b1 => .ok (.out .ret) [] [(4, Vi 0)] [.box b1 [.string f.name, Vi 3, Vi f.ty, Vi f.src.op, Vi f.src.k, Vi f.src.n, .string f.src.s, .string f.src.nm, .slice A n c]] []) (And.intro (fun H sH => hc _ (ha.sees sH) (hfs.sees sH)) (trivial)) trivial (fun b1 _ => by kernel_rfl) ?_
    clear hJ a w; intro b1 a w hJ
    refine x_end (hQ [Vi 0] _ [] hJ (.rtmp hJ.j (by kernel_rfl) .nil) (no_own _) rfl ?_).1
    exact rfl

theorem AllArgs.take' {h : Vw} : ∀ (i : Nat) {l : List Ex} {vs : List Value}, AllArgs h l vs → AllArgs h (l.take i) (vs.take i)
  | 0, l, vs, _ => by rw [List.take_zero, List.take_zero]; unfold AllArgs; rfl
  | i + 1, [], vs, k => by unfold AllArgs at k; subst k; rw [List.take_nil, List.take_nil]; unfold AllArgs; rfl
  | i + 1, x :: l, vs, k => by
    unfold AllArgs at k
    obtain ⟨u, us', rfl, q1, q2⟩ := k
    rw [List.take_succ_cons, List.take_succ_cons]
    unfold AllArgs
    exact ⟨_, _, rfl, q1, AllArgs.take' i q2⟩
theorem fds_take {h : Vw} {A : Option Addr} {cap : Nat} {fs : List Fd} (hf : IsFds h (.slice A fs.length cap) fs) (k : Nat) (hk : k ≤ fs.length) : IsFds h (.slice A k cap) (fs.take k) := by
  obtain ⟨vs, hr, hs⟩ := hf
  have hl := hs.len
  refine ⟨vs.take k, ?_, ?_⟩
  · have := hr.take k (by rw [fdRows_len hl]; omega)
    rwa [show (fdRows fs vs).take k = fdRows (fs.take k) (vs.take k) from List.take_zipWith] at this
  · unfold AllSrc
    rw [List.map_take]
    exact AllArgs.take' k hs

set_option maxHeartbeats 2000000 in
set_option maxRecDepth 100000 in
theorem check_fields (fs : List Fd) (fv : Value) (h : Vw) (hf : OkFs fs) (hfs : IsFds h fv fs) : C0 Try.prog 27 #[fv] h (fun r _ => r = .int .i64 0) := by
  obtain ⟨vs, A, c, rfl, hc1, hc2, hr, hsrc, hvl, hsl⟩ := fds_open hfs
  have few := hf.few
  refine x_con Try.func27 (c := Try.f27.body.getD .skip) (by kernel_rfl) (N := 51) rfl (by kernel_rfl) ?_
  intro hbx hbad Q hQ a w hJ
  replace hJ : K ⟨51, h.w, h.bad, []⟩ [(0, .slice A fs.length c)] [] [] h a w := hJ.to (by kernel_rfl) (by kernel_rfl) rfl
  refine rx hJ false 13 [] [] (.ok (.code [1, 0, 1]) [.seq [1, 1]] [(0, .slice A fs.length c), (2, Vi 0), (13, .bool (decide ((fs.length : Int) > 14)))] [] []) trivial trivial (fun _ => by kernel_rfl) ?_
  clear hJ a w; intro a w hJ
  refine x_false hJ (t := decide ((fs.length : Int) > 14)) (by kernel_rfl) (decide_eq_false (by omega)) ?_
  refine rx hJ false 11 [] [] (.ok (.code [0, 1, 0, 1, 1]) [.block 0, .seq [1, 1, 1]] [(0, .slice A fs.length c), (2, Vi 0), (14, .slice A fs.length c), (15, Vi (fs.length : Int)), (16, Vi 0)] [] []) trivial trivial (fun _ => by kernel_rfl) ?_
  clear hJ a w; intro a w hJ
  refine x_loop (fun (k : Nat) a w => ∃ (h1 : Vw) , K ⟨51, h.w, h.bad, []⟩ [(0, .slice A fs.length c), (14, .slice A fs.length c), (15, Vi (fs.length : Int)), (16, Vi (k : Int))] [] [] h1 a w ∧ Sees h h1 ∧ (k ≤ fs.length)) (fun k => fs.length - k) (0) (by kernel_rfl) ⟨h, hJ.to (by kernel_rfl) (by kernel_rfl) rfl, Sees.refl _, Nat.zero_le _⟩ ?_
  clear hJ a w; rintro k a w ⟨h1, hJ, s2, hk⟩
  refine rx hJ false 6 [] [] (.ok (.code [0, 1, 0, 0, 1, 0, 1, 1]) [.seq [1, 1, 0, 0, 1, 0, 1, 1]] [(0, .slice A fs.length c), (14, .slice A fs.length c), (15, Vi (fs.length : Int)), (16, Vi (k : Int)), (17, .bool (decide ((k : Int) < (fs.length : Int))))] [] []) trivial trivial (fun _ => by kernel_rfl) ?_
  clear hJ a w; intro a w hJ
  rcases (by omega : k < fs.length ∨ k = fs.length) with hlt | hke
  · obtain ⟨f, hfk⟩ : ∃ f, fs[k]? = some f := ⟨_, List.getElem?_eq_getElem (by omega)⟩
    obtain ⟨u, huk⟩ : ∃ u, vs[k]? = some u := ⟨_, List.getElem?_eq_getElem (by omega)⟩
    have hslu := hsl u (List.mem_of_getElem? huk)
    have hrow : (fdRows fs vs)[k]? = some (fdRow f (.slice (sA u) (sN u) (sC u))) := by rw [hslu]; exact fdRows_get hfk huk
    have ha : IsArgs h f.src (.slice (sA u) (sN u) (sC u)) := by rw [hslu]; exact AllArgs.get hsrc (x := f.src) (by rw [List.getElem?_map, hfk]; rfl) huk
    have hok := hf.each f (List.mem_of_getElem? hfk)
    have hno : findF (fs.take k) f.name = -1 := findF_none fun y hy e => by
      obtain ⟨j, hj⟩ := List.mem_iff_getElem?.1 hy
      rw [List.getElem?_take] at hj
      split at hj
      · rename_i hjk
        have h1 : (fs.map (fun f : Fd => f.name))[j]? = some f.name := by rw [List.getElem?_map, hj]; simp [e]
        have h2 : (fs.map (fun f : Fd => f.name))[k]? = some f.name := by rw [List.getElem?_map, hfk]; rfl
        have := (List.getElem?_inj (by rw [List.length_map]; omega) hf.nodup).1 (h1.trans h2.symm)
        omega
      · cases hj
    have htk := fds_take hfs k hk
    refine x_true hJ (t := decide ((k : Int) < (fs.length : Int))) (by kernel_rfl) (decide_eq_true (by omega)) ?_
    refine rx hJ false 7 [] [] (.ok (.ops [0, 0, 0, 1, 1, 0, 0, 1, 0, 1, 1] 1) [.seq [1, 0, 0, 1, 1, 0, 0, 1, 0, 1, 1], .block 1, .seq [1, 1, 1, 0, 0, 1, 0, 1, 1]] [(0, .slice A fs.length c), (14, .slice A fs.length c), (15, Vi (fs.length : Int)), (16, Vi (k : Int)), (17, .bool (decide ((k : Int) < (fs.length : Int)))), (18, Vi (k : Int))] [] []) trivial trivial (fun _ => by kernel_rfl) ?_
    clear hJ a w; intro a w hJ
    obtain ⟨b3, o4, rfl, -, c5⟩ := RS.row hr (hrow)
    replace hJ := hJ.fact (c5.sees s2)
    refine rx hJ false 25 [.ix b3 o4 fs.length c k, .f 0 0, .own, .b 0 0, .b 0 0, .cl 59 #[.agg #[.string f.name, Vi f.kind, Vi f.ty, Vi f.src.op, Vi f.src.k, Vi f.src.n, .string f.src.s, .string f.src.nm, .slice (sA u) (sN u) (sC u)]] (Vi 0)] [] (.new fun b6 => .ok (.code [0, 1, 1, 0, 0, 1, 1, 0, 0, 1, 0, 1, 1]) [.seq [1, 1, 1, 0, 0, 1, 1, 0, 0, 1, 0, 1, 1], .block 1, .seq [1, 1, 1, 0, 0, 1, 0, 1, 1]] [(0, .slice (some ⟨b3, o4, none⟩) fs.length c), (14, .slice (some ⟨b3, o4, none⟩) fs.length c), (15, Vi (fs.length : Int)), (16, Vi (k : Int)), (17, .bool (decide ((k : Int) < (fs.length : Int)))), (18, Vi (k : Int)), (19, .pointer (some ⟨b3, o4 + k * 9, none⟩)), (20, .agg #[.string f.name, Vi f.kind, Vi f.ty, Vi f.src.op, Vi f.src.k, Vi f.src.n, .string f.src.s, .string f.src.nm, .slice (sA u) (sN u) (sC u)]), (4, Vp b6), (3, Vi (k : Int)), (21, .agg #[.string f.name, Vi f.kind, Vi f.ty, Vi f.src.op, Vi f.src.k, Vi f.src.n, .string f.src.s, .string f.src.nm, .slice (sA u) (sN u) (sC u)]), (22, Vi 0), (5, Vi 0), (23, Vi 0), (24, .bool false)] [.box b6 [.string f.name, Vi f.kind, Vi f.ty, Vi f.src.op, Vi f.src.k, Vi f.src.n, .string f.src.s, .string f.src.nm, .slice (sA u) (sN u) (sC u)]] [(b3, o4 + k * 9, [.string f.name, Vi f.kind, Vi f.ty, Vi f.src.op, Vi f.src.k, Vi f.src.n, .string f.src.s, .string f.src.nm, .slice (sA u) (sN u) (sC u)])]) (And.intro (by first | omega | (simp; omega)) (And.intro (fun H sH => right_any fs f _ _ hok (ha.sees (s2.trans sH))) (trivial))) trivial (fun b6 _ => by kernel_rfl) ?_
    clear hJ a w; intro b6 a w hJ
    let R : Reg := ⟨⟨51, h.w, h.bad, []⟩, [(0, 27, fun gh => .slice (some ⟨b3, o4, none⟩) fs.length c), (1, 28, fun gh => Vi (k : Int)), (2, 29, fun gh => .slice (some ⟨b3, o4, none⟩) k c), (3, 30, fun gh => Vp b6), (4, 31, fun gh => .string f.name), (5, 32, fun gh => .tuple #[Vi 0, Vi 5]), (6, 26, fun gh => .tuple #[Vi 0, Vi 5]), (7, 33, fun gh => Vi 0), (8, 34, fun gh => Vi 5), (9, 6, fun gh => Vi 0), (10, 7, fun gh => Vi 5)], [(0, .slice (some ⟨b3, o4, none⟩) fs.length c), (14, .slice (some ⟨b3, o4, none⟩) fs.length c), (15, Vi (fs.length : Int)), (16, Vi (k : Int)), (17, .bool (decide ((k : Int) < (fs.length : Int)))), (18, Vi (k : Int)), (19, .pointer (some ⟨b3, o4 + k * 9, none⟩)), (20, .agg #[.string f.name, Vi f.kind, Vi f.ty, Vi f.src.op, Vi f.src.k, Vi f.src.n, .string f.src.s, .string f.src.nm, .slice (sA u) (sN u) (sC u)]), (4, Vp b6), (3, Vi (k : Int)), (21, .agg #[.string f.name, Vi f.kind, Vi f.ty, Vi f.src.op, Vi f.src.k, Vi f.src.n, .string f.src.s, .string f.src.nm, .slice (sA u) (sN u) (sC u)]), (22, Vi 0), (5, Vi 0), (23, Vi 0), (24, .bool false)], [⟨some (.box b6 [.string f.name, Vi f.kind, Vi f.ty, Vi f.src.op, Vi f.src.k, Vi f.src.n, .string f.src.s, .string f.src.nm, .slice (sA u) (sN u) (sC u)]), []⟩], [], [[], [], [0, 1], [], [3], [0, 1, 2, 3, 4], [0, 1, 2, 3, 4, 5], [0, 1, 2, 3, 4, 5, 6], [0, 1, 2, 3, 4, 5, 6], [0, 1, 2, 3, 4, 5, 6, 7], [0, 1, 2, 3, 4, 5, 6, 7, 8, 9]], h1⟩
    have hmono : ∀ zq ∈ R.F, ∀ zx zh zi, Sees zh zi → zq.2 zx zh → zq.2 zx zi := mono_nil
    refine x_region (by kernel_rfl) R hJ 11 [.pu, .pu, .cl, .pu, .ld 0 0, .cl, .pu, .pu, .pu, .pu, .pu] (by kernel_rfl) hmono (fun _ _ _ => by kernel_rfl) (fun hT hA => ?_) ?_
    · clear hJ
      refine And.intro (r_pure hT hA 29 (fun gh => .slice (some ⟨b3, o4, none⟩) k c) [0, 1] 2 (by kernel_rfl) (by kernel_rfl) (by kernel_rfl) (fun _ => by kernel_rfl) (fun gh w => run_hi (t := 30) (e := 40) (x := (.tmp 27)) (y := (.tmp 28)) (A := (some ⟨b3, o4, none⟩)) (n := fs.length) (cap := c) (k := k) (kk := 9) (by kernel_rfl) (by kernel_rfl) (by kernel_rfl) (by omega) Try.underlying30 (by kernel_rfl))) ?_
      refine And.intro (r_callv hT hA hmono 32 (fun gh => .tuple #[Vi 0, Vi 5]) [2, 4] 5 (by kernel_rfl) (by kernel_rfl) (by kernel_rfl) (fun _ => by kernel_rfl) 44 (fun gh => #[.slice (some ⟨b3, o4, none⟩) k c, .string f.name]) (fun _ _ => by kernel_rfl) (fun gh H sH fH lent => find_no (fs.take k) _ f.name _ (htk.sees (s2.trans sH)) (by rw [List.length_take]; omega) (by omega))) ?_
      trivial
    clear hJ a w; intro gh h7 a w sR hJ1 hF; have s8 : Sees h1 h7 := sR; clear sR
    have hJ : K ⟨51, h.w, h.bad, []⟩ [(0, .slice (some ⟨b3, o4, none⟩) fs.length c), (14, .slice (some ⟨b3, o4, none⟩) fs.length c), (15, Vi (fs.length : Int)), (16, Vi (k : Int)), (17, .bool (decide ((k : Int) < (fs.length : Int)))), (18, Vi (k : Int)), (19, .pointer (some ⟨b3, o4 + k * 9, none⟩)), (20, .agg #[.string f.name, Vi f.kind, Vi f.ty, Vi f.src.op, Vi f.src.k, Vi f.src.n, .string f.src.s, .string f.src.nm, .slice (sA u) (sN u) (sC u)]), (4, Vp b6), (3, Vi (k : Int)), (21, .agg #[.string f.name, Vi f.kind, Vi f.ty, Vi f.src.op, Vi f.src.k, Vi f.src.n, .string f.src.s, .string f.src.nm, .slice (sA u) (sN u) (sC u)]), (22, Vi 0), (5, Vi 0), (23, Vi 0), (24, .bool false), (27, .slice (some ⟨b3, o4, none⟩) fs.length c), (28, Vi (k : Int)), (29, .slice (some ⟨b3, o4, none⟩) k c), (30, Vp b6), (31, .string f.name), (32, .tuple #[Vi 0, Vi 5]), (26, .tuple #[Vi 0, Vi 5]), (33, Vi 0), (34, Vi 5), (7, Vi 5)] [.box b6 [.string f.name, Vi f.kind, Vi f.ty, Vi f.src.op, Vi f.src.k, Vi f.src.n, .string f.src.s, .string f.src.nm, .slice (sA u) (sN u) (sC u)]] [(b3, o4 + k * 9, [.string f.name, Vi f.kind, Vi f.ty, Vi f.src.op, Vi f.src.k, Vi f.src.n, .string f.src.s, .string f.src.nm, .slice (sA u) (sN u) (sC u)])] h7 a w := hJ1.to (by kernel_rfl) (by kernel_rfl) rfl
    clear hJ1 hF hmono R
    clear gh
    refine rx hJ false 15 [] [(37, Vi (IntKind.i64.wrap ((k : Int) + 1)), Vi ((k : Int) + 1))] (.ok (.out .normal) [] [(0, .slice (some ⟨b3, o4, none⟩) fs.length c), (14, .slice (some ⟨b3, o4, none⟩) fs.length c), (15, Vi (fs.length : Int)), (17, .bool (decide ((k : Int) < (fs.length : Int)))), (18, Vi (k : Int)), (19, .pointer (some ⟨b3, o4 + k * 9, none⟩)), (20, .agg #[.string f.name, Vi f.kind, Vi f.ty, Vi f.src.op, Vi f.src.k, Vi f.src.n, .string f.src.s, .string f.src.nm, .slice (sA u) (sN u) (sC u)]), (4, Vp b6), (3, Vi (k : Int)), (21, .agg #[.string f.name, Vi f.kind, Vi f.ty, Vi f.src.op, Vi f.src.k, Vi f.src.n, .string f.src.s, .string f.src.nm, .slice (sA u) (sN u) (sC u)]), (22, Vi 0), (5, Vi 0), (23, Vi 0), (24, .bool false), (27, .slice (some ⟨b3, o4, none⟩) fs.length c), (28, Vi (k : Int)), (29, .slice (some ⟨b3, o4, none⟩) k c), (30, Vp b6), (31, .string f.name), (32, .tuple #[Vi 0, Vi 5]), (26, .tuple #[Vi 0, Vi 5]), (33, Vi 0), (34, Vi 5), (7, Vi 5), (35, Vi 5), (36, .bool false), (37, Vi ((k : Int) + 1)), (16, Vi ((k : Int) + 1))] [.box b6 [.string f.name, Vi f.kind, Vi f.ty, Vi f.src.op, Vi f.src.k, Vi f.src.n, .string f.src.s, .string f.src.nm, .slice (sA u) (sN u) (sC u)]] [(b3, o4 + k * 9, [.string f.name, Vi f.kind, Vi f.ty, Vi f.src.op, Vi f.src.k, Vi f.src.n, .string f.src.s, .string f.src.nm, .slice (sA u) (sN u) (sC u)])]) trivial (And.intro (i64_wrap (by omega) (by omega)) (trivial)) (fun _ => by kernel_rfl) ?_
    clear hJ a w; intro a w hJ
    replace hJ := hJ.drop 0
    exact x_round ⟨k + 1, ⟨h7, (hJ.tof [] (F' := []) (by kernel_rfl)).to (by kernel_rfl) (by kernel_rfl) rfl, (s2.trans s8), by omega⟩, by omega⟩
  · skip
    refine x_false hJ (t := decide ((k : Int) < (fs.length : Int))) (by kernel_rfl) (decide_eq_false (by omega)) ?_
    refine rx hJ false 2 [] [] (.ok (.out (.exit 0)) [] [(0, .slice A fs.length c), (14, .slice A fs.length c), (15, Vi (fs.length : Int)), (16, Vi (k : Int)), (17, .bool (decide ((k : Int) < (fs.length : Int))))] [] []) trivial trivial (fun _ => by kernel_rfl) ?_
    clear hJ a w; intro a w hJ
    refine x_leave rfl ?_
    refine rx hJ false 11 [] [] (.ok (.code [0, 1, 0, 1, 1, 1]) [.block 2, .seq [1, 1, 1, 1]] [(0, .slice A fs.length c), (38, .slice A fs.length c), (39, Vi (fs.length : Int)), (40, Vi 0)] [] []) trivial trivial (fun _ => by kernel_rfl) ?_
    clear hJ a w; intro a w hJ
    refine x_loop (fun (k2 : Nat) a w => ∃ (h9 : Vw) , K ⟨51, h.w, h.bad, []⟩ [(0, .slice A fs.length c), (38, .slice A fs.length c), (39, Vi (fs.length : Int)), (40, Vi (k2 : Int))] [] [] h9 a w ∧ Sees h1 h9 ∧ (k2 ≤ fs.length)) (fun k2 => fs.length - k2) (0) (by kernel_rfl) ⟨h1, hJ.to (by kernel_rfl) (by kernel_rfl) rfl, Sees.refl _, Nat.zero_le _⟩ ?_
    clear hJ a w; rintro k2 a w ⟨h9, hJ, s10, hk2⟩
    refine rx hJ false 6 [] [] (.ok (.code [0, 1, 0, 0, 1, 0, 1, 1, 1]) [.seq [1, 1, 0, 0, 1, 0, 1, 1, 1]] [(0, .slice A fs.length c), (38, .slice A fs.length c), (39, Vi (fs.length : Int)), (40, Vi (k2 : Int)), (41, .bool (decide ((k2 : Int) < (fs.length : Int))))] [] []) trivial trivial (fun _ => by kernel_rfl) ?_
    clear hJ a w; intro a w hJ
    rcases (by omega : k2 < fs.length ∨ k2 = fs.length) with hlt2 | hke2
    · obtain ⟨f, hfk⟩ : ∃ f, fs[k2]? = some f := ⟨_, List.getElem?_eq_getElem (by omega)⟩
      obtain ⟨u, huk⟩ : ∃ u, vs[k2]? = some u := ⟨_, List.getElem?_eq_getElem (by omega)⟩
      have hslu := hsl u (List.mem_of_getElem? huk)
      have hrow : (fdRows fs vs)[k2]? = some (fdRow f (.slice (sA u) (sN u) (sC u))) := by rw [hslu]; exact fdRows_get hfk huk
      have ha : IsArgs h f.src (.slice (sA u) (sN u) (sC u)) := by rw [hslu]; exact AllArgs.get hsrc (x := f.src) (by rw [List.getElem?_map, hfk]; rfl) huk
      have hok := hf.each f (List.mem_of_getElem? hfk)
      refine x_true hJ (t := decide ((k2 : Int) < (fs.length : Int))) (by kernel_rfl) (decide_eq_true (by omega)) ?_
      refine rx hJ false 6 [] [] (.ok (.ops [0, 0, 0, 1, 1, 0, 0, 1, 0, 1, 1, 1] 0) [.seq [1, 0, 0, 1, 1, 0, 0, 1, 0, 1, 1, 1], .block 3, .seq [1, 1, 1, 0, 0, 1, 0, 1, 1, 1]] [(0, .slice A fs.length c), (38, .slice A fs.length c), (39, Vi (fs.length : Int)), (40, Vi (k2 : Int)), (41, .bool (decide ((k2 : Int) < (fs.length : Int))))] [] []) trivial trivial (fun _ => by kernel_rfl) ?_
      clear hJ a w; intro a w hJ
      obtain ⟨b11, o12, rfl, -, c13⟩ := RS.row hr (hrow)
      replace hJ := hJ.fact (c13.sees (s2.trans s10))
      refine rx hJ false 28 [.ix b11 o12 fs.length c k2, .f 0 0, .own, .b 0 0, .b 0 0, .cl 60 #[.agg #[.string f.name, Vi f.kind, Vi f.ty, Vi f.src.op, Vi f.src.k, Vi f.src.n, .string f.src.s, .string f.src.nm, .slice (sA u) (sN u) (sC u)], .slice (some ⟨b11, o12, none⟩) fs.length c] (Vi 0)] [(50, Vi (IntKind.i64.wrap ((k2 : Int) + 1)), Vi ((k2 : Int) + 1))] (.new fun b14 => .ok (.out .normal) [] [(0, .slice (some ⟨b11, o12, none⟩) fs.length c), (38, .slice (some ⟨b11, o12, none⟩) fs.length c), (39, Vi (fs.length : Int)), (41, .bool (decide ((k2 : Int) < (fs.length : Int)))), (42, .pointer (some ⟨b11, o12 + k2 * 9, none⟩)), (43, .agg #[.string f.name, Vi f.kind, Vi f.ty, Vi f.src.op, Vi f.src.k, Vi f.src.n, .string f.src.s, .string f.src.nm, .slice (sA u) (sN u) (sC u)]), (9, Vp b14), (44, .agg #[.string f.name, Vi f.kind, Vi f.ty, Vi f.src.op, Vi f.src.k, Vi f.src.n, .string f.src.s, .string f.src.nm, .slice (sA u) (sN u) (sC u)]), (45, .slice (some ⟨b11, o12, none⟩) fs.length c), (46, Vi 0), (10, Vi 0), (47, Vi 0), (48, .bool false), (50, Vi ((k2 : Int) + 1)), (40, Vi ((k2 : Int) + 1))] [.box b14 [.string f.name, Vi f.kind, Vi f.ty, Vi f.src.op, Vi f.src.k, Vi f.src.n, .string f.src.s, .string f.src.nm, .slice (sA u) (sN u) (sC u)]] [(b11, o12 + k2 * 9, [.string f.name, Vi f.kind, Vi f.ty, Vi f.src.op, Vi f.src.k, Vi f.src.n, .string f.src.s, .string f.src.nm, .slice (sA u) (sN u) (sC u)])]) (And.intro (by first | omega | (simp; omega)) (And.intro (fun H sH => typed_any fs f _ _ _ hok (ha.sees (s2.trans (s10.trans sH))) (hfs.sees (s2.trans (s10.trans sH)))) (trivial))) (And.intro (i64_wrap (by omega) (by omega)) (trivial)) (fun b14 _ => by kernel_rfl) ?_
      clear hJ a w; intro b14 a w hJ
      replace hJ := hJ.drop 0
      exact x_round ⟨k2 + 1, ⟨h9, (hJ.tof [] (F' := []) (by kernel_rfl)).to (by kernel_rfl) (by kernel_rfl) rfl, s10, by omega⟩, by omega⟩
    · skip
      refine x_false hJ (t := decide ((k2 : Int) < (fs.length : Int))) (by kernel_rfl) (decide_eq_false (by omega)) ?_
      refine rx hJ false 2 [] [] (.ok (.out (.exit 2)) [] [(0, .slice A fs.length c), (38, .slice A fs.length c), (39, Vi (fs.length : Int)), (40, Vi (k2 : Int)), (41, .bool (decide ((k2 : Int) < (fs.length : Int))))] [] []) trivial trivial (fun _ => by kernel_rfl) ?_
      clear hJ a w; intro a w hJ
      refine x_leave rfl ?_
      refine rx hJ false 8 [] [] (.ok (.out .ret) [] [(2, Vi 0)] [] []) trivial trivial (fun _ => by kernel_rfl) ?_
      clear hJ a w; intro a w hJ
      refine x_end (hQ [Vi 0] _ [] hJ (.rtmp hJ.j (by kernel_rfl) .nil) (no_own _) rfl ?_).1
      exact rfl

end Go.Proofs.Ytgjndkphfabnnaa

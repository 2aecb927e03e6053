/-
  Contract of sheet.Facts.
-/
import Derived.Test.YtpckomnpeainlabInp
import Derived.Test.YtpckomnpeainlabTold
namespace Go.Proofs.Ytpckomnpeainlab
open Go.RowKit
set_option linter.unusedVariables false

/-- What sheet.Facts says of the facts that are still to come, behind pre. -/
def factsV (fs : List Fd) : Env → Env → Int
  | _, [] => 0
  | pre, p :: rest => if toldE fs p.1 p.2.k = 0 then (if pre.any (fun q => q.1.toList == p.1.toList) then 6 else factsV fs (pre ++ [p]) rest) else toldE fs p.1 p.2.k

theorem facts1_any (p : ByteArray × Vl) (b : Nat) (x : ByteArray × Vl) (h : Vw) (hc : Cells h b 0 (fcRow x)) : C0 Try.prog 65 #[.agg #[.string p.1, .int .i64 0, .int .i64 0, .string ⟨#[]⟩, .int .i64 p.2.k, .int .i64 p.2.n, .string p.2.s], .pointer (some ⟨b, 0, none⟩)] h (fun r _ => r = .bool (p.1.toList == x.1.toList)) := by
  refine x_con Try.func65 (c := Try.f65.body.getD .skip) (by kernel_rfl) (N := 9) rfl (by kernel_rfl) ?_
  intro hbx hbad Q hQ a w hJ
  replace hJ : K ⟨9, h.w, h.bad, []⟩ [(0, .agg #[.string p.1, .int .i64 0, .int .i64 0, .string ⟨#[]⟩, .int .i64 p.2.k, .int .i64 p.2.n, .string p.2.s]), (1, .pointer (some ⟨b, 0, none⟩))] [] [] h a w := hJ.to (by kernel_rfl) (by kernel_rfl) rfl
  replace hJ := hJ.fact (hc.sees (Sees.refl _))
  refine rx hJ false 17 [.own, .b 0 0, .f 0 0] [] (.new fun b1 => .ok (.out .ret) [] [(3, .bool (p.1.toList == x.1.toList))] [.box b1 [.string p.1, .int .i64 0, .int .i64 0, .string ⟨#[]⟩, .int .i64 p.2.k, .int .i64 p.2.n, .string p.2.s]] [(b, 0, [.string x.1, .int .i64 0, .int .i64 0, .string ⟨#[]⟩, .int .i64 x.2.k, .int .i64 x.2.n, .string x.2.s])]) trivial trivial (fun b1 _ => by kernel_rfl) ?_
  clear hJ a w; intro b1 a w hJ
  refine x_end (hQ [.bool (p.1.toList == x.1.toList)] _ [] hJ (.rtmp hJ.j (by kernel_rfl) .nil) (no_own _) rfl ?_).1
  exact rfl

set_option maxRecDepth 100000 in
theorem idxFc_any (l : Env) (A : Option Addr) (cap : Nat) (b : Nat) (x : ByteArray × Vl) (h : Vw) (hr : RS h 7 (.slice A l.length cap) (fcRows l)) (hl : l.length ≤ 1000000) (hc : Cells h b 0 (fcRow x)) :
    C0 Try.prog 81 #[.slice A l.length cap, .func (.func 65) #[] #[.pointer (some ⟨b, 0, none⟩)]] h (fun r _ => r = .int .i64 (fidx (fun q : ByteArray × Vl => q.1.toList == x.1.toList) l)) := by
  generalize hL : l.length = len at *
  refine x_con Try.func81 (c := Try.f81.body.getD .skip) (by kernel_rfl) (N := 19) rfl (by kernel_rfl) ?_
  intro hbx hbad Q hQ a w hJ
  replace hJ : K ⟨19, h.w, h.bad, []⟩ [(0, .slice A len cap), (1, .func (.func 65) #[] #[.pointer (some ⟨b, 0, none⟩)])] [] [] h a w := hJ.to (by kernel_rfl) (by kernel_rfl) rfl
  refine rx hJ false 14 [] [] (.ok (.code [0, 1, 0, 1]) [.block 0, .seq [1, 1]] [(0, .slice A len cap), (1, .func (.func 65) #[] #[.pointer (some ⟨b, 0, none⟩)]), (4, .int .i64 0), (7, .int .i64 (len : Int)), (8, .int .i64 0)] [] []) trivial trivial (fun _ => by kernel_rfl) ?_
  clear hJ a w; intro a w hJ
  refine x_loop (fun (k : Nat) a w => ∃ (h1 : Vw) , K ⟨19, h.w, h.bad, []⟩ [(0, .slice A len cap), (1, .func (.func 65) #[] #[.pointer (some ⟨b, 0, none⟩)]), (7, .int .i64 (len : Int)), (8, .int .i64 (k : Int))] [] [] h1 a w ∧ Sees h h1 ∧ (k ≤ len) ∧ (∀ y ∈ l.take k, (y.1.toList == x.1.toList) = false)) (fun k => len - k) (0) (by kernel_rfl) ⟨h, hJ.to (by kernel_rfl) (by kernel_rfl) rfl, Sees.refl _, Nat.zero_le _, fun y hy => by simp at hy⟩ ?_
  clear hJ a w; rintro k a w ⟨h1, hJ, s2, hk, hn⟩
  refine rx hJ false 6 [] [] (.ok (.code [0, 1, 0, 0, 1, 0, 1]) [.seq [1, 1, 0, 0, 1, 0, 1]] [(0, .slice A len cap), (1, .func (.func 65) #[] #[.pointer (some ⟨b, 0, none⟩)]), (7, .int .i64 (len : Int)), (8, .int .i64 (k : Int)), (9, .bool (decide ((k : Int) < (len : Int))))] [] []) trivial trivial (fun _ => by kernel_rfl) ?_
  clear hJ a w; intro a w hJ
  rcases (by omega : k < len ∨ k = len) with hlt | hke
  · obtain ⟨f, hfk⟩ : ∃ f, l[k]? = some f := ⟨_, List.getElem?_eq_getElem (by omega)⟩
    have hrow : (fcRows l)[k]? = some (fcRow f) := by rw [List.getElem?_map, hfk]; rfl
    refine x_true hJ (t := decide ((k : Int) < (len : Int))) (by kernel_rfl) (decide_eq_true (by omega)) ?_
    refine rx hJ false 15 [] [] (.ok (.ops [0, 1, 0, 0, 1, 1, 0, 0, 1, 0, 1] 3) [.seq [1, 1, 0, 0, 1, 1, 0, 0, 1, 0, 1], .block 1, .seq [1, 1, 1, 0, 0, 1, 0, 1]] [(0, .slice A len cap), (1, .func (.func 65) #[] #[.pointer (some ⟨b, 0, none⟩)]), (7, .int .i64 (len : Int)), (8, .int .i64 (k : Int)), (9, .bool (decide ((k : Int) < (len : Int)))), (10, .int .i64 (k : Int)), (5, .int .i64 (k : Int)), (11, .func (.func 65) #[] #[.pointer (some ⟨b, 0, none⟩)]), (12, .slice A len cap), (13, .int .i64 (k : Int))] [] []) trivial trivial (fun _ => by kernel_rfl) ?_
    clear hJ a w; intro a w hJ
    obtain ⟨b3, o4, rfl, -, c5⟩ := RS.row hr (hrow)
    replace hJ := hJ.fact (c5.sees s2)
    refine rx hJ false 5 [.ix b3 o4 len cap k, .f 0 0, .cl 65 #[.agg #[.string f.1, .int .i64 0, .int .i64 0, .string ⟨#[]⟩, .int .i64 f.2.k, .int .i64 f.2.n, .string f.2.s], .pointer (some ⟨b, 0, none⟩)] (.bool (f.1.toList == x.1.toList))] [] (.ok (.code [1, 1, 0, 0, 1, 1, 0, 0, 1, 0, 1]) [.block 1, .seq [1, 1, 1, 0, 0, 1, 0, 1]] [(0, .slice (some ⟨b3, o4, none⟩) len cap), (1, .func (.func 65) #[] #[.pointer (some ⟨b, 0, none⟩)]), (7, .int .i64 (len : Int)), (8, .int .i64 (k : Int)), (9, .bool (decide ((k : Int) < (len : Int)))), (10, .int .i64 (k : Int)), (5, .int .i64 (k : Int)), (11, .func (.func 65) #[] #[.pointer (some ⟨b, 0, none⟩)]), (12, .slice (some ⟨b3, o4, none⟩) len cap), (13, .int .i64 (k : Int)), (14, .pointer (some ⟨b3, o4 + k * 7, none⟩)), (15, .agg #[.string f.1, .int .i64 0, .int .i64 0, .string ⟨#[]⟩, .int .i64 f.2.k, .int .i64 f.2.n, .string f.2.s]), (16, .bool (f.1.toList == x.1.toList))] [] [(b3, o4 + k * 7, [.string f.1, .int .i64 0, .int .i64 0, .string ⟨#[]⟩, .int .i64 f.2.k, .int .i64 f.2.n, .string f.2.s])]) (And.intro (by first | omega | (simp; omega)) (And.intro (fun H sH => facts1_any f b x _ (hc.sees (s2.trans sH))) (trivial))) trivial (fun _ => by kernel_rfl) ?_
    clear hJ a w; intro a w hJ
    cases hq : f.1.toList == x.1.toList with
    | true =>
      refine x_true hJ (t := f.1.toList == x.1.toList) (by kernel_rfl) (hq) ?_
      refine rx hJ false 9 [] [] (.ok (.out .ret) [] [(0, .slice (some ⟨b3, o4, none⟩) len cap), (1, .func (.func 65) #[] #[.pointer (some ⟨b, 0, none⟩)]), (7, .int .i64 (len : Int)), (8, .int .i64 (k : Int)), (9, .bool (decide ((k : Int) < (len : Int)))), (10, .int .i64 (k : Int)), (5, .int .i64 (k : Int)), (11, .func (.func 65) #[] #[.pointer (some ⟨b, 0, none⟩)]), (12, .slice (some ⟨b3, o4, none⟩) len cap), (13, .int .i64 (k : Int)), (14, .pointer (some ⟨b3, o4 + k * 7, none⟩)), (15, .agg #[.string f.1, .int .i64 0, .int .i64 0, .string ⟨#[]⟩, .int .i64 f.2.k, .int .i64 f.2.n, .string f.2.s]), (16, .bool (f.1.toList == x.1.toList)), (17, .int .i64 (k : Int)), (4, .int .i64 (k : Int))] [] [(b3, o4 + k * 7, [.string f.1, .int .i64 0, .int .i64 0, .string ⟨#[]⟩, .int .i64 f.2.k, .int .i64 f.2.n, .string f.2.s])]) trivial trivial (fun _ => by kernel_rfl) ?_
      clear hJ a w; intro a w hJ
      refine x_leave rfl ?_
      refine rx hJ false 2 [] [] (.ok (.out .ret) [] [(4, .int .i64 (k : Int))] [] [(b3, o4 + k * 7, [.string f.1, .int .i64 0, .int .i64 0, .string ⟨#[]⟩, .int .i64 f.2.k, .int .i64 f.2.n, .string f.2.s])]) trivial trivial (fun _ => by kernel_rfl) ?_
      clear hJ a w; intro a w hJ
      refine x_end (hQ [.int .i64 (k : Int)] _ [] hJ (.rtmp hJ.j (by kernel_rfl) .nil) (no_own _) rfl ?_).1
      exact congrArg (Value.int .i64) (fidx_found _ l k f hn hfk hq).symm
    | false =>
      refine x_false hJ (t := f.1.toList == x.1.toList) (by kernel_rfl) (hq) ?_
      refine rx hJ false 7 [] [(18, .int .i64 (IntKind.i64.wrap ((k : Int) + 1)), .int .i64 ((k : Int) + 1))] (.ok (.out .normal) [] [(0, .slice (some ⟨b3, o4, none⟩) len cap), (1, .func (.func 65) #[] #[.pointer (some ⟨b, 0, none⟩)]), (7, .int .i64 (len : Int)), (9, .bool (decide ((k : Int) < (len : Int)))), (10, .int .i64 (k : Int)), (5, .int .i64 (k : Int)), (11, .func (.func 65) #[] #[.pointer (some ⟨b, 0, none⟩)]), (12, .slice (some ⟨b3, o4, none⟩) len cap), (13, .int .i64 (k : Int)), (14, .pointer (some ⟨b3, o4 + k * 7, none⟩)), (15, .agg #[.string f.1, .int .i64 0, .int .i64 0, .string ⟨#[]⟩, .int .i64 f.2.k, .int .i64 f.2.n, .string f.2.s]), (16, .bool (f.1.toList == x.1.toList)), (18, .int .i64 ((k : Int) + 1)), (8, .int .i64 ((k : Int) + 1))] [] [(b3, o4 + k * 7, [.string f.1, .int .i64 0, .int .i64 0, .string ⟨#[]⟩, .int .i64 f.2.k, .int .i64 f.2.n, .string f.2.s])]) trivial (And.intro (i64_wrap (by omega) (by omega)) (trivial)) (fun _ => by kernel_rfl) ?_
      clear hJ a w; intro a w hJ
      exact x_round ⟨k + 1, ⟨h1, (hJ.tof [] (F' := []) (by kernel_rfl)).to (by kernel_rfl) (by kernel_rfl) rfl, s2, by omega, (by rw [take_snoc' l k f hfk]; exact fun y hy => (List.mem_append.1 hy).elim (hn y) (fun e => by rw [List.mem_singleton.1 e]; exact hq))⟩, by omega⟩
  · skip
    have htk : l.take k = l := by rw [hke, ← hL, List.take_length]
    rw [htk] at hn
    refine x_false hJ (t := decide ((k : Int) < (len : Int))) (by kernel_rfl) (decide_eq_false (by omega)) ?_
    refine rx hJ false 2 [] [] (.ok (.out (.exit 0)) [] [(0, .slice A len cap), (1, .func (.func 65) #[] #[.pointer (some ⟨b, 0, none⟩)]), (7, .int .i64 (len : Int)), (8, .int .i64 (k : Int)), (9, .bool (decide ((k : Int) < (len : Int))))] [] []) trivial trivial (fun _ => by kernel_rfl) ?_
    clear hJ a w; intro a w hJ
    refine x_leave rfl ?_
    refine rx hJ false 8 [] [] (.ok (.out .ret) [] [(4, .int .i64 (-1))] [] []) trivial trivial (fun _ => by kernel_rfl) ?_
    clear hJ a w; intro a w hJ
    refine x_end (hQ [.int .i64 (-1)] _ [] hJ (.rtmp hJ.j (by kernel_rfl) .nil) (no_own _) rfl ?_).1
    exact congrArg (Value.int .i64) (fidx_none _ l hn).symm
theorem contFc_any (l : Env) (A : Option Addr) (cap : Nat) (b : Nat) (x : ByteArray × Vl) (h : Vw) (hr : RS h 7 (.slice A l.length cap) (fcRows l)) (hl : l.length ≤ 1000000) (hc : Cells h b 0 (fcRow x)) :
    C0 Try.prog 64 #[.slice A l.length cap, .func (.func 65) #[] #[.pointer (some ⟨b, 0, none⟩)]] h (fun r _ => r = .bool (l.any (fun q => q.1.toList == x.1.toList))) := by
  have hi := fun H q1 q2 => idxFc_any l A cap b x H q1 hl q2
  have e := fidx_dec (fun q : ByteArray × Vl => q.1.toList == x.1.toList) l
  generalize fidx (fun q : ByteArray × Vl => q.1.toList == x.1.toList) l = p at *
  refine x_con Try.func64 (c := Try.f64.body.getD .skip) (by kernel_rfl) (N := 9) rfl (by kernel_rfl) ?_
  intro hbx hbad Q hQ a w hJ
  replace hJ : K ⟨9, h.w, h.bad, []⟩ [(0, .slice A l.length cap), (1, .func (.func 65) #[] #[.pointer (some ⟨b, 0, none⟩)])] [] [] h a w := hJ.to (by kernel_rfl) (by kernel_rfl) rfl
  refine rx hJ false 15 [.cl 81 #[.slice A l.length cap, .func (.func 65) #[] #[.pointer (some ⟨b, 0, none⟩)]] (.int .i64 p)] [] (.ok (.out .ret) [] [(4, .bool (decide (p ≥ 0)))] [] []) (And.intro (fun H sH => hi _ (hr.sees sH) (hc.sees sH)) (trivial)) trivial (fun _ => by kernel_rfl) ?_
  clear hJ a w; intro a w hJ
  refine x_end (hQ [.bool (decide (p ≥ 0))] _ [] hJ (.rtmp hJ.j (by kernel_rfl) .nil) (no_own _) rfl ?_).1
  exact congrArg Value.bool e

set_option maxHeartbeats 4000000 in
set_option maxRecDepth 100000 in
theorem facts_v (fs : List Fd) (fv pv : Value) (l : Env) (sl : Value) (h : Vw) (hf : IsFds h fv fs) (hpv : .slice (sA pv) (sN pv) (sC pv) = pv) (hfl : fs.length ≤ 1000000) (hl : RS h 7 sl (fcRows l)) (hll : l.length ≤ 1000000) (hk : ∀ p ∈ l, p.2.known) :
    C0 Try.prog 39 #[.agg #[fv, pv], sl] h (fun r _ => r = .int .i64 (factsV fs [] l)) := by
  obtain ⟨vs, A, c, rfl, -, -, hr, -, hvl, hsl⟩ := fds_open hf
  obtain ⟨A0, c0, rfl, hc1, -, -⟩ := hl.form
  rw [List.length_map] at *
  rw [← hpv]
  have hT := fun H s k n t q1 q2 => told_any fs (.slice A fs.length c) s k n t H q1 hfl q2
  generalize hL : l.length = len at *
  refine x_con Try.func39 (c := Try.f39.body.getD .skip) (by kernel_rfl) (N := 35) rfl (by kernel_rfl) ?_
  intro hbx hbad Q hQ a w hJ
  replace hJ : K ⟨35, h.w, h.bad, []⟩ [(0, .agg #[.slice A fs.length c, .slice (sA pv) (sN pv) (sC pv)]), (1, .slice A0 len c0)] [] [] h a w := hJ.to (by kernel_rfl) (by kernel_rfl) rfl
  refine rx hJ false 15 [.own] [] (.new fun b1 => .ok (.code [0, 1, 0, 1]) [.block 0, .seq [1, 1]] [(1, .slice A0 len c0), (2, .pointer (some ⟨b1, 0, none⟩)), (4, .int .i64 0), (8, .slice A0 len c0), (9, .int .i64 (len : Int)), (10, .int .i64 0)] [.box b1 [.slice A fs.length c, .slice (sA pv) (sN pv) (sC pv)]] []) trivial trivial (fun b1 _ => by kernel_rfl) ?_
  clear hJ a w; intro b1 a w hJ
  refine x_loop (fun (k : Nat) a w => ∃ (h2 : Vw) , K ⟨35, h.w, h.bad, []⟩ [(1, .slice A0 len c0), (2, .pointer (some ⟨b1, 0, none⟩)), (8, .slice A0 len c0), (9, .int .i64 (len : Int)), (10, .int .i64 (k : Int))] [.box b1 [.slice A fs.length c, .slice (sA pv) (sN pv) (sC pv)]] [] h2 a w ∧ Sees h h2 ∧ (k ≤ len) ∧ (factsV fs (l.take k) (l.drop k) = factsV fs [] l)) (fun k => len - k) (0) (by kernel_rfl) ⟨h, hJ.to (by kernel_rfl) (by kernel_rfl) rfl, Sees.refl _, Nat.zero_le _, rfl⟩ ?_
  clear hJ a w; rintro k a w ⟨h2, hJ, s3, hkl, hv⟩
  refine rx hJ false 6 [] [] (.ok (.code [0, 1, 0, 0, 1, 0, 1]) [.seq [1, 1, 0, 0, 1, 0, 1]] [(1, .slice A0 len c0), (2, .pointer (some ⟨b1, 0, none⟩)), (8, .slice A0 len c0), (9, .int .i64 (len : Int)), (10, .int .i64 (k : Int)), (11, .bool (decide ((k : Int) < (len : Int))))] [.box b1 [.slice A fs.length c, .slice (sA pv) (sN pv) (sC pv)]] []) trivial trivial (fun _ => by kernel_rfl) ?_
  clear hJ a w; intro a w hJ
  rcases (by omega : k < len ∨ k = len) with hlt | hke
  · obtain ⟨x, hxk⟩ : ∃ x, l[k]? = some x := ⟨_, List.getElem?_eq_getElem (by omega)⟩
    have hrow : (fcRows l)[k]? = some (fcRow x) := by rw [List.getElem?_map, hxk]; rfl
    have hxn := hk x (List.mem_of_getElem? hxk)
    have hdr : l.drop k = x :: l.drop (k + 1) := by
      obtain ⟨h1, h2⟩ := List.getElem?_eq_some_iff.1 hxk
      rw [List.drop_eq_getElem_cons h1, h2]
    have htk := take_snoc' l k x hxk
    rw [hdr] at hv
    have hv1 : factsV fs (l.take k) (x :: l.drop (k + 1)) = if toldE fs x.1 x.2.k = 0 then (if (l.take k).any (fun q => q.1.toList == x.1.toList) then 6 else factsV fs (l.take k ++ [x]) (l.drop (k + 1))) else toldE fs x.1 x.2.k := rfl
    rw [hv1] at hv
    have htl : (l.take k).length = k := by rw [List.length_take]; omega
    have htr : RS h 7 (.slice A0 k c0) (fcRows (l.take k)) := by have := hl.take k (by rw [List.length_map]; omega); rwa [← List.map_take] at this
    have hC := fun H b q1 q2 => contFc_any (l.take k) A0 c0 b x H q1 (by omega) q2
    rw [htl] at hC
    have hTx := fun H q => hT H x.1 x.2.k x.2.n x.2.s q hxn
    generalize toldE fs x.1 x.2.k = z at *
    generalize hany : (l.take k).any (fun q => q.1.toList == x.1.toList) = y at *
    refine x_true hJ (t := decide ((k : Int) < (len : Int))) (by kernel_rfl) (decide_eq_true (by omega)) ?_
    refine rx hJ false 7 [] [] (.ok (.ops [0, 0, 0, 1, 1, 0, 0, 1, 0, 1] 1) [.seq [1, 0, 0, 1, 1, 0, 0, 1, 0, 1], .block 1, .seq [1, 1, 1, 0, 0, 1, 0, 1]] [(1, .slice A0 len c0), (2, .pointer (some ⟨b1, 0, none⟩)), (8, .slice A0 len c0), (9, .int .i64 (len : Int)), (10, .int .i64 (k : Int)), (11, .bool (decide ((k : Int) < (len : Int)))), (12, .int .i64 (k : Int))] [.box b1 [.slice A fs.length c, .slice (sA pv) (sN pv) (sC pv)]] []) trivial trivial (fun _ => by kernel_rfl) ?_
    clear hJ a w; intro a w hJ
    obtain ⟨b4, o5, rfl, -, c6⟩ := RS.row hl (hrow)
    replace hJ := hJ.fact (c6.sees s3)
    refine rx hJ false 26 [.ix b4 o5 len c0 k, .f 0 0, .own, .b 0 0, .b 1 0, .b 0 0, .b 0 4, .cl 37 #[.slice A fs.length c, .string x.1, .agg #[.int .i64 x.2.k, .int .i64 x.2.n, .string x.2.s]] (.int .i64 z)] [] (.new fun bx => .ok (.code [1, 1, 0, 1, 0, 0, 1, 1, 0, 0, 1, 0, 1]) [.seq [1, 1, 0, 0, 1, 1, 0, 0, 1, 0, 1], .block 1, .seq [1, 1, 1, 0, 0, 1, 0, 1]] [(1, .slice (some ⟨b4, o5, none⟩) len c0), (2, .pointer (some ⟨b1, 0, none⟩)), (8, .slice (some ⟨b4, o5, none⟩) len c0), (9, .int .i64 (len : Int)), (10, .int .i64 (k : Int)), (11, .bool (decide ((k : Int) < (len : Int)))), (12, .int .i64 (k : Int)), (13, .pointer (some ⟨b4, o5 + k * 7, none⟩)), (14, .agg #[.string x.1, .int .i64 0, .int .i64 0, .string ⟨#[]⟩, .int .i64 x.2.k, .int .i64 x.2.n, .string x.2.s]), (6, .pointer (some ⟨bx, 0, none⟩)), (5, .int .i64 (k : Int)), (15, .pointer (some ⟨b1, 0, none⟩)), (16, .slice A fs.length c), (17, .pointer (some ⟨bx, 0, none⟩)), (18, .string x.1), (19, .pointer (some ⟨bx, 4, none⟩)), (20, .agg #[.int .i64 x.2.k, .int .i64 x.2.n, .string x.2.s]), (21, .int .i64 z), (7, .int .i64 z), (22, .int .i64 z), (23, .bool (z != 0))] [.box bx [.string x.1, .int .i64 0, .int .i64 0, .string ⟨#[]⟩, .int .i64 x.2.k, .int .i64 x.2.n, .string x.2.s], .box b1 [.slice A fs.length c, .slice (sA pv) (sN pv) (sC pv)]] [(b4, o5 + k * 7, [.string x.1, .int .i64 0, .int .i64 0, .string ⟨#[]⟩, .int .i64 x.2.k, .int .i64 x.2.n, .string x.2.s])]) (And.intro (by first | omega | (simp; omega)) (And.intro (fun H sH => hTx _ (hf.sees (s3.trans sH))) (trivial))) trivial (fun bx _ => by kernel_rfl) ?_
    clear hJ a w; intro bx a w hJ
    by_cases h1 : z = 0
    · rw [if_pos h1] at hv
      refine x_false hJ (t := z != 0) (by kernel_rfl) ((by rw [bne_eq_false_iff_eq]; exact h1)) ?_
      refine rx hJ false 18 [.b 0 1] [] (.ok (.ops [0, 1, 1, 1, 0, 0, 1, 1, 0, 0, 1, 0, 1] 2) [.seq [1, 1, 1, 1, 0, 0, 1, 1, 0, 0, 1, 0, 1], .block 1, .seq [1, 1, 1, 0, 0, 1, 0, 1]] [(1, .slice (some ⟨b4, o5, none⟩) len c0), (2, .pointer (some ⟨b1, 0, none⟩)), (8, .slice (some ⟨b4, o5, none⟩) len c0), (9, .int .i64 (len : Int)), (10, .int .i64 (k : Int)), (11, .bool (decide ((k : Int) < (len : Int)))), (12, .int .i64 (k : Int)), (13, .pointer (some ⟨b4, o5 + k * 7, none⟩)), (14, .agg #[.string x.1, .int .i64 0, .int .i64 0, .string ⟨#[]⟩, .int .i64 x.2.k, .int .i64 x.2.n, .string x.2.s]), (6, .pointer (some ⟨bx, 0, none⟩)), (5, .int .i64 (k : Int)), (15, .pointer (some ⟨b1, 0, none⟩)), (16, .slice A fs.length c), (17, .pointer (some ⟨bx, 0, none⟩)), (18, .string x.1), (19, .pointer (some ⟨bx, 4, none⟩)), (20, .agg #[.int .i64 x.2.k, .int .i64 x.2.n, .string x.2.s]), (21, .int .i64 z), (7, .int .i64 z), (22, .int .i64 z), (23, .bool (z != 0)), (25, .pointer (some ⟨bx, 1, none⟩)), (26, .agg #[.int .i64 0, .int .i64 0, .string ⟨#[]⟩]), (27, .agg #[.int .i64 0, .int .i64 0, .string ⟨#[]⟩]), (28, .bool false), (29, .slice (some ⟨b4, o5, none⟩) len c0), (30, .int .i64 (k : Int))] [.box bx [.string x.1, .int .i64 0, .int .i64 0, .string ⟨#[]⟩, .int .i64 x.2.k, .int .i64 x.2.n, .string x.2.s], .box b1 [.slice A fs.length c, .slice (sA pv) (sN pv) (sC pv)]] [(b4, o5 + k * 7, [.string x.1, .int .i64 0, .int .i64 0, .string ⟨#[]⟩, .int .i64 x.2.k, .int .i64 x.2.n, .string x.2.s])]) trivial trivial (fun _ => by kernel_rfl) ?_
      clear hJ a w; intro a w hJ
      refine x_pure hJ 31 (.slice (some ⟨b4, o5, none⟩) k c0) (by kernel_rfl) (fun w => run_hi (t := 75) (e := 80) (x := (.tmp 29)) (y := (.tmp 30)) (A := (some ⟨b4, o5, none⟩)) (n := len) (cap := c0) (k := k) (kk := 7) (by kernel_rfl) (by kernel_rfl) (by kernel_rfl) (by omega) Try.underlying75 (by kernel_rfl)) ?_; clear hJ a w; intro a w hJ
      refine rx hJ false 1 [] [] (.ok (.ops [0, 1, 1, 1, 0, 0, 1, 1, 0, 0, 1, 0, 1] 4) [.seq [1, 1, 1, 1, 0, 0, 1, 1, 0, 0, 1, 0, 1], .block 1, .seq [1, 1, 1, 0, 0, 1, 0, 1]] [(1, .slice (some ⟨b4, o5, none⟩) len c0), (2, .pointer (some ⟨b1, 0, none⟩)), (8, .slice (some ⟨b4, o5, none⟩) len c0), (9, .int .i64 (len : Int)), (10, .int .i64 (k : Int)), (11, .bool (decide ((k : Int) < (len : Int)))), (12, .int .i64 (k : Int)), (13, .pointer (some ⟨b4, o5 + k * 7, none⟩)), (14, .agg #[.string x.1, .int .i64 0, .int .i64 0, .string ⟨#[]⟩, .int .i64 x.2.k, .int .i64 x.2.n, .string x.2.s]), (6, .pointer (some ⟨bx, 0, none⟩)), (5, .int .i64 (k : Int)), (15, .pointer (some ⟨b1, 0, none⟩)), (16, .slice A fs.length c), (17, .pointer (some ⟨bx, 0, none⟩)), (18, .string x.1), (19, .pointer (some ⟨bx, 4, none⟩)), (20, .agg #[.int .i64 x.2.k, .int .i64 x.2.n, .string x.2.s]), (21, .int .i64 z), (7, .int .i64 z), (22, .int .i64 z), (23, .bool (z != 0)), (25, .pointer (some ⟨bx, 1, none⟩)), (26, .agg #[.int .i64 0, .int .i64 0, .string ⟨#[]⟩]), (27, .agg #[.int .i64 0, .int .i64 0, .string ⟨#[]⟩]), (28, .bool false), (29, .slice (some ⟨b4, o5, none⟩) len c0), (30, .int .i64 (k : Int)), (31, .slice (some ⟨b4, o5, none⟩) k c0), (32, .func (.func 65) #[] #[.pointer (some ⟨bx, 0, none⟩)])] [.box bx [.string x.1, .int .i64 0, .int .i64 0, .string ⟨#[]⟩, .int .i64 x.2.k, .int .i64 x.2.n, .string x.2.s], .box b1 [.slice A fs.length c, .slice (sA pv) (sN pv) (sC pv)]] [(b4, o5 + k * 7, [.string x.1, .int .i64 0, .int .i64 0, .string ⟨#[]⟩, .int .i64 x.2.k, .int .i64 x.2.n, .string x.2.s])]) trivial trivial (fun _ => by kernel_rfl) ?_
      clear hJ a w; intro a w hJ
      refine x_callq hJ 33 (hC _ bx (htr.sees (s3.trans hJ.j.seesQ)) (hJ.j.boxQ (b := bx) (cs := [.string x.1, .int .i64 0, .int .i64 0, .string ⟨#[]⟩, .int .i64 x.2.k, .int .i64 x.2.n, .string x.2.s]) 0 rfl)) (fun _ => by kernel_rfl) ?_; clear hJ a w; intro h7 a w s8 hJ
      refine rx hJ false 2 [] [] (.ok (.code [1, 1, 1, 1, 0, 0, 1, 1, 0, 0, 1, 0, 1]) [.block 1, .seq [1, 1, 1, 0, 0, 1, 0, 1]] [(1, .slice (some ⟨b4, o5, none⟩) len c0), (2, .pointer (some ⟨b1, 0, none⟩)), (8, .slice (some ⟨b4, o5, none⟩) len c0), (9, .int .i64 (len : Int)), (10, .int .i64 (k : Int)), (11, .bool (decide ((k : Int) < (len : Int)))), (12, .int .i64 (k : Int)), (13, .pointer (some ⟨b4, o5 + k * 7, none⟩)), (14, .agg #[.string x.1, .int .i64 0, .int .i64 0, .string ⟨#[]⟩, .int .i64 x.2.k, .int .i64 x.2.n, .string x.2.s]), (6, .pointer (some ⟨bx, 0, none⟩)), (5, .int .i64 (k : Int)), (15, .pointer (some ⟨b1, 0, none⟩)), (16, .slice A fs.length c), (17, .pointer (some ⟨bx, 0, none⟩)), (18, .string x.1), (19, .pointer (some ⟨bx, 4, none⟩)), (20, .agg #[.int .i64 x.2.k, .int .i64 x.2.n, .string x.2.s]), (21, .int .i64 z), (7, .int .i64 z), (22, .int .i64 z), (23, .bool (z != 0)), (25, .pointer (some ⟨bx, 1, none⟩)), (26, .agg #[.int .i64 0, .int .i64 0, .string ⟨#[]⟩]), (27, .agg #[.int .i64 0, .int .i64 0, .string ⟨#[]⟩]), (28, .bool false), (29, .slice (some ⟨b4, o5, none⟩) len c0), (30, .int .i64 (k : Int)), (31, .slice (some ⟨b4, o5, none⟩) k c0), (32, .func (.func 65) #[] #[.pointer (some ⟨bx, 0, none⟩)]), (33, .bool y)] [.box bx [.string x.1, .int .i64 0, .int .i64 0, .string ⟨#[]⟩, .int .i64 x.2.k, .int .i64 x.2.n, .string x.2.s], .box b1 [.slice A fs.length c, .slice (sA pv) (sN pv) (sC pv)]] [(b4, o5 + k * 7, [.string x.1, .int .i64 0, .int .i64 0, .string ⟨#[]⟩, .int .i64 x.2.k, .int .i64 x.2.n, .string x.2.s])]) trivial trivial (fun _ => by kernel_rfl) ?_
      clear hJ a w; intro a w hJ
      rcases Bool.eq_false_or_eq_true y with hy | hy
      · rw [if_pos hy] at hv
        refine x_true hJ (t := y) (by kernel_rfl) (hy) ?_
        refine rx hJ false 8 [] [] (.ok (.out .ret) [] [(1, .slice (some ⟨b4, o5, none⟩) len c0), (2, .pointer (some ⟨b1, 0, none⟩)), (8, .slice (some ⟨b4, o5, none⟩) len c0), (9, .int .i64 (len : Int)), (10, .int .i64 (k : Int)), (11, .bool (decide ((k : Int) < (len : Int)))), (12, .int .i64 (k : Int)), (13, .pointer (some ⟨b4, o5 + k * 7, none⟩)), (14, .agg #[.string x.1, .int .i64 0, .int .i64 0, .string ⟨#[]⟩, .int .i64 x.2.k, .int .i64 x.2.n, .string x.2.s]), (6, .pointer (some ⟨bx, 0, none⟩)), (5, .int .i64 (k : Int)), (15, .pointer (some ⟨b1, 0, none⟩)), (16, .slice A fs.length c), (17, .pointer (some ⟨bx, 0, none⟩)), (18, .string x.1), (19, .pointer (some ⟨bx, 4, none⟩)), (20, .agg #[.int .i64 x.2.k, .int .i64 x.2.n, .string x.2.s]), (21, .int .i64 z), (7, .int .i64 z), (22, .int .i64 z), (23, .bool (z != 0)), (25, .pointer (some ⟨bx, 1, none⟩)), (26, .agg #[.int .i64 0, .int .i64 0, .string ⟨#[]⟩]), (27, .agg #[.int .i64 0, .int .i64 0, .string ⟨#[]⟩]), (28, .bool false), (29, .slice (some ⟨b4, o5, none⟩) len c0), (30, .int .i64 (k : Int)), (31, .slice (some ⟨b4, o5, none⟩) k c0), (32, .func (.func 65) #[] #[.pointer (some ⟨bx, 0, none⟩)]), (33, .bool y), (4, .int .i64 6)] [.box bx [.string x.1, .int .i64 0, .int .i64 0, .string ⟨#[]⟩, .int .i64 x.2.k, .int .i64 x.2.n, .string x.2.s], .box b1 [.slice A fs.length c, .slice (sA pv) (sN pv) (sC pv)]] [(b4, o5 + k * 7, [.string x.1, .int .i64 0, .int .i64 0, .string ⟨#[]⟩, .int .i64 x.2.k, .int .i64 x.2.n, .string x.2.s])]) trivial trivial (fun _ => by kernel_rfl) ?_
        clear hJ a w; intro a w hJ
        refine x_leave rfl ?_
        refine rx hJ false 2 [] [] (.ok (.out .ret) [] [(4, .int .i64 6)] [.box bx [.string x.1, .int .i64 0, .int .i64 0, .string ⟨#[]⟩, .int .i64 x.2.k, .int .i64 x.2.n, .string x.2.s], .box b1 [.slice A fs.length c, .slice (sA pv) (sN pv) (sC pv)]] [(b4, o5 + k * 7, [.string x.1, .int .i64 0, .int .i64 0, .string ⟨#[]⟩, .int .i64 x.2.k, .int .i64 x.2.n, .string x.2.s])]) trivial trivial (fun _ => by kernel_rfl) ?_
        clear hJ a w; intro a w hJ
        refine x_end (hQ [.int .i64 6] _ [] hJ (.rtmp hJ.j (by kernel_rfl) .nil) (no_own _) rfl ?_).1
        exact congrArg (Value.int .i64) hv
      · skip
        rw [if_neg (by rw [hy]; exact Bool.false_ne_true)] at hv
        refine x_false hJ (t := y) (by kernel_rfl) (hy) ?_
        refine rx hJ false 7 [] [(34, .int .i64 (IntKind.i64.wrap ((k : Int) + 1)), .int .i64 ((k : Int) + 1))] (.ok (.out .normal) [] [(1, .slice (some ⟨b4, o5, none⟩) len c0), (2, .pointer (some ⟨b1, 0, none⟩)), (8, .slice (some ⟨b4, o5, none⟩) len c0), (9, .int .i64 (len : Int)), (11, .bool (decide ((k : Int) < (len : Int)))), (12, .int .i64 (k : Int)), (13, .pointer (some ⟨b4, o5 + k * 7, none⟩)), (14, .agg #[.string x.1, .int .i64 0, .int .i64 0, .string ⟨#[]⟩, .int .i64 x.2.k, .int .i64 x.2.n, .string x.2.s]), (6, .pointer (some ⟨bx, 0, none⟩)), (5, .int .i64 (k : Int)), (15, .pointer (some ⟨b1, 0, none⟩)), (16, .slice A fs.length c), (17, .pointer (some ⟨bx, 0, none⟩)), (18, .string x.1), (19, .pointer (some ⟨bx, 4, none⟩)), (20, .agg #[.int .i64 x.2.k, .int .i64 x.2.n, .string x.2.s]), (21, .int .i64 z), (7, .int .i64 z), (22, .int .i64 z), (23, .bool (z != 0)), (25, .pointer (some ⟨bx, 1, none⟩)), (26, .agg #[.int .i64 0, .int .i64 0, .string ⟨#[]⟩]), (27, .agg #[.int .i64 0, .int .i64 0, .string ⟨#[]⟩]), (28, .bool false), (29, .slice (some ⟨b4, o5, none⟩) len c0), (30, .int .i64 (k : Int)), (31, .slice (some ⟨b4, o5, none⟩) k c0), (32, .func (.func 65) #[] #[.pointer (some ⟨bx, 0, none⟩)]), (33, .bool y), (34, .int .i64 ((k : Int) + 1)), (10, .int .i64 ((k : Int) + 1))] [.box bx [.string x.1, .int .i64 0, .int .i64 0, .string ⟨#[]⟩, .int .i64 x.2.k, .int .i64 x.2.n, .string x.2.s], .box b1 [.slice A fs.length c, .slice (sA pv) (sN pv) (sC pv)]] [(b4, o5 + k * 7, [.string x.1, .int .i64 0, .int .i64 0, .string ⟨#[]⟩, .int .i64 x.2.k, .int .i64 x.2.n, .string x.2.s])]) trivial (And.intro (i64_wrap (by omega) (by omega)) (trivial)) (fun _ => by kernel_rfl) ?_
        clear hJ a w; intro a w hJ
        replace hJ := hJ.drop 0
        exact x_round ⟨k + 1, ⟨h7, (hJ.tof [] (F' := []) (by kernel_rfl)).to (by kernel_rfl) (by kernel_rfl) rfl, (s3.trans s8), by omega, (by rw [htk]; exact hv)⟩, by omega⟩
    · skip
      rw [if_neg h1] at hv
      refine x_true hJ (t := z != 0) (by kernel_rfl) (bne_iff_ne.2 h1) ?_
      refine rx hJ false 10 [] [] (.ok (.out .ret) [] [(1, .slice (some ⟨b4, o5, none⟩) len c0), (2, .pointer (some ⟨b1, 0, none⟩)), (8, .slice (some ⟨b4, o5, none⟩) len c0), (9, .int .i64 (len : Int)), (10, .int .i64 (k : Int)), (11, .bool (decide ((k : Int) < (len : Int)))), (12, .int .i64 (k : Int)), (13, .pointer (some ⟨b4, o5 + k * 7, none⟩)), (14, .agg #[.string x.1, .int .i64 0, .int .i64 0, .string ⟨#[]⟩, .int .i64 x.2.k, .int .i64 x.2.n, .string x.2.s]), (6, .pointer (some ⟨bx, 0, none⟩)), (5, .int .i64 (k : Int)), (15, .pointer (some ⟨b1, 0, none⟩)), (16, .slice A fs.length c), (17, .pointer (some ⟨bx, 0, none⟩)), (18, .string x.1), (19, .pointer (some ⟨bx, 4, none⟩)), (20, .agg #[.int .i64 x.2.k, .int .i64 x.2.n, .string x.2.s]), (21, .int .i64 z), (7, .int .i64 z), (22, .int .i64 z), (23, .bool (z != 0)), (24, .int .i64 z), (4, .int .i64 z)] [.box bx [.string x.1, .int .i64 0, .int .i64 0, .string ⟨#[]⟩, .int .i64 x.2.k, .int .i64 x.2.n, .string x.2.s], .box b1 [.slice A fs.length c, .slice (sA pv) (sN pv) (sC pv)]] [(b4, o5 + k * 7, [.string x.1, .int .i64 0, .int .i64 0, .string ⟨#[]⟩, .int .i64 x.2.k, .int .i64 x.2.n, .string x.2.s])]) trivial trivial (fun _ => by kernel_rfl) ?_
      clear hJ a w; intro a w hJ
      refine x_leave rfl ?_
      refine rx hJ false 2 [] [] (.ok (.out .ret) [] [(4, .int .i64 z)] [.box bx [.string x.1, .int .i64 0, .int .i64 0, .string ⟨#[]⟩, .int .i64 x.2.k, .int .i64 x.2.n, .string x.2.s], .box b1 [.slice A fs.length c, .slice (sA pv) (sN pv) (sC pv)]] [(b4, o5 + k * 7, [.string x.1, .int .i64 0, .int .i64 0, .string ⟨#[]⟩, .int .i64 x.2.k, .int .i64 x.2.n, .string x.2.s])]) trivial trivial (fun _ => by kernel_rfl) ?_
      clear hJ a w; intro a w hJ
      refine x_end (hQ [.int .i64 z] _ [] hJ (.rtmp hJ.j (by kernel_rfl) .nil) (no_own _) rfl ?_).1
      exact congrArg (Value.int .i64) hv
  · skip
    have hd : l.drop k = [] := List.drop_eq_nil_of_le (by omega)
    rw [hd] at hv
    have hv : (0 : Int) = factsV fs [] l := hv
    refine x_false hJ (t := decide ((k : Int) < (len : Int))) (by kernel_rfl) (decide_eq_false (by omega)) ?_
    refine rx hJ false 2 [] [] (.ok (.out (.exit 0)) [] [(1, .slice A0 len c0), (2, .pointer (some ⟨b1, 0, none⟩)), (8, .slice A0 len c0), (9, .int .i64 (len : Int)), (10, .int .i64 (k : Int)), (11, .bool (decide ((k : Int) < (len : Int))))] [.box b1 [.slice A fs.length c, .slice (sA pv) (sN pv) (sC pv)]] []) trivial trivial (fun _ => by kernel_rfl) ?_
    clear hJ a w; intro a w hJ
    refine x_leave rfl ?_
    refine rx hJ false 8 [] [] (.ok (.out .ret) [] [(4, .int .i64 0)] [.box b1 [.slice A fs.length c, .slice (sA pv) (sN pv) (sC pv)]] []) trivial trivial (fun _ => by kernel_rfl) ?_
    clear hJ a w; intro a w hJ
    refine x_end (hQ [.int .i64 0] _ [] hJ (.rtmp hJ.j (by kernel_rfl) .nil) (no_own _) rfl ?_).1
    exact congrArg (Value.int .i64) hv

end Go.Proofs.Ytpckomnpeainlab
